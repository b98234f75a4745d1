/-
  Part of the proof that the law FnExactRingCapacity returns true at every input; no condition beside the row's own.
-/
import Derived.Test.YteilpiddonoikaaAa
set_option linter.defProp false
set_option linter.unusedSimpArgs false
set_option linter.unusedVariables false
set_option maxHeartbeats 1000000
set_option maxRecDepth 8000
namespace Vs
open Go Go.Proofs
attribute [local irreducible] AWP stOps eff awpC callA callM
theorem VT1 : (∀ (f : Fl) (x : TFiber), e_TFiber f x = .agg [.i x.A, .i x.B, .i x.Length, .i x.Risk]) ∧
  (∀ (f : Fl) (x : TNetwork), e_TNetwork f x = .agg [.lst f 1 (x.Nodes.map AV.z), .lst f 4 (x.Fibers.map (e_TFiber f))]) := ⟨fun _ _ => rfl, fun _ _ => rfl⟩
theorem VT2 : (∀ (f : Fl) (x : TFiber), (e_TFiber f x).nrm = e_TFiber .o x) ∧
  (∀ (f : Fl) (xs : List TFiber), (xs.map (e_TFiber f)).map AV.nrm = xs.map (e_TFiber .o)) ∧
  (∀ (f : Fl) (x : TFiber), (e_TFiber f x).als = e_TFiber f.als x) ∧
  (∀ (f : Fl) (xs : List TFiber), (xs.map (e_TFiber f)).map AV.als = xs.map (e_TFiber f.als)) ∧
  (∀ (f : Fl) (x : TFiber), (e_TFiber f x).fix = e_TFiber f.fix x) ∧
  (∀ (f : Fl) (xs : List TFiber), (xs.map (e_TFiber f)).map AV.fix = xs.map (e_TFiber f.fix)) ∧
  (∀ (f : Fl) (x : TNetwork), (e_TNetwork f x).nrm = e_TNetwork .o x) ∧
  (∀ (f : Fl) (xs : List TNetwork), (xs.map (e_TNetwork f)).map AV.nrm = xs.map (e_TNetwork .o)) ∧
  (∀ (f : Fl) (x : TNetwork), (e_TNetwork f x).als = e_TNetwork f.als x) ∧
  (∀ (f : Fl) (xs : List TNetwork), (xs.map (e_TNetwork f)).map AV.als = xs.map (e_TNetwork f.als)) ∧
  (∀ (f : Fl) (x : TNetwork), (e_TNetwork f x).fix = e_TNetwork f.fix x) ∧
  (∀ (f : Fl) (xs : List TNetwork), (xs.map (e_TNetwork f)).map AV.fix = xs.map (e_TNetwork f.fix)) :=
  ⟨@e_TFiber_nrm, @e_TFiber_nrmm, @e_TFiber_als, @e_TFiber_alsm, @e_TFiber_fix, @e_TFiber_fixm, @e_TNetwork_nrm, @e_TNetwork_nrmm, @e_TNetwork_als, @e_TNetwork_alsm, @e_TNetwork_fix, @e_TNetwork_fixm⟩
theorem VF1 : (∀ (f : Fl) (x : TFiber), (e_TFiber f x).fix = e_TFiber f.fix x) ∧
  (∀ (f : Fl) (xs : List TFiber), (xs.map (e_TFiber f)).map AV.fix = xs.map (e_TFiber f.fix)) ∧
  (∀ (f : Fl) (x : TNetwork), (e_TNetwork f x).fix = e_TNetwork f.fix x) ∧
  (∀ (f : Fl) (xs : List TNetwork), (xs.map (e_TNetwork f)).map AV.fix = xs.map (e_TNetwork f.fix)) :=
  ⟨@e_TFiber_fix, @e_TFiber_fixm, @e_TNetwork_fix, @e_TNetwork_fixm⟩
theorem VZ1 : (∀ (x : TFiber), (e_TFiber .o x).fz = true) ∧
  (∀ (xs : List TFiber), fzL (xs.map (e_TFiber .o)) = true) ∧
  (∀ (x : TFiber), (e_TFiber .u x).ouB = true) ∧
  (∀ (xs : List TFiber), ouBL (xs.map (e_TFiber .u)) = true) ∧
  (∀ (x : TNetwork), (e_TNetwork .o x).fz = true) ∧
  (∀ (xs : List TNetwork), fzL (xs.map (e_TNetwork .o)) = true) ∧
  (∀ (x : TNetwork), (e_TNetwork .u x).ouB = true) ∧
  (∀ (xs : List TNetwork), ouBL (xs.map (e_TNetwork .u)) = true) :=
  ⟨@e_TFiber_fz, @e_TFiber_fzm, @e_TFiber_ou, @e_TFiber_oum, @e_TNetwork_fz, @e_TNetwork_fzm, @e_TNetwork_ou, @e_TNetwork_oum⟩
theorem Zr {α : Type} (n : Nat) (a : α) : (List.replicate n a).length = n := List.length_replicate
theorem ZA {A B : Prop} (a : A) (b : B) : A ∧ B := ⟨a, b⟩
theorem ZF {A : Prop} (a : A) {P Q : Prop} (k : Q) (e : A → P = Q := by intro a; simp only [VS1, VS2, VS3, VS4, VS5, VS6, VT1, VT2, finM_ret, finM_nrm, decide_true, decide_false, List.nodup_nil, List.nodup_cons, oks_p, oks_m, oks_h, ne_eq, not_false_eq_true, Int.reduceEq, Int.reduceNe, true_and, Nat.reduceSub, Nat.reduceMul, ↓reduceIte, reduceCtorEq, Nat.reduceEqDiff, Nat.reduceAdd, Nat.reduceLeDiff, Int.reduceLE, a]; exact Eq.refl _) : P := (e a).mpr k
theorem ZG {P Q : Prop} (k : Q) (e : P = Q := by simp only [VA, VF1, ↓reduceIte, Nat.reduceEqDiff, Nat.reduceAdd, Nat.reduceMul, Nat.reduceSub, Nat.reduceLeDiff]; exact Eq.refl _) : P := e.mpr k
theorem ZL {A : Prop} (a : A) {B : Prop} (b : B) {P : Prop} (e : A → B → P := by intro a b; (try simp only [VS1, VS2, VS3, VS4, VS5, VS6, VT1, VT2, finM_ret, finM_nrm, decide_true, decide_false, List.nodup_nil, List.nodup_cons, oks_p, oks_m, oks_h, ne_eq, not_false_eq_true, Int.reduceEq, Int.reduceNe, true_and, Nat.reduceSub, Nat.reduceMul, ↓reduceIte, reduceCtorEq, Nat.reduceEqDiff, Nat.reduceAdd, Nat.reduceLeDiff, Int.reduceLE, a]); all_goals simp [qL, qJ, qJ0, qS, qX, qR, qM, Shp, sub, tupd, finM_ret, finM_nrm, VS1, VS2, VS3, VS4, VS5, VS6, VT1, VT2, b]) : P := e a b
theorem ZK {B : Prop} (b : B) {P : Prop} (e : B → P := by intro b; simp [qL, qJ, qJ0, qS, qX, qR, qM, Shp, sub, tupd, finM_ret, finM_nrm, VS1, VS2, VS3, VS4, VS5, VS6, VT1, VT2, b]) : P := e b
theorem ZS {A : Prop} (a : A) {W : Prop} (w : W) {ok : Oks} {ρ : Nat → Option Row} {d f : Nat} {args : List AV} {K : AV → List (Nat × Row) → Prop} {v : Value} (hk : K (.sc v) [])
    (e : A → W → ok.p f (args.map (snp ρ 4)) (.sc v) := by intro a w; simp only [VS1, VS2, VS3, VS4, VS5, VS6, VT1, VT2, finM_ret, finM_nrm, decide_true, decide_false, List.nodup_nil, List.nodup_cons, oks_p, oks_m, oks_h, ne_eq, not_false_eq_true, Int.reduceEq, Int.reduceNe, true_and, Nat.reduceSub, Nat.reduceMul, ↓reduceIte, reduceCtorEq, Nat.reduceEqDiff, Nat.reduceAdd, Nat.reduceLeDiff, Int.reduceLE, a]; exact w) : callA ok ρ d f args K := call_s (e a w) hk
theorem ZU {A : Prop} (a : A) {W : Prop} (w : W) {ok : Oks} {ρ : Nat → Option Row} {d f : Nat} {args : List AV} {K : AV → List (Nat × Row) → Prop} {res : AV} (hk : K (adopt 4 d res).1 (adopt 4 d res).2.1)
    (e : A → W → ok.p f (args.map (snp ρ 4)) res := by intro a w; simp only [VS1, VS2, VS3, VS4, VS5, VS6, VT1, VT2, finM_ret, finM_nrm, decide_true, decide_false, List.nodup_nil, List.nodup_cons, oks_p, oks_m, oks_h, ne_eq, not_false_eq_true, Int.reduceEq, Int.reduceNe, true_and, Nat.reduceSub, Nat.reduceMul, ↓reduceIte, reduceCtorEq, Nat.reduceEqDiff, Nat.reduceAdd, Nat.reduceLeDiff, Int.reduceLE, a]; exact w) (hu : res.allU := by simp [AV.allU, allUL, allUL_iff, VT1, VT2]) (hn : ∀ p ∈ (adopt 4 d res).2.1, ρ p.1 = none ∧ p.1 < 1000000000 := by simp only [VS1, VS2, VS3, VS4, VS5, VS6, VT1, VT2, finM_ret, finM_nrm, decide_true, decide_false, List.nodup_nil, List.nodup_cons, oks_p, oks_m, oks_h, ne_eq, not_false_eq_true, Int.reduceEq, Int.reduceNe, true_and, Nat.reduceSub, Nat.reduceMul, ↓reduceIte, reduceCtorEq, Nat.reduceEqDiff, Nat.reduceAdd, Nat.reduceLeDiff, Int.reduceLE, Nat.reduceLT]) : callA ok ρ d f args K := call_u (e a w) hu hn hk
theorem ZQ {P : Prop} (e : P := by simp [VS1, VS2, VS3, VS4, VS5, VS6, VT1, VT2]) : P := e
theorem ZW {A : Prop} (a : A) {W : Prop} (w : W) {ok : Oks} {ρ : Nat → Option Row} {d f : Nat} {args : List AV} {rs : List Nat} {K : AV → List (Nat × Row) → Prop} {res : AV} {outs : List (Nat × Row)}
    (e : A → W → ok.m f (args.map (AV.rg (cnm rs))) (rs.map (rowIn ρ rs)) res outs := by intro a w; simp only [VS1, VS2, VS3, VS4, VS5, VS6, VT1, VT2, finM_ret, finM_nrm, decide_true, decide_false, List.nodup_nil, List.nodup_cons, oks_p, oks_m, oks_h, ne_eq, not_false_eq_true, Int.reduceEq, Int.reduceNe, true_and, Nat.reduceSub, Nat.reduceMul, ↓reduceIte, reduceCtorEq, Nat.reduceEqDiff, Nat.reduceAdd, Nat.reduceLeDiff, Int.reduceLE, a]; first | exact w | (simp only [VS1, VS2, VS3, VS4, VS5, VS6, VT1, VT2, finM_ret, finM_nrm, decide_true, decide_false, List.nodup_nil, List.nodup_cons, oks_p, oks_m, oks_h, ne_eq, not_false_eq_true, Int.reduceEq, Int.reduceNe, true_and, Nat.reduceSub, Nat.reduceMul, ↓reduceIte, reduceCtorEq, Nat.reduceEqDiff, Nat.reduceAdd, Nat.reduceLeDiff, Int.reduceLE, a] at w; exact w))
    (h1 : rs.Nodup ∧ (∀ r ∈ rs, isLive (ρ r)) ∧ (∀ r ∈ rs, ∀ q ∈ oments (ρ r), q ∈ rs) ∧ (∀ r ∈ mentsL args, r ∈ rs) := by simp [VS1, VS2, VS3, VS4, VS5, VS6, VT1, VT2])
    (h2 : (outs.map fun p => bkn d rs p.1).Nodup ∧ (∀ p ∈ outs, 1000000000 ≤ p.1 → p.1 - 1000000000 < rs.length) ∧ (∀ p ∈ outs, p.1 < 1000000000 → ρ (bkn d rs p.1) = none ∧ bkn d rs p.1 < 1000000000))
    (hk : K (res.rg (bkn d rs)) (gone rs ++ outs.map (rowBk d rs))) : callM ok ρ d f args rs K := call_m (e a w) h1 h2 hk
def S_laws_szStringSL1 (aZ0 : List ByteArray) (v : Int × Int) : St := ⟨[(0, .lst .o 1 (aZ0.map AV.z)), (1, .i v.1), (5, .i v.2)], []⟩
def SX_laws_szStringSL1 (v : Int) : St := ⟨[(1, .i v)], []⟩
theorem w_laws_szStringSL1 (aZ0 : List ByteArray) (sZ2 : Int × Int) (o : (Int × Int) ⊕ (Int ⊕ Int)) (h : M_laws_szStringSL1 aZ0 sZ2 = some o) : AWP (OkS Try.prog) A38L1 (qL [0, 1, 5] [] (S_laws_szStringSL1 aZ0) (qS (qX 0 [1] [] (SX_laws_szStringSL1)) (qR V38 (fun r => .i r))) o) (S_laws_szStringSL1 aZ0 sZ2) := by
  unfold M_laws_szStringSL1 at h
  simp only [ZC, S_laws_szStringSL1, A38L1]
  obtain ⟨cZ3, h⟩ | ⟨cZ3, h⟩ := cond_s h
  · obtain ⟨yZ4, hyZ4, h⟩ := bind_s h
    obtain ⟨hyZ4a, hyZ4b⟩ := geti_s hyZ4
    obtain ⟨cZ5, h⟩ | ⟨cZ5, h⟩ := cond_s h
    · cases h
      exact ZL (ZA cZ3 (ZA hyZ4a (ZA hyZ4b cZ5))) V38.eq_1
    · cases h
      exact ZL (ZA cZ3 (ZA hyZ4a (ZA hyZ4b cZ5))) (ZA S_laws_szStringSL1.eq_1 SX_laws_szStringSL1.eq_1)
  · cases h
    exact ZL cZ3 (ZA S_laws_szStringSL1.eq_1 SX_laws_szStringSL1.eq_1)
theorem w_laws_szStringS (aZ0 : List ByteArray) (leftZ0 : Int) {r : Int} (h : M_laws_szStringS aZ0 leftZ0 = some r) : Ok Try.prog 38 [.lst .o 1 (aZ0.map AV.z), .i leftZ0] ((fun r => .i r) r) := by
  refine ok_of_body hmix m38 rfl ?_
  unfold M_laws_szStringS at h
  simp only [ZC, A38, V38, body_eq]
  obtain ⟨cZ1, h⟩ | ⟨cZ1, h⟩ := cond_s h
  · cases h
    exact ZL cZ1 V38.eq_1
  · obtain ⟨oZ6, hoZ6, h⟩ := bind_s h
    try refine ZF cZ1 ?_
    refine join_rule (o := oZ6) (blk_rule sideR (loop_rule (w_laws_szStringSL1 aZ0) hoZ6 ?_)) (fun vZ7 hv => ?_) (fun xZ8 hv e τ hne hq => ?_)
    · exact ZK (ZA S_laws_szStringSL1.eq_1 SX_laws_szStringSL1.eq_1)
    · subst hv
      simp only [] at h
      simp only [ZC, SX_laws_szStringSL1, A38R2]
      cases h
      exact ZL cZ1 V38.eq_1
    · subst hv
      simp only [] at h
      obtain ⟨rfl, qZ9⟩ := hq
      cases h
      exact qZ9
theorem w_laws_szFiberS (aZ0 : List TFiber) (leftZ0 : Int) {r : Int} (h : M_laws_szFiberS aZ0 leftZ0 = some r) : Ok Try.prog 39 [.lst .o 4 (aZ0.map (e_TFiber .o)), .i leftZ0] ((fun r => .i r) r) := by
  refine ok_of_body hmix m39 rfl ?_
  unfold M_laws_szFiberS at h
  simp only [ZC, A39, V39, body_eq]
  obtain ⟨cZ1, h⟩ | ⟨cZ1, h⟩ := cond_s h
  · cases h
    exact ZL cZ1 V39.eq_1
  · cases h
    exact ZL cZ1 V39.eq_1
theorem w_laws_szNetwork (aZ0 : TNetwork) (leftZ0 : Int) {r : Int} (h : M_laws_szNetwork aZ0 leftZ0 = some r) : Ok Try.prog 10 [.agg [.lst .o 1 (aZ0.Nodes.map AV.z), .lst .o 4 (aZ0.Fibers.map (e_TFiber .o))], .i leftZ0] ((fun r => .i r) r) := by
  refine ok_of_body hmix m10 rfl ?_
  unfold M_laws_szNetwork at h
  simp only [ZC, A10, V10, body_eq]
  obtain ⟨rZ1, hrZ1, h⟩ := bind_s h
  refine ZF trivial ?_
  refine ZS trivial (w_laws_szStringS _ _ hrZ1) ?_
  refine ZG ?_
  obtain ⟨cZ2, h⟩ | ⟨cZ2, h⟩ := cond_s h
  · cases h
    exact ZL cZ2 V10.eq_1
  · obtain ⟨rZ3, hrZ3, h⟩ := bind_s h
    refine ZF cZ2 ?_
    refine ZS cZ2 (w_laws_szFiberS _ _ hrZ3) ?_
    refine ZG ?_
    obtain ⟨cZ4, h⟩ | ⟨cZ4, h⟩ := cond_s h
    · cases h
      exact ZL (ZA cZ2 cZ4) V10.eq_1
    · cases h
      exact ZL (ZA cZ2 cZ4) V10.eq_1
def S_laws_toStringSL1 (aZ0 : List ByteArray) (v : Int × List ByteArray) : St := ⟨[(0, .lst .o 1 (aZ0.map AV.z)), (3, .sl 3 0 v.2.length), (4, .i v.1)], [(3, .arr 1 (v.2.map AV.z))]⟩
def SX_laws_toStringSL1 (v : List ByteArray) : St := ⟨[(3, .sl 3 0 v.length)], [(3, .arr 1 (v.map AV.z))]⟩
theorem w_laws_toStringSL1 (aZ0 : List ByteArray) (sZ4 : Int × List ByteArray) (o : (Int × List ByteArray) ⊕ (List ByteArray)) (h : M_laws_toStringSL1 aZ0 sZ4 = some o) : AWP (OkS Try.prog) A42L1 (qL [0, 3, 4] [3] (S_laws_toStringSL1 aZ0) (qX 0 [3] [3] (SX_laws_toStringSL1)) o) (S_laws_toStringSL1 aZ0 sZ4) := by
  unfold M_laws_toStringSL1 at h
  simp only [ZC, S_laws_toStringSL1, A42L1]
  obtain ⟨cZ5, h⟩ | ⟨cZ5, h⟩ := cond_s h
  · obtain ⟨yZ6, hyZ6, h⟩ := bind_s h
    obtain ⟨hyZ6a, hyZ6b⟩ := geti_s hyZ6
    obtain ⟨kZ7, hkZ7, h⟩ := bind_s h
    obtain ⟨hkZ7a, hkZ7b⟩ := grd_s hkZ7
    obtain ⟨yZ8, hyZ8, h⟩ := bind_s h
    obtain ⟨lZ9, hlZ9, h⟩ := bnd_s h
    have eZ10 : (sZ4.2.map AV.z).set (Int.toNat sZ4.1) (.z yZ6) = lZ9.map AV.z := by rw [← hlZ9, List.map_set]
    cases h
    exact ZL (ZA cZ5 (ZA hyZ6a (ZA hyZ6b (ZA hkZ7a (ZA hkZ7b (ZA hyZ8 eZ10)))))) (ZA S_laws_toStringSL1.eq_1 (ZA SX_laws_toStringSL1.eq_1 hlZ9.symm))
  · cases h
    exact ZL cZ5 (ZA S_laws_toStringSL1.eq_1 SX_laws_toStringSL1.eq_1)
theorem w_laws_toStringS (aZ0 : List ByteArray) {r : List ByteArray} (h : M_laws_toStringS aZ0 = some r) : Ok Try.prog 42 [.lst .o 1 (aZ0.map AV.z)] ((fun r => .lst .u 1 (r.map AV.z)) r) := by
  refine ok_of_body hmix m42 rfl ?_
  unfold M_laws_toStringS at h
  simp only [ZC, A42, V42, body_eq]
  obtain ⟨uZ1, huZ1, h⟩ := bind_s h
  obtain ⟨huZ11, huZ12, huZ13, huZ14⟩ := grd_s huZ1
  obtain ⟨lZ2, hlZ2, h⟩ := bnd_s h
  have eZ3 : List.replicate (Int.toNat (aZ0.length : Int)) (.z (⟨#[]⟩ : ByteArray) : AV) = lZ2.map AV.z := by rw [← hlZ2, List.map_replicate]
  obtain ⟨oZ11, hoZ11, h⟩ := bind_s h
  try refine ZF (ZA huZ11 (ZA huZ12 (ZA huZ13 (ZA huZ14 eZ3)))) ?_
  refine join_rule0 (blk_rule0 (loop_rule (w_laws_toStringSL1 aZ0) hoZ11 ?_)) ?_
  · exact ZK (ZA S_laws_toStringSL1.eq_1 (ZA SX_laws_toStringSL1.eq_1 (ZA hlZ2.symm @Zr)))
  · simp only [ZC, SX_laws_toStringSL1, A42R2]
    cases h
    exact ZL (ZA huZ11 (ZA huZ12 (ZA huZ13 (ZA huZ14 eZ3)))) V42.eq_1
theorem w_laws_toFiber (aZ0 : TFiber) {r : TFiber} (h : M_laws_toFiber aZ0 = some r) : Ok Try.prog 79 [.agg [.i aZ0.A, .i aZ0.B, .i aZ0.Length, .i aZ0.Risk]] ((fun r => .agg [.i r.A, .i r.B, .i r.Length, .i r.Risk]) r) := by
  refine ok_of_body hmix m79 rfl ?_
  unfold M_laws_toFiber at h
  simp only [ZC, A79, V79, body_eq]
  cases h
  exact ZL trivial V79.eq_1
def S_laws_toFiberSL1 (aZ0 : List TFiber) (v : Int × List TFiber) : St := ⟨[(0, .lst .o 4 (aZ0.map (e_TFiber .o))), (3, .sl 3 0 v.2.length), (4, .i v.1)], [(3, .arr 4 (v.2.map (e_TFiber .u)))]⟩
def SX_laws_toFiberSL1 (v : List TFiber) : St := ⟨[(3, .sl 3 0 v.length)], [(3, .arr 4 (v.map (e_TFiber .u)))]⟩
theorem w_laws_toFiberSL1 (aZ0 : List TFiber) (sZ4 : Int × List TFiber) (o : (Int × List TFiber) ⊕ (List TFiber)) (h : M_laws_toFiberSL1 aZ0 sZ4 = some o) : AWP (OkS Try.prog) A43L1 (qL [0, 3, 4] [3] (S_laws_toFiberSL1 aZ0) (qX 0 [3] [3] (SX_laws_toFiberSL1)) o) (S_laws_toFiberSL1 aZ0 sZ4) := by
  unfold M_laws_toFiberSL1 at h
  simp only [ZC, S_laws_toFiberSL1, A43L1]
  obtain ⟨cZ5, h⟩ | ⟨cZ5, h⟩ := cond_s h
  · obtain ⟨yZ6, hyZ6, h⟩ := bind_s h
    obtain ⟨hyZ6a, hyZ6b⟩ := geti_s hyZ6
    obtain ⟨rZ7, hrZ7, h⟩ := bind_s h
    refine ZF (ZA cZ5 (ZA hyZ6a hyZ6b)) ?_
    refine ZU (ZA cZ5 (ZA hyZ6a hyZ6b)) (w_laws_toFiber _ hrZ7) ?_
    refine ZG ?_
    obtain ⟨kZ8, hkZ8, h⟩ := bind_s h
    obtain ⟨hkZ8a, hkZ8b⟩ := grd_s hkZ8
    obtain ⟨yZ9, hyZ9, h⟩ := bind_s h
    obtain ⟨lZ10, hlZ10, h⟩ := bnd_s h
    have eZ11 : (sZ4.2.map (e_TFiber .u)).set (Int.toNat sZ4.1) (.agg [.i rZ7.A, .i rZ7.B, .i rZ7.Length, .i rZ7.Risk]) = lZ10.map (e_TFiber .u) := by rw [← hlZ10, List.map_set]; rfl
    cases h
    exact ZL (ZA cZ5 (ZA hyZ6a (ZA hyZ6b (ZA hkZ8a (ZA hkZ8b (ZA hyZ9 eZ11)))))) (ZA S_laws_toFiberSL1.eq_1 (ZA SX_laws_toFiberSL1.eq_1 hlZ10.symm))
  · cases h
    exact ZL cZ5 (ZA S_laws_toFiberSL1.eq_1 SX_laws_toFiberSL1.eq_1)
theorem w_laws_toFiberS (aZ0 : List TFiber) {r : List TFiber} (h : M_laws_toFiberS aZ0 = some r) : Ok Try.prog 43 [.lst .o 4 (aZ0.map (e_TFiber .o))] ((fun r => .lst .u 4 (r.map (e_TFiber .u))) r) := by
  refine ok_of_body hmix m43 rfl ?_
  unfold M_laws_toFiberS at h
  simp only [ZC, A43, V43, body_eq]
  obtain ⟨uZ1, huZ1, h⟩ := bind_s h
  obtain ⟨huZ11, huZ12, huZ13, huZ14⟩ := grd_s huZ1
  obtain ⟨lZ2, hlZ2, h⟩ := bnd_s h
  have eZ3 : List.replicate (Int.toNat (aZ0.length : Int)) (.agg [.i 0, .i 0, .i 0, .i 0] : AV) = lZ2.map (e_TFiber .u) := by rw [← hlZ2, List.map_replicate]; rfl
  obtain ⟨oZ12, hoZ12, h⟩ := bind_s h
  try refine ZF (ZA huZ11 (ZA huZ12 (ZA huZ13 (ZA huZ14 eZ3)))) ?_
  refine join_rule0 (blk_rule0 (loop_rule (w_laws_toFiberSL1 aZ0) hoZ12 ?_)) ?_
  · exact ZK (ZA S_laws_toFiberSL1.eq_1 (ZA SX_laws_toFiberSL1.eq_1 (ZA hlZ2.symm @Zr)))
  · simp only [ZC, SX_laws_toFiberSL1, A43R2]
    cases h
    exact ZL (ZA huZ11 (ZA huZ12 (ZA huZ13 (ZA huZ14 eZ3)))) V43.eq_1
theorem w_laws_toNetwork (aZ0 : TNetwork) {r : TNetwork} (h : M_laws_toNetwork aZ0 = some r) : Ok Try.prog 12 [.agg [.lst .o 1 (aZ0.Nodes.map AV.z), .lst .o 4 (aZ0.Fibers.map (e_TFiber .o))]] ((fun r => .agg [.lst .u 1 (r.Nodes.map AV.z), .lst .u 4 (r.Fibers.map (e_TFiber .u))]) r) := by
  refine ok_of_body hmix m12 rfl ?_
  unfold M_laws_toNetwork at h
  simp only [ZC, A12, V12, body_eq]
  obtain ⟨rZ1, hrZ1, h⟩ := bind_s h
  refine ZF trivial ?_
  refine ZU trivial (w_laws_toStringS _ hrZ1) ?_
  refine ZG ?_
  obtain ⟨rZ2, hrZ2, h⟩ := bind_s h
  refine ZF trivial ?_
  refine ZU trivial (w_laws_toFiberS _ hrZ2) ?_
  refine ZG ?_
  cases h
  exact ZL trivial V12.eq_1
def S_laws_toIntSL1 (aZ0 : List Int) (v : Int × List Int) : St := ⟨[(0, .lst .o 1 (aZ0.map AV.i)), (3, .sl 3 0 v.2.length), (4, .i v.1)], [(3, .arr 1 (v.2.map AV.i))]⟩
def SX_laws_toIntSL1 (v : List Int) : St := ⟨[(3, .sl 3 0 v.length)], [(3, .arr 1 (v.map AV.i))]⟩
theorem w_laws_toIntSL1 (aZ0 : List Int) (sZ4 : Int × List Int) (o : (Int × List Int) ⊕ (List Int)) (h : M_laws_toIntSL1 aZ0 sZ4 = some o) : AWP (OkS Try.prog) A13L1 (qL [0, 3, 4] [3] (S_laws_toIntSL1 aZ0) (qX 0 [3] [3] (SX_laws_toIntSL1)) o) (S_laws_toIntSL1 aZ0 sZ4) := by
  unfold M_laws_toIntSL1 at h
  simp only [ZC, S_laws_toIntSL1, A13L1]
  obtain ⟨cZ5, h⟩ | ⟨cZ5, h⟩ := cond_s h
  · obtain ⟨yZ6, hyZ6, h⟩ := bind_s h
    obtain ⟨hyZ6a, hyZ6b⟩ := geti_s hyZ6
    obtain ⟨kZ7, hkZ7, h⟩ := bind_s h
    obtain ⟨hkZ7a, hkZ7b⟩ := grd_s hkZ7
    obtain ⟨yZ8, hyZ8, h⟩ := bind_s h
    obtain ⟨lZ9, hlZ9, h⟩ := bnd_s h
    have eZ10 : (sZ4.2.map AV.i).set (Int.toNat sZ4.1) (.i yZ6) = lZ9.map AV.i := by rw [← hlZ9, List.map_set]
    cases h
    exact ZL (ZA cZ5 (ZA hyZ6a (ZA hyZ6b (ZA hkZ7a (ZA hkZ7b (ZA hyZ8 eZ10)))))) (ZA S_laws_toIntSL1.eq_1 (ZA SX_laws_toIntSL1.eq_1 hlZ9.symm))
  · cases h
    exact ZL cZ5 (ZA S_laws_toIntSL1.eq_1 SX_laws_toIntSL1.eq_1)
theorem w_laws_toIntS (aZ0 : List Int) {r : List Int} (h : M_laws_toIntS aZ0 = some r) : Ok Try.prog 13 [.lst .o 1 (aZ0.map AV.i)] ((fun r => .lst .u 1 (r.map AV.i)) r) := by
  refine ok_of_body hmix m13 rfl ?_
  unfold M_laws_toIntS at h
  simp only [ZC, A13, V13, body_eq]
  obtain ⟨uZ1, huZ1, h⟩ := bind_s h
  obtain ⟨huZ11, huZ12, huZ13, huZ14⟩ := grd_s huZ1
  obtain ⟨lZ2, hlZ2, h⟩ := bnd_s h
  have eZ3 : List.replicate (Int.toNat (aZ0.length : Int)) (.i 0 : AV) = lZ2.map AV.i := by rw [← hlZ2, List.map_replicate]
  obtain ⟨oZ11, hoZ11, h⟩ := bind_s h
  try refine ZF (ZA huZ11 (ZA huZ12 (ZA huZ13 (ZA huZ14 eZ3)))) ?_
  refine join_rule0 (blk_rule0 (loop_rule (w_laws_toIntSL1 aZ0) hoZ11 ?_)) ?_
  · exact ZK (ZA S_laws_toIntSL1.eq_1 (ZA SX_laws_toIntSL1.eq_1 (ZA hlZ2.symm @Zr)))
  · simp only [ZC, SX_laws_toIntSL1, A13R2]
    cases h
    exact ZL (ZA huZ11 (ZA huZ12 (ZA huZ13 (ZA huZ14 eZ3)))) V13.eq_1
theorem w_spec_l1In (xZ0 : Int) (aZ0 : Int) (bZ0 : Int) {r : Bool} (h : M_spec_l1In xZ0 aZ0 bZ0 = some r) : Ok Try.prog 53 [.i xZ0, .i aZ0, .i bZ0] ((fun r => .b r) r) := by
  refine ok_of_body hmix m53 rfl ?_
  unfold M_spec_l1In at h
  simp only [ZC, A53, V53, body_eq]
  obtain ⟨cZ1, h⟩ | ⟨cZ1, h⟩ := cond_s h
  · cases h
    exact ZL cZ1 V53.eq_1
  · cases h
    exact ZL cZ1 V53.eq_1
theorem w_spec_l2Sign (bZ0 : Int) {r : Bool} (h : M_spec_l2Sign bZ0 = some r) : Ok Try.prog 108 [.sc (.int .u8 bZ0)] ((fun r => .b r) r) := by
  refine ok_of_body hmix m108 rfl ?_
  unfold M_spec_l2Sign at h
  simp only [ZC, A108, V108, body_eq]
  obtain ⟨cZ1, h⟩ | ⟨cZ1, h⟩ := cond_s h
  · obtain ⟨cZ2, h⟩ | ⟨cZ2, h⟩ := cond_s h
    · cases h
      exact ZL (ZA cZ1 cZ2) V108.eq_1
    · obtain ⟨cZ3, h⟩ | ⟨cZ3, h⟩ := cond_s h
      · cases h
        exact ZL (ZA cZ1 (ZA cZ2 cZ3)) V108.eq_1
      · cases h
        exact ZL (ZA cZ1 (ZA cZ2 cZ3)) V108.eq_1
  · obtain ⟨cZ4, h⟩ | ⟨cZ4, h⟩ := cond_s h
    · cases h
      exact ZL (ZA cZ1 cZ4) V108.eq_1
    · cases h
      exact ZL (ZA cZ1 cZ4) V108.eq_1
def S_spec_l2NameL1 (sZ0 : ByteArray) (v : Int) : St := ⟨[(0, .z sZ0), (3, .i v)], []⟩
def SX_spec_l2NameL1 (v : Unit) : St := ⟨[], []⟩
theorem w_spec_l2NameL1 (sZ0 : ByteArray) (sZ7 : Int) (o : Int ⊕ (Unit ⊕ Bool)) (h : M_spec_l2NameL1 sZ0 sZ7 = some o) : AWP (OkS Try.prog) A72L2 (qL [0, 3] [] (S_spec_l2NameL1 sZ0) (qS (qX 0 [] [] (SX_spec_l2NameL1)) (qR V72 (fun r => .b r))) o) (S_spec_l2NameL1 sZ0 sZ7) := by
  unfold M_spec_l2NameL1 at h
  simp only [ZC, S_spec_l2NameL1, A72L2]
  obtain ⟨cZ8, h⟩ | ⟨cZ8, h⟩ := cond_s h
  · obtain ⟨yZ9, hyZ9, h⟩ := bind_s h
    obtain ⟨hyZ9a, hyZ9b⟩ := getz_s hyZ9
    obtain ⟨rZ10, hrZ10, h⟩ := bind_s h
    refine ZF (ZA cZ8 (ZA hyZ9a hyZ9b)) ?_
    refine ZS (ZA cZ8 (ZA hyZ9a hyZ9b)) (w_spec_l2Sign _ hrZ10) ?_
    refine ZG ?_
    obtain ⟨cZ11, h⟩ | ⟨cZ11, h⟩ := cond_s h
    · cases h
      exact ZL (ZA cZ8 (ZA hyZ9a (ZA hyZ9b cZ11))) V72.eq_1
    · cases h
      exact ZL (ZA cZ8 (ZA hyZ9a (ZA hyZ9b cZ11))) (ZA S_spec_l2NameL1.eq_1 SX_spec_l2NameL1.eq_1)
  · cases h
    exact ZL cZ8 (ZA S_spec_l2NameL1.eq_1 SX_spec_l2NameL1.eq_1)
theorem w_spec_l2Name (sZ0 : ByteArray) {r : Bool} (h : M_spec_l2Name sZ0 = some r) : Ok Try.prog 72 [.z sZ0] ((fun r => .b r) r) := by
  refine ok_of_body hmix m72 rfl ?_
  unfold M_spec_l2Name at h
  simp only [ZC, A72, V72, body_eq]
  obtain ⟨oZ5, hoZ5, h⟩ := bind_s h
  try refine ZF trivial ?_
  refine join_rule0 (sh := (fun v => ⟨[(0, .z sZ0), (17, .b v)], []⟩)) (s := oZ5) ?_ ?_
  · replace h := hoZ5
    obtain ⟨rZ1, hrZ1, h⟩ := bind_s h
    refine ZF trivial ?_
    refine ZS trivial (w_spec_l1In _ _ _ hrZ1) ?_
    refine ZG ?_
    obtain ⟨cZ2, h⟩ | ⟨cZ2, h⟩ := cond_s h
    · cases h
      exact ZL cZ2 trivial
    · obtain ⟨yZ3, hyZ3, h⟩ := bind_s h
      obtain ⟨hyZ3a, hyZ3b⟩ := getz_s hyZ3
      obtain ⟨cZ4, h⟩ | ⟨cZ4, h⟩ := cond_s h
      · cases h
        exact ZL (ZA cZ2 (ZA hyZ3a (ZA hyZ3b cZ4))) trivial
      · cases h
        exact ZL (ZA cZ2 (ZA hyZ3a (ZA hyZ3b cZ4))) trivial
  · simp only [ZC, A72R1]
    obtain ⟨cZ6, h⟩ | ⟨cZ6, h⟩ := cond_s h
    · cases h
      exact ZL cZ6 V72.eq_1
    · obtain ⟨oZ12, hoZ12, h⟩ := bind_s h
      try refine ZF cZ6 ?_
      refine join_rule (o := oZ12) (blk_rule sideR (loop_rule (w_spec_l2NameL1 sZ0) hoZ12 ?_)) (fun vZ13 hv => ?_) (fun xZ14 hv e τ hne hq => ?_)
      · exact ZK (ZA S_spec_l2NameL1.eq_1 SX_spec_l2NameL1.eq_1)
      · subst hv
        simp only [] at h
        simp only [ZC, SX_spec_l2NameL1, A72R3]
        cases h
        exact ZL cZ6 V72.eq_1
      · subst hv
        simp only [] at h
        obtain ⟨rfl, qZ15⟩ := hq
        cases h
        exact qZ15
def S_spec_l2FindL1 (listZ0 : List ByteArray) (nameZ0 : ByteArray) (v : Int) : St := ⟨[(0, .lst .o 1 (listZ0.map AV.z)), (1, .z nameZ0), (5, .i v)], []⟩
def SX_spec_l2FindL1 (v : Unit) : St := ⟨[], []⟩
theorem w_spec_l2FindL1 (listZ0 : List ByteArray) (nameZ0 : ByteArray) (sZ1 : Int) (o : Int ⊕ (Unit ⊕ Int)) (h : M_spec_l2FindL1 listZ0 nameZ0 sZ1 = some o) : AWP (OkS Try.prog) A73L1 (qL [0, 1, 5] [] (S_spec_l2FindL1 listZ0 nameZ0) (qS (qX 0 [] [] (SX_spec_l2FindL1)) (qR V73 (fun r => .i r))) o) (S_spec_l2FindL1 listZ0 nameZ0 sZ1) := by
  unfold M_spec_l2FindL1 at h
  simp only [ZC, S_spec_l2FindL1, A73L1]
  obtain ⟨cZ2, h⟩ | ⟨cZ2, h⟩ := cond_s h
  · obtain ⟨yZ3, hyZ3, h⟩ := bind_s h
    obtain ⟨hyZ3a, hyZ3b⟩ := geti_s hyZ3
    obtain ⟨cZ4, h⟩ | ⟨cZ4, h⟩ := cond_s h
    · cases h
      exact ZL (ZA cZ2 (ZA hyZ3a (ZA hyZ3b cZ4))) V73.eq_1
    · cases h
      exact ZL (ZA cZ2 (ZA hyZ3a (ZA hyZ3b cZ4))) (ZA S_spec_l2FindL1.eq_1 SX_spec_l2FindL1.eq_1)
  · cases h
    exact ZL cZ2 (ZA S_spec_l2FindL1.eq_1 SX_spec_l2FindL1.eq_1)
theorem w_spec_l2Find (listZ0 : List ByteArray) (nameZ0 : ByteArray) {r : Int} (h : M_spec_l2Find listZ0 nameZ0 = some r) : Ok Try.prog 73 [.lst .o 1 (listZ0.map AV.z), .z nameZ0] ((fun r => .i r) r) := by
  refine ok_of_body hmix m73 rfl ?_
  unfold M_spec_l2Find at h
  simp only [ZC, A73, V73, body_eq]
  obtain ⟨oZ5, hoZ5, h⟩ := bind_s h
  try refine ZF trivial ?_
  refine join_rule (o := oZ5) (blk_rule sideR (loop_rule (w_spec_l2FindL1 listZ0 nameZ0) hoZ5 ?_)) (fun vZ6 hv => ?_) (fun xZ7 hv e τ hne hq => ?_)
  · exact ZK (ZA S_spec_l2FindL1.eq_1 SX_spec_l2FindL1.eq_1)
  · subst hv
    simp only [] at h
    simp only [ZC, SX_spec_l2FindL1, A73R2]
    cases h
    exact ZL trivial V73.eq_1
  · subst hv
    simp only [] at h
    obtain ⟨rfl, qZ8⟩ := hq
    cases h
    exact qZ8
theorem w_spec_l2Fiber (fZ0 : TFiber) (nodesZ0 : Int) {r : Bool} (h : M_spec_l2Fiber fZ0 nodesZ0 = some r) : Ok Try.prog 74 [.agg [.i fZ0.A, .i fZ0.B, .i fZ0.Length, .i fZ0.Risk], .i nodesZ0] ((fun r => .b r) r) := by
  refine ok_of_body hmix m74 rfl ?_
  unfold M_spec_l2Fiber at h
  simp only [ZC, A74, V74, body_eq]
  obtain ⟨rZ1, hrZ1, h⟩ := bind_s h
  refine ZF trivial ?_
  refine ZS trivial (w_spec_l1In _ _ _ hrZ1) ?_
  refine ZG ?_
  obtain ⟨cZ2, h⟩ | ⟨cZ2, h⟩ := cond_s h
  · obtain ⟨rZ3, hrZ3, h⟩ := bind_s h
    refine ZF cZ2 ?_
    refine ZS cZ2 (w_spec_l1In _ _ _ hrZ3) ?_
    refine ZG ?_
    obtain ⟨cZ4, h⟩ | ⟨cZ4, h⟩ := cond_s h
    · obtain ⟨rZ5, hrZ5, h⟩ := bind_s h
      refine ZF (ZA cZ2 cZ4) ?_
      refine ZS (ZA cZ2 cZ4) (w_spec_l1In _ _ _ hrZ5) ?_
      refine ZG ?_
      obtain ⟨cZ6, h⟩ | ⟨cZ6, h⟩ := cond_s h
      · obtain ⟨rZ7, hrZ7, h⟩ := bind_s h
        refine ZF (ZA cZ2 (ZA cZ4 cZ6)) ?_
        refine ZS (ZA cZ2 (ZA cZ4 cZ6)) (w_spec_l1In _ _ _ hrZ7) ?_
        refine ZG ?_
        cases h
        exact ZL (ZA cZ2 (ZA cZ4 cZ6)) V74.eq_1
      · cases h
        exact ZL (ZA cZ2 (ZA cZ4 cZ6)) V74.eq_1
    · cases h
      exact ZL (ZA cZ2 cZ4) V74.eq_1
  · cases h
    exact ZL cZ2 V74.eq_1
theorem w_spec_l2Before (fZ0 : TFiber) (gZ0 : TFiber) {r : Int} (h : M_spec_l2Before fZ0 gZ0 = some r) : Ok Try.prog 75 [.agg [.i fZ0.A, .i fZ0.B, .i fZ0.Length, .i fZ0.Risk], .agg [.i gZ0.A, .i gZ0.B, .i gZ0.Length, .i gZ0.Risk]] ((fun r => .i r) r) := by
  refine ok_of_body hmix m75 rfl ?_
  unfold M_spec_l2Before at h
  simp only [ZC, A75, V75, body_eq]
  obtain ⟨cZ1, h⟩ | ⟨cZ1, h⟩ := cond_s h
  · cases h
    exact ZL cZ1 V75.eq_1
  · obtain ⟨cZ2, h⟩ | ⟨cZ2, h⟩ := cond_s h
    · cases h
      exact ZL (ZA cZ1 cZ2) V75.eq_1
    · obtain ⟨cZ3, h⟩ | ⟨cZ3, h⟩ := cond_s h
      · cases h
        exact ZL (ZA cZ1 (ZA cZ2 cZ3)) V75.eq_1
      · cases h
        exact ZL (ZA cZ1 (ZA cZ2 cZ3)) V75.eq_1
def S_spec_l2GoodL1 (nZ0 : TNetwork) (v : Int) : St := ⟨[(1, .pt 1 0 0), (3, .i v)], [(1, .var (.agg [.lst .o 1 (nZ0.Nodes.map AV.z), .lst .o 4 (nZ0.Fibers.map (e_TFiber .o))]))]⟩
def SX_spec_l2GoodL1 (nZ0 : TNetwork) (v : Unit) : St := ⟨[(1, .pt 1 0 0)], [(1, .var (.agg [.lst .o 1 (nZ0.Nodes.map AV.z), .lst .o 4 (nZ0.Fibers.map (e_TFiber .o))]))]⟩
theorem w_spec_l2GoodL1 (nZ0 : TNetwork) (sZ5 : Int) (o : Int ⊕ (Unit ⊕ Bool)) (h : M_spec_l2GoodL1 nZ0 sZ5 = some o) : AWP (OkS Try.prog) A40L3 (qL [1, 3] [1] (S_spec_l2GoodL1 nZ0) (qS (qX 0 [1] [1] (SX_spec_l2GoodL1 nZ0)) (qR V40 (fun r => .b r))) o) (S_spec_l2GoodL1 nZ0 sZ5) := by
  unfold M_spec_l2GoodL1 at h
  simp only [ZC, S_spec_l2GoodL1, A40L3]
  obtain ⟨cZ6, h⟩ | ⟨cZ6, h⟩ := cond_s h
  · obtain ⟨oZ11, hoZ11, h⟩ := bind_s h
    try refine ZF cZ6 ?_
    refine join_rule0 (sh := (fun v => ⟨[(1, .pt 1 0 0), (3, .i sZ5), (41, .b v)], [(1, .var (.agg [.lst .o 1 (nZ0.Nodes.map AV.z), .lst .o 4 (nZ0.Fibers.map (e_TFiber .o))]))]⟩)) (s := oZ11) ?_ ?_
    · replace h := hoZ11
      obtain ⟨yZ7, hyZ7, h⟩ := bind_s h
      obtain ⟨hyZ7a, hyZ7b⟩ := geti_s hyZ7
      obtain ⟨rZ8, hrZ8, h⟩ := bind_s h
      refine ZF (ZA cZ6 (ZA hyZ7a hyZ7b)) ?_
      refine ZS (ZA cZ6 (ZA hyZ7a hyZ7b)) (w_spec_l2Name _ hrZ8) ?_
      refine ZG ?_
      obtain ⟨cZ9, h⟩ | ⟨cZ9, h⟩ := cond_s h
      · cases h
        exact ZL (ZA cZ6 (ZA hyZ7a (ZA hyZ7b cZ9))) trivial
      · obtain ⟨rZ10, hrZ10, h⟩ := bind_s h
        refine ZF (ZA cZ6 (ZA hyZ7a (ZA hyZ7b cZ9))) ?_
        refine ZS (ZA cZ6 (ZA hyZ7a (ZA hyZ7b cZ9))) (w_spec_l2Find _ _ hrZ10) ?_
        refine ZG ?_
        cases h
        exact ZL (ZA cZ6 (ZA hyZ7a (ZA hyZ7b cZ9))) trivial
    · simp only [ZC, A40R2]
      obtain ⟨cZ12, h⟩ | ⟨cZ12, h⟩ := cond_s h
      · cases h
        exact ZL (ZA cZ6 cZ12) V40.eq_1
      · cases h
        exact ZL (ZA cZ6 cZ12) (ZA S_spec_l2GoodL1.eq_1 SX_spec_l2GoodL1.eq_1)
  · cases h
    exact ZL cZ6 (ZA S_spec_l2GoodL1.eq_1 SX_spec_l2GoodL1.eq_1)
def S_spec_l2GoodL2 (nZ0 : TNetwork) (v : Int) : St := ⟨[(1, .pt 1 0 0), (4, .i v)], [(1, .var (.agg [.lst .o 1 (nZ0.Nodes.map AV.z), .lst .o 4 (nZ0.Fibers.map (e_TFiber .o))]))]⟩
def SX_spec_l2GoodL2 (v : Unit) : St := ⟨[], []⟩
theorem w_spec_l2GoodL2 (nZ0 : TNetwork) (sZ16 : Int) (o : Int ⊕ (Unit ⊕ Bool)) (h : M_spec_l2GoodL2 nZ0 sZ16 = some o) : AWP (OkS Try.prog) A40L6 (qL [1, 4] [1] (S_spec_l2GoodL2 nZ0) (qS (qX 2 [] [] (SX_spec_l2GoodL2)) (qR V40 (fun r => .b r))) o) (S_spec_l2GoodL2 nZ0 sZ16) := by
  unfold M_spec_l2GoodL2 at h
  simp only [ZC, S_spec_l2GoodL2, A40L6]
  obtain ⟨cZ17, h⟩ | ⟨cZ17, h⟩ := cond_s h
  · obtain ⟨oZ24, hoZ24, h⟩ := bind_s h
    try refine ZF cZ17 ?_
    refine join_rule0 (sh := (fun v => ⟨[(1, .pt 1 0 0), (4, .i sZ16), (77, .b v)], [(1, .var (.agg [.lst .o 1 (nZ0.Nodes.map AV.z), .lst .o 4 (nZ0.Fibers.map (e_TFiber .o))]))]⟩)) (s := oZ24) ?_ ?_
    · replace h := hoZ24
      obtain ⟨yZ18, hyZ18, h⟩ := bind_s h
      obtain ⟨hyZ18a, hyZ18b⟩ := geti_s hyZ18
      obtain ⟨rZ19, hrZ19, h⟩ := bind_s h
      refine ZF (ZA cZ17 (ZA hyZ18a hyZ18b)) ?_
      refine ZS (ZA cZ17 (ZA hyZ18a hyZ18b)) (w_spec_l2Fiber _ _ hrZ19) ?_
      refine ZG ?_
      obtain ⟨cZ20, h⟩ | ⟨cZ20, h⟩ := cond_s h
      · cases h
        exact ZL (ZA cZ17 (ZA hyZ18a (ZA hyZ18b cZ20))) trivial
      · obtain ⟨cZ21, h⟩ | ⟨cZ21, h⟩ := cond_s h
        · obtain ⟨yZ22, hyZ22, h⟩ := bind_s h
          obtain ⟨hyZ22a, hyZ22b⟩ := geti_s hyZ22
          obtain ⟨rZ23, hrZ23, h⟩ := bind_s h
          refine ZF (ZA cZ17 (ZA hyZ18a (ZA hyZ18b (ZA cZ20 (ZA cZ21 (ZA hyZ22a hyZ22b)))))) ?_
          refine ZS (ZA cZ17 (ZA hyZ18a (ZA hyZ18b (ZA cZ20 (ZA cZ21 (ZA hyZ22a hyZ22b)))))) (w_spec_l2Before _ _ hrZ23) ?_
          refine ZG ?_
          cases h
          exact ZL (ZA cZ17 (ZA hyZ18a (ZA hyZ18b (ZA cZ20 (ZA cZ21 (ZA hyZ22a hyZ22b)))))) trivial
        · cases h
          exact ZL (ZA cZ17 (ZA hyZ18a (ZA hyZ18b (ZA cZ20 cZ21)))) trivial
    · simp only [ZC, A40R5]
      obtain ⟨cZ25, h⟩ | ⟨cZ25, h⟩ := cond_s h
      · cases h
        exact ZL (ZA cZ17 cZ25) V40.eq_1
      · cases h
        exact ZL (ZA cZ17 cZ25) (ZA S_spec_l2GoodL2.eq_1 SX_spec_l2GoodL2.eq_1)
  · cases h
    exact ZL cZ17 (ZA S_spec_l2GoodL2.eq_1 SX_spec_l2GoodL2.eq_1)
theorem w_spec_l2Good (nZ0 : TNetwork) {r : Bool} (h : M_spec_l2Good nZ0 = some r) : Ok Try.prog 40 [.agg [.lst .o 1 (nZ0.Nodes.map AV.z), .lst .o 4 (nZ0.Fibers.map (e_TFiber .o))]] ((fun r => .b r) r) := by
  refine ok_of_body hmix m40 rfl ?_
  unfold M_spec_l2Good at h
  simp only [ZC, A40, V40, body_eq]
  obtain ⟨oZ3, hoZ3, h⟩ := bind_s h
  try refine ZF trivial ?_
  refine join_rule0 (sh := (fun v => ⟨[(1, .pt 1 0 0), (15, .b v)], [(1, .var (.agg [.lst .o 1 (nZ0.Nodes.map AV.z), .lst .o 4 (nZ0.Fibers.map (e_TFiber .o))]))]⟩)) (s := oZ3) ?_ ?_
  · replace h := hoZ3
    obtain ⟨rZ1, hrZ1, h⟩ := bind_s h
    refine ZF trivial ?_
    refine ZS trivial (w_spec_l1In _ _ _ hrZ1) ?_
    refine ZG ?_
    obtain ⟨cZ2, h⟩ | ⟨cZ2, h⟩ := cond_s h
    · cases h
      exact ZL cZ2 trivial
    · cases h
      exact ZL cZ2 trivial
  · simp only [ZC, A40R1]
    obtain ⟨cZ4, h⟩ | ⟨cZ4, h⟩ := cond_s h
    · cases h
      exact ZL cZ4 V40.eq_1
    · obtain ⟨oZ13, hoZ13, h⟩ := bind_s h
      try refine ZF cZ4 ?_
      refine join_rule (o := oZ13) (blk_rule sideR (loop_rule (w_spec_l2GoodL1 nZ0) hoZ13 ?_)) (fun vZ14 hv => ?_) (fun xZ15 hv e τ hne hq => ?_)
      · exact ZK (ZA S_spec_l2GoodL1.eq_1 SX_spec_l2GoodL1.eq_1)
      · subst hv
        simp only [] at h
        simp only [ZC, SX_spec_l2GoodL1, A40R4]
        obtain ⟨oZ26, hoZ26, h⟩ := bind_s h
        try refine ZF cZ4 ?_
        refine join_rule (o := oZ26) (blk_rule sideR (loop_rule (w_spec_l2GoodL2 nZ0) hoZ26 ?_)) (fun vZ27 hv => ?_) (fun xZ28 hv e τ hne hq => ?_)
        · exact ZK (ZA S_spec_l2GoodL2.eq_1 SX_spec_l2GoodL2.eq_1)
        · subst hv
          simp only [] at h
          simp only [ZC, SX_spec_l2GoodL2, A40R7]
          cases h
          exact ZL cZ4 V40.eq_1
        · subst hv
          simp only [] at h
          obtain ⟨rfl, qZ29⟩ := hq
          cases h
          exact qZ29
      · subst hv
        simp only [] at h
        obtain ⟨rfl, qZ30⟩ := hq
        cases h
        exact qZ30
def S_spec_l1HasL1 (lZ0 : List Int) (nZ0 : Int) (v : Int) : St := ⟨[(0, .lst .o 1 (lZ0.map AV.i)), (1, .i nZ0), (5, .i v)], []⟩
def SX_spec_l1HasL1 (v : Unit) : St := ⟨[], []⟩
theorem w_spec_l1HasL1 (lZ0 : List Int) (nZ0 : Int) (sZ1 : Int) (o : Int ⊕ (Unit ⊕ Bool)) (h : M_spec_l1HasL1 lZ0 nZ0 sZ1 = some o) : AWP (OkS Try.prog) A60L1 (qL [0, 1, 5] [] (S_spec_l1HasL1 lZ0 nZ0) (qS (qX 0 [] [] (SX_spec_l1HasL1)) (qR V60 (fun r => .b r))) o) (S_spec_l1HasL1 lZ0 nZ0 sZ1) := by
  unfold M_spec_l1HasL1 at h
  simp only [ZC, S_spec_l1HasL1, A60L1]
  obtain ⟨cZ2, h⟩ | ⟨cZ2, h⟩ := cond_s h
  · obtain ⟨yZ3, hyZ3, h⟩ := bind_s h
    obtain ⟨hyZ3a, hyZ3b⟩ := geti_s hyZ3
    obtain ⟨cZ4, h⟩ | ⟨cZ4, h⟩ := cond_s h
    · cases h
      exact ZL (ZA cZ2 (ZA hyZ3a (ZA hyZ3b cZ4))) V60.eq_1
    · cases h
      exact ZL (ZA cZ2 (ZA hyZ3a (ZA hyZ3b cZ4))) (ZA S_spec_l1HasL1.eq_1 SX_spec_l1HasL1.eq_1)
  · cases h
    exact ZL cZ2 (ZA S_spec_l1HasL1.eq_1 SX_spec_l1HasL1.eq_1)
theorem w_spec_l1Has (lZ0 : List Int) (nZ0 : Int) {r : Bool} (h : M_spec_l1Has lZ0 nZ0 = some r) : Ok Try.prog 60 [.lst .o 1 (lZ0.map AV.i), .i nZ0] ((fun r => .b r) r) := by
  refine ok_of_body hmix m60 rfl ?_
  unfold M_spec_l1Has at h
  simp only [ZC, A60, V60, body_eq]
  obtain ⟨oZ5, hoZ5, h⟩ := bind_s h
  try refine ZF trivial ?_
  refine join_rule (o := oZ5) (blk_rule sideR (loop_rule (w_spec_l1HasL1 lZ0 nZ0) hoZ5 ?_)) (fun vZ6 hv => ?_) (fun xZ7 hv e τ hne hq => ?_)
  · exact ZK (ZA S_spec_l1HasL1.eq_1 SX_spec_l1HasL1.eq_1)
  · subst hv
    simp only [] at h
    simp only [ZC, SX_spec_l1HasL1, A60R2]
    cases h
    exact ZL trivial V60.eq_1
  · subst hv
    simp only [] at h
    obtain ⟨rfl, qZ8⟩ := hq
    cases h
    exact qZ8
theorem w_spec_l2Other (nZ0 : TNetwork) (fiberZ0 : Int) (nodeZ0 : Int) {r : Int} (h : M_spec_l2Other nZ0 fiberZ0 nodeZ0 = some r) : Ok Try.prog 99 [.agg [.lst .o 1 (nZ0.Nodes.map AV.z), .lst .o 4 (nZ0.Fibers.map (e_TFiber .o))], .i fiberZ0, .i nodeZ0] ((fun r => .i r) r) := by
  refine ok_of_body hmix m99 rfl ?_
  unfold M_spec_l2Other at h
  simp only [ZC, A99, V99, body_eq]
  obtain ⟨yZ1, hyZ1, h⟩ := bind_s h
  obtain ⟨hyZ1a, hyZ1b⟩ := geti_s hyZ1
  obtain ⟨cZ2, h⟩ | ⟨cZ2, h⟩ := cond_s h
  · cases h
    exact ZL (ZA hyZ1a (ZA hyZ1b cZ2)) V99.eq_1
  · obtain ⟨cZ3, h⟩ | ⟨cZ3, h⟩ := cond_s h
    · cases h
      exact ZL (ZA hyZ1a (ZA hyZ1b (ZA cZ2 cZ3))) V99.eq_1
    · cases h
      exact ZL (ZA hyZ1a (ZA hyZ1b (ZA cZ2 cZ3))) V99.eq_1
def S_spec_l17WalkL1 (nZ0 : TNetwork) (ringZ0 : List Int) (fromZ0 : Int) (v : Int × Int × List Int) : St := ⟨[(1, .lst .o 1 (ringZ0.map AV.i)), (2, .i fromZ0), (3, .pt 3 0 0), (8, .sl 8 0 v.2.2.length), (9, .i v.1), (10, .i v.2.1)], [(3, .var (.agg [.lst .o 1 (nZ0.Nodes.map AV.z), .lst .o 4 (nZ0.Fibers.map (e_TFiber .o))])), (8, .arr 1 (v.2.2.map AV.i))]⟩
def SX_spec_l17WalkL1 (ringZ0 : List Int) (fromZ0 : Int) (v : Int × List Int) : St := ⟨[(1, .lst .o 1 (ringZ0.map AV.i)), (2, .i fromZ0), (8, .sl 8 0 v.2.length), (9, .i v.1)], [(8, .arr 1 (v.2.map AV.i))]⟩
theorem w_spec_l17WalkL1 (nZ0 : TNetwork) (ringZ0 : List Int) (fromZ0 : Int) (sZ1 : Int × Int × List Int) (o : (Int × Int × List Int) ⊕ ((Int × List Int) ⊕ (List Int × Bool))) (h : M_spec_l17WalkL1 nZ0 ringZ0 sZ1 = some o) : AWP (OkS Try.prog) A76L2 (qL [1, 2, 3, 8, 9, 10] [3, 8] (S_spec_l17WalkL1 nZ0 ringZ0 fromZ0) (qS (qX 0 [1, 2, 8, 9] [8] (SX_spec_l17WalkL1 ringZ0 fromZ0)) (qR V76 (fun r => .tup [.lst .u 1 (r.1.map AV.i), .b r.2]))) o) (S_spec_l17WalkL1 nZ0 ringZ0 fromZ0 sZ1) := by
  unfold M_spec_l17WalkL1 at h
  simp only [ZC, S_spec_l17WalkL1, A76L2]
  obtain ⟨cZ2, h⟩ | ⟨cZ2, h⟩ := cond_s h
  · obtain ⟨oZ10, hoZ10, h⟩ := bind_s h
    try refine ZF cZ2 ?_
    refine join_rule0 (sh := (fun v => ⟨[(1, .lst .o 1 (ringZ0.map AV.i)), (2, .i fromZ0), (3, .pt 3 0 0), (8, .sl 8 0 sZ1.2.2.length), (9, .i sZ1.1), (10, .i sZ1.2.1), (43, .b v)], [(3, .var (.agg [.lst .o 1 (nZ0.Nodes.map AV.z), .lst .o 4 (nZ0.Fibers.map (e_TFiber .o))])), (8, .arr 1 (sZ1.2.2.map AV.i))]⟩)) (s := oZ10) ?_ ?_
    · replace h := hoZ10
      obtain ⟨yZ3, hyZ3, h⟩ := bind_s h
      obtain ⟨hyZ3a, hyZ3b⟩ := geti_s hyZ3
      obtain ⟨rZ4, hrZ4, h⟩ := bind_s h
      refine ZF (ZA cZ2 (ZA hyZ3a hyZ3b)) ?_
      refine ZS (ZA cZ2 (ZA hyZ3a hyZ3b)) (w_spec_l1In _ _ _ hrZ4) ?_
      refine ZG ?_
      obtain ⟨cZ5, h⟩ | ⟨cZ5, h⟩ := cond_s h
      · cases h
        exact ZL (ZA cZ2 (ZA hyZ3a (ZA hyZ3b cZ5))) trivial
      · obtain ⟨lZ6, hlZ6, h⟩ := bind_s h
        obtain ⟨hlZ6a, hlZ6b, hlZ6c, hlZ6d, hlZ6e⟩ := slT_s AV.i hlZ6
        obtain ⟨rZ7, hrZ7, h⟩ := bind_s h
        refine ZF (ZA cZ2 (ZA hyZ3a (ZA hyZ3b (ZA cZ5 (ZA hlZ6a (ZA hlZ6b (ZA hlZ6c (ZA hlZ6d hlZ6e)))))))) ?_
        refine ZS (ZA cZ2 (ZA hyZ3a (ZA hyZ3b (ZA cZ5 (ZA hlZ6a (ZA hlZ6b (ZA hlZ6c (ZA hlZ6d hlZ6e)))))))) (w_spec_l1Has _ _ hrZ7) ?_
        refine ZG ?_
        obtain ⟨cZ8, h⟩ | ⟨cZ8, h⟩ := cond_s h
        · cases h
          exact ZL (ZA cZ2 (ZA hyZ3a (ZA hyZ3b (ZA cZ5 (ZA hlZ6a (ZA hlZ6b (ZA hlZ6c (ZA hlZ6d (ZA hlZ6e cZ8))))))))) trivial
        · obtain ⟨rZ9, hrZ9, h⟩ := bind_s h
          refine ZF (ZA cZ2 (ZA hyZ3a (ZA hyZ3b (ZA cZ5 (ZA hlZ6a (ZA hlZ6b (ZA hlZ6c (ZA hlZ6d (ZA hlZ6e cZ8))))))))) ?_
          refine ZS (ZA cZ2 (ZA hyZ3a (ZA hyZ3b (ZA cZ5 (ZA hlZ6a (ZA hlZ6b (ZA hlZ6c (ZA hlZ6d (ZA hlZ6e cZ8))))))))) (w_spec_l1Has _ _ hrZ9) ?_
          refine ZG ?_
          cases h
          exact ZL (ZA cZ2 (ZA hyZ3a (ZA hyZ3b (ZA cZ5 (ZA hlZ6a (ZA hlZ6b (ZA hlZ6c (ZA hlZ6d (ZA hlZ6e cZ8))))))))) trivial
    · simp only [ZC, A76R1]
      obtain ⟨cZ11, h⟩ | ⟨cZ11, h⟩ := cond_s h
      · cases h
        exact ZL (ZA cZ2 cZ11) V76.eq_1
      · obtain ⟨lZ12, hlZ12, h⟩ := bnd_s h
        have eZ13 : Row.arr 1 [(.i sZ1.1 : AV)] = Row.arr 1 (lZ12.map AV.i) := by rw [← hlZ12]; rfl
        have eZ14 : lZ12.length = 1 := by rw [← hlZ12]; rfl
        obtain ⟨uZ15, huZ15, h⟩ := bind_s h
        have huZ15g := grd_s huZ15
        obtain ⟨lZ16, hlZ16, h⟩ := bnd_s h
        have eZ17 : sZ1.2.2.map AV.i ++ lZ12.map AV.i = lZ16.map AV.i := by rw [← hlZ16, List.map_append]
        have eZ18 : sZ1.2.2.length + 1 = lZ16.length := by simp [← hlZ12, ← hlZ16] <;> omega
        rw [eZ18] at huZ15g
        obtain ⟨yZ19, hyZ19, h⟩ := bind_s h
        obtain ⟨hyZ19a, hyZ19b⟩ := geti_s hyZ19
        obtain ⟨rZ20, hrZ20, h⟩ := bind_s h
        refine ZF (ZA cZ2 (ZA cZ11 (ZA eZ13 (ZA eZ14 (ZA huZ15g (ZA eZ17 (ZA eZ18 (ZA hyZ19a hyZ19b)))))))) ?_
        refine ZS (ZA cZ2 (ZA cZ11 (ZA eZ13 (ZA eZ14 (ZA huZ15g (ZA eZ17 (ZA eZ18 (ZA hyZ19a hyZ19b)))))))) (w_spec_l2Other _ _ _ hrZ20) ?_
        refine ZG ?_
        obtain ⟨cZ21, h⟩ | ⟨cZ21, h⟩ := cond_s h
        · cases h
          exact ZL (ZA cZ2 (ZA cZ11 (ZA eZ13 (ZA eZ14 (ZA huZ15g (ZA eZ17 (ZA eZ18 (ZA hyZ19a (ZA hyZ19b cZ21))))))))) (ZA V76.eq_1 (ZA hlZ12.symm hlZ16.symm))
        · cases h
          exact ZL (ZA cZ2 (ZA cZ11 (ZA eZ13 (ZA eZ14 (ZA huZ15g (ZA eZ17 (ZA eZ18 (ZA hyZ19a (ZA hyZ19b cZ21))))))))) (ZA S_spec_l17WalkL1.eq_1 (ZA SX_spec_l17WalkL1.eq_1 (ZA hlZ12.symm hlZ16.symm)))
  · cases h
    exact ZL cZ2 (ZA S_spec_l17WalkL1.eq_1 SX_spec_l17WalkL1.eq_1)
theorem w_spec_l17Walk (nZ0 : TNetwork) (ringZ0 : List Int) (fromZ0 : Int) {r : List Int × Bool} (h : M_spec_l17Walk nZ0 ringZ0 fromZ0 = some r) : Ok Try.prog 76 [.agg [.lst .o 1 (nZ0.Nodes.map AV.z), .lst .o 4 (nZ0.Fibers.map (e_TFiber .o))], .lst .o 1 (ringZ0.map AV.i), .i fromZ0] ((fun r => .tup [.lst .u 1 (r.1.map AV.i), .b r.2]) r) := by
  refine ok_of_body hmix m76 rfl ?_
  unfold M_spec_l17Walk at h
  simp only [ZC, A76, V76, body_eq]
  obtain ⟨oZ22, hoZ22, h⟩ := bind_s h
  try refine ZF trivial ?_
  refine join_rule (o := oZ22) (blk_rule sideR (loop_rule (w_spec_l17WalkL1 nZ0 ringZ0 fromZ0) hoZ22 ?_)) (fun vZ23 hv => ?_) (fun xZ24 hv e τ hne hq => ?_)
  · exact ZK (ZA S_spec_l17WalkL1.eq_1 SX_spec_l17WalkL1.eq_1)
  · subst hv
    simp only [] at h
    simp only [ZC, SX_spec_l17WalkL1, A76R3]
    obtain ⟨cZ25, h⟩ | ⟨cZ25, h⟩ := cond_s h
    · cases h
      exact ZL cZ25 V76.eq_1
    · cases h
      exact ZL cZ25 V76.eq_1
  · subst hv
    simp only [] at h
    obtain ⟨rfl, qZ26⟩ := hq
    cases h
    exact qZ26
def S_spec_l17BackL1 (ringZ0 : List Int) (v : Int × List Int) : St := ⟨[(0, .lst .o 1 (ringZ0.map AV.i)), (3, .sl 3 0 v.2.length), (4, .i v.1)], [(3, .arr 1 (v.2.map AV.i))]⟩
def SX_spec_l17BackL1 (v : List Int) : St := ⟨[(3, .sl 3 0 v.length)], [(3, .arr 1 (v.map AV.i))]⟩
theorem w_spec_l17BackL1 (ringZ0 : List Int) (sZ1 : Int × List Int) (o : (Int × List Int) ⊕ (List Int)) (h : M_spec_l17BackL1 ringZ0 sZ1 = some o) : AWP (OkS Try.prog) A78L1 (qL [0, 3, 4] [3] (S_spec_l17BackL1 ringZ0) (qX 0 [3] [3] (SX_spec_l17BackL1)) o) (S_spec_l17BackL1 ringZ0 sZ1) := by
  unfold M_spec_l17BackL1 at h
  simp only [ZC, S_spec_l17BackL1, A78L1]
  obtain ⟨cZ2, h⟩ | ⟨cZ2, h⟩ := cond_s h
  · obtain ⟨yZ3, hyZ3, h⟩ := bind_s h
    obtain ⟨hyZ3a, hyZ3b⟩ := geti_s hyZ3
    obtain ⟨lZ4, hlZ4, h⟩ := bnd_s h
    have eZ5 : Row.arr 1 [(.i yZ3 : AV)] = Row.arr 1 (lZ4.map AV.i) := by rw [← hlZ4]; rfl
    have eZ6 : lZ4.length = 1 := by rw [← hlZ4]; rfl
    obtain ⟨uZ7, huZ7, h⟩ := bind_s h
    have huZ7g := grd_s huZ7
    obtain ⟨lZ8, hlZ8, h⟩ := bnd_s h
    have eZ9 : sZ1.2.map AV.i ++ lZ4.map AV.i = lZ8.map AV.i := by rw [← hlZ8, List.map_append]
    have eZ10 : sZ1.2.length + 1 = lZ8.length := by simp [← hlZ4, ← hlZ8] <;> omega
    rw [eZ10] at huZ7g
    cases h
    exact ZL (ZA cZ2 (ZA hyZ3a (ZA hyZ3b (ZA eZ5 (ZA eZ6 (ZA huZ7g (ZA eZ9 eZ10))))))) (ZA S_spec_l17BackL1.eq_1 (ZA SX_spec_l17BackL1.eq_1 (ZA hlZ4.symm hlZ8.symm)))
  · cases h
    exact ZL cZ2 (ZA S_spec_l17BackL1.eq_1 SX_spec_l17BackL1.eq_1)
theorem w_spec_l17Back (ringZ0 : List Int) {r : List Int} (h : M_spec_l17Back ringZ0 = some r) : Ok Try.prog 78 [.lst .o 1 (ringZ0.map AV.i)] ((fun r => .lst .u 1 (r.map AV.i)) r) := by
  refine ok_of_body hmix m78 rfl ?_
  unfold M_spec_l17Back at h
  simp only [ZC, A78, V78, body_eq]
  obtain ⟨oZ11, hoZ11, h⟩ := bind_s h
  try refine ZF trivial ?_
  refine join_rule0 (blk_rule0 (loop_rule (w_spec_l17BackL1 ringZ0) hoZ11 ?_)) ?_
  · exact ZK (ZA S_spec_l17BackL1.eq_1 SX_spec_l17BackL1.eq_1)
  · simp only [ZC, SX_spec_l17BackL1, A78R2]
    cases h
    exact ZL trivial V78.eq_1
def S_spec_l17LessL1 (aZ0 : List Int) (bZ0 : List Int) (v : Int) : St := ⟨[(0, .lst .o 1 (aZ0.map AV.i)), (1, .lst .o 1 (bZ0.map AV.i)), (5, .i v)], []⟩
def SX_spec_l17LessL1 (v : Unit) : St := ⟨[], []⟩
theorem w_spec_l17LessL1 (aZ0 : List Int) (bZ0 : List Int) (sZ2 : Int) (o : Int ⊕ (Unit ⊕ Bool)) (h : M_spec_l17LessL1 aZ0 bZ0 sZ2 = some o) : AWP (OkS Try.prog) A77L1 (qL [0, 1, 5] [] (S_spec_l17LessL1 aZ0 bZ0) (qS (qX 0 [] [] (SX_spec_l17LessL1)) (qR V77 (fun r => .b r))) o) (S_spec_l17LessL1 aZ0 bZ0 sZ2) := by
  unfold M_spec_l17LessL1 at h
  simp only [ZC, S_spec_l17LessL1, A77L1]
  obtain ⟨cZ3, h⟩ | ⟨cZ3, h⟩ := cond_s h
  · obtain ⟨yZ4, hyZ4, h⟩ := bind_s h
    obtain ⟨hyZ4a, hyZ4b⟩ := geti_s hyZ4
    obtain ⟨yZ5, hyZ5, h⟩ := bind_s h
    obtain ⟨hyZ5a, hyZ5b⟩ := geti_s hyZ5
    obtain ⟨cZ6, h⟩ | ⟨cZ6, h⟩ := cond_s h
    · cases h
      exact ZL (ZA cZ3 (ZA hyZ4a (ZA hyZ4b (ZA hyZ5a (ZA hyZ5b cZ6))))) V77.eq_1
    · cases h
      exact ZL (ZA cZ3 (ZA hyZ4a (ZA hyZ4b (ZA hyZ5a (ZA hyZ5b cZ6))))) (ZA S_spec_l17LessL1.eq_1 SX_spec_l17LessL1.eq_1)
  · cases h
    exact ZL cZ3 (ZA S_spec_l17LessL1.eq_1 SX_spec_l17LessL1.eq_1)
theorem w_spec_l17Less (aZ0 : List Int) (bZ0 : List Int) {r : Bool} (h : M_spec_l17Less aZ0 bZ0 = some r) : Ok Try.prog 77 [.lst .o 1 (aZ0.map AV.i), .lst .o 1 (bZ0.map AV.i)] ((fun r => .b r) r) := by
  refine ok_of_body hmix m77 rfl ?_
  unfold M_spec_l17Less at h
  simp only [ZC, A77, V77, body_eq]
  obtain ⟨cZ1, h⟩ | ⟨cZ1, h⟩ := cond_s h
  · cases h
    exact ZL cZ1 V77.eq_1
  · obtain ⟨oZ7, hoZ7, h⟩ := bind_s h
    try refine ZF cZ1 ?_
    refine join_rule (o := oZ7) (blk_rule sideR (loop_rule (w_spec_l17LessL1 aZ0 bZ0) hoZ7 ?_)) (fun vZ8 hv => ?_) (fun xZ9 hv e τ hne hq => ?_)
    · exact ZK (ZA S_spec_l17LessL1.eq_1 SX_spec_l17LessL1.eq_1)
    · subst hv
      simp only [] at h
      simp only [ZC, SX_spec_l17LessL1, A77R2]
      cases h
      exact ZL cZ1 V77.eq_1
    · subst hv
      simp only [] at h
      obtain ⟨rfl, qZ10⟩ := hq
      cases h
      exact qZ10
def S_spec_l17GoodL2 (ringZ0 : List Int) (sZ1 : Int) (rZ3 : List Int × Bool) (v : Bool × Int) : St := ⟨[(1, .lst .o 1 (ringZ0.map AV.i)), (5, .i sZ1), (6, .sl 6 0 rZ3.1.length), (8, .b v.1), (9, .i v.2)], [(6, .arr 1 (rZ3.1.map AV.i))]⟩
def SX_spec_l17GoodL2 (ringZ0 : List Int) (v : Bool) : St := ⟨[(1, .lst .o 1 (ringZ0.map AV.i)), (8, .b v)], []⟩
theorem w_spec_l17GoodL2 (ringZ0 : List Int) (sZ1 : Int) (rZ3 : List Int × Bool) (sZ5 : Bool × Int) (o : (Bool × Int) ⊕ Bool) (h : M_spec_l17GoodL2 sZ1 rZ3 sZ5 = some o) : AWP (OkS Try.prog) A41L1 (qL [1, 5, 6, 8, 9] [6] (S_spec_l17GoodL2 ringZ0 sZ1 rZ3) (qX 2 [1, 8] [] (SX_spec_l17GoodL2 ringZ0)) o) (S_spec_l17GoodL2 ringZ0 sZ1 rZ3 sZ5) := by
  unfold M_spec_l17GoodL2 at h
  simp only [ZC, S_spec_l17GoodL2, A41L1]
  obtain ⟨cZ6, h⟩ | ⟨cZ6, h⟩ := cond_s h
  · obtain ⟨cZ7, h⟩ | ⟨cZ7, h⟩ := cond_s h
    · obtain ⟨kZ8, hkZ8, h⟩ := bind_s h
      obtain ⟨hkZ8a, hkZ8b⟩ := grd_s hkZ8
      obtain ⟨yZ9, hyZ9, h⟩ := bind_s h
      cases h
      exact ZL (ZA cZ6 (ZA cZ7 (ZA hkZ8a (ZA hkZ8b hyZ9)))) (ZA S_spec_l17GoodL2.eq_1 SX_spec_l17GoodL2.eq_1)
    · cases h
      exact ZL (ZA cZ6 cZ7) (ZA S_spec_l17GoodL2.eq_1 SX_spec_l17GoodL2.eq_1)
  · cases h
    exact ZL cZ6 (ZA S_spec_l17GoodL2.eq_1 SX_spec_l17GoodL2.eq_1)
def S_spec_l17GoodL1 (nZ0 : TNetwork) (ringZ0 : List Int) (v : Int) : St := ⟨[(1, .lst .o 1 (ringZ0.map AV.i)), (2, .pt 2 0 0), (5, .i v)], [(2, .var (.agg [.lst .o 1 (nZ0.Nodes.map AV.z), .lst .o 4 (nZ0.Fibers.map (e_TFiber .o))]))]⟩
def SX_spec_l17GoodL1 (v : Unit) : St := ⟨[], []⟩
theorem w_spec_l17GoodL1 (nZ0 : TNetwork) (ringZ0 : List Int) (sZ1 : Int) (o : Int ⊕ (Unit ⊕ Bool)) (h : M_spec_l17GoodL1 nZ0 ringZ0 sZ1 = some o) : AWP (OkS Try.prog) A41L3 (qL [1, 2, 5] [2] (S_spec_l17GoodL1 nZ0 ringZ0) (qS (qX 0 [] [] (SX_spec_l17GoodL1)) (qR V41 (fun r => .b r))) o) (S_spec_l17GoodL1 nZ0 ringZ0 sZ1) := by
  unfold M_spec_l17GoodL1 at h
  simp only [ZC, S_spec_l17GoodL1, A41L3]
  obtain ⟨cZ2, h⟩ | ⟨cZ2, h⟩ := cond_s h
  · obtain ⟨rZ3, hrZ3, h⟩ := bind_s h
    refine ZF cZ2 ?_
    refine ZU cZ2 (w_spec_l17Walk _ _ _ hrZ3) ?_
    refine ZG ?_
    obtain ⟨cZ4, h⟩ | ⟨cZ4, h⟩ := cond_s h
    · cases h
      exact ZL (ZA cZ2 cZ4) (ZA S_spec_l17GoodL1.eq_1 SX_spec_l17GoodL1.eq_1)
    · obtain ⟨oZ10, hoZ10, h⟩ := bind_s h
      try refine ZF (ZA cZ2 cZ4) ?_
      refine join_rule0 (blk_rule0 (loop_rule (w_spec_l17GoodL2 ringZ0 sZ1 rZ3) hoZ10 ?_)) ?_
      · exact ZK (ZA S_spec_l17GoodL2.eq_1 SX_spec_l17GoodL2.eq_1)
      · simp only [ZC, SX_spec_l17GoodL2, A41R2]
        obtain ⟨cZ11, h⟩ | ⟨cZ11, h⟩ := cond_s h
        · obtain ⟨rZ12, hrZ12, h⟩ := bind_s h
          refine ZF (ZA cZ2 (ZA cZ4 cZ11)) ?_
          refine ZU (ZA cZ2 (ZA cZ4 cZ11)) (w_spec_l17Back _ hrZ12) ?_
          refine ZG ?_
          obtain ⟨rZ13, hrZ13, h⟩ := bind_s h
          refine ZF (ZA cZ2 (ZA cZ4 cZ11)) ?_
          refine ZS (ZA cZ2 (ZA cZ4 cZ11)) (w_spec_l17Less _ _ hrZ13) ?_
          refine ZG ?_
          cases h
          exact ZL (ZA cZ2 (ZA cZ4 cZ11)) V41.eq_1
        · cases h
          exact ZL (ZA cZ2 (ZA cZ4 cZ11)) V41.eq_1
  · cases h
    exact ZL cZ2 (ZA S_spec_l17GoodL1.eq_1 SX_spec_l17GoodL1.eq_1)
theorem w_spec_l17Good (nZ0 : TNetwork) (ringZ0 : List Int) {r : Bool} (h : M_spec_l17Good nZ0 ringZ0 = some r) : Ok Try.prog 41 [.agg [.lst .o 1 (nZ0.Nodes.map AV.z), .lst .o 4 (nZ0.Fibers.map (e_TFiber .o))], .lst .o 1 (ringZ0.map AV.i)] ((fun r => .b r) r) := by
  refine ok_of_body hmix m41 rfl ?_
  unfold M_spec_l17Good at h
  simp only [ZC, A41, V41, body_eq]
  obtain ⟨oZ14, hoZ14, h⟩ := bind_s h
  try refine ZF trivial ?_
  refine join_rule (o := oZ14) (blk_rule sideR (loop_rule (w_spec_l17GoodL1 nZ0 ringZ0) hoZ14 ?_)) (fun vZ15 hv => ?_) (fun xZ16 hv e τ hne hq => ?_)
  · exact ZK (ZA S_spec_l17GoodL1.eq_1 SX_spec_l17GoodL1.eq_1)
  · subst hv
    simp only [] at h
    simp only [ZC, SX_spec_l17GoodL1, A41R4]
    cases h
    exact ZL trivial V41.eq_1
  · subst hv
    simp only [] at h
    obtain ⟨rfl, qZ17⟩ := hq
    cases h
    exact qZ17
theorem w_spec_IsRing (nZ0 : TNetwork) (ringZ0 : List Int) {r : Bool} (h : M_spec_IsRing nZ0 ringZ0 = some r) : Ok Try.prog 11 [.agg [.lst .o 1 (nZ0.Nodes.map AV.z), .lst .o 4 (nZ0.Fibers.map (e_TFiber .o))], .lst .o 1 (ringZ0.map AV.i)] ((fun r => .b r) r) := by
  refine ok_of_body hmix m11 rfl ?_
  unfold M_spec_IsRing at h
  simp only [ZC, A11, V11, body_eq]
  obtain ⟨rZ1, hrZ1, h⟩ := bind_s h
  refine ZF trivial ?_
  refine ZS trivial (w_spec_l2Good _ hrZ1) ?_
  refine ZG ?_
  obtain ⟨cZ2, h⟩ | ⟨cZ2, h⟩ := cond_s h
  · obtain ⟨rZ3, hrZ3, h⟩ := bind_s h
    refine ZF cZ2 ?_
    refine ZS cZ2 (w_spec_l17Good _ _ hrZ3) ?_
    refine ZG ?_
    cases h
    exact ZL cZ2 V11.eq_1
  · cases h
    exact ZL cZ2 V11.eq_1
def S_spec_l17NodesL1 (nZ0 : TNetwork) (ringZ0 : List Int) (v : Int) : St := ⟨[(1, .lst .o 1 (ringZ0.map AV.i)), (2, .pt 2 0 0), (5, .i v)], [(2, .var (.agg [.lst .o 1 (nZ0.Nodes.map AV.z), .lst .o 4 (nZ0.Fibers.map (e_TFiber .o))]))]⟩
def SX_spec_l17NodesL1 (v : Unit) : St := ⟨[], []⟩
theorem w_spec_l17NodesL1 (nZ0 : TNetwork) (ringZ0 : List Int) (sZ1 : Int) (o : Int ⊕ (Unit ⊕ (List Int))) (h : M_spec_l17NodesL1 nZ0 ringZ0 sZ1 = some o) : AWP (OkS Try.prog) A46L1 (qL [1, 2, 5] [2] (S_spec_l17NodesL1 nZ0 ringZ0) (qS (qX 0 [] [] (SX_spec_l17NodesL1)) (qR V46 (fun r => .lst .u 1 (r.map AV.i)))) o) (S_spec_l17NodesL1 nZ0 ringZ0 sZ1) := by
  unfold M_spec_l17NodesL1 at h
  simp only [ZC, S_spec_l17NodesL1, A46L1]
  obtain ⟨cZ2, h⟩ | ⟨cZ2, h⟩ := cond_s h
  · obtain ⟨rZ3, hrZ3, h⟩ := bind_s h
    refine ZF cZ2 ?_
    refine ZU cZ2 (w_spec_l17Walk _ _ _ hrZ3) ?_
    refine ZG ?_
    obtain ⟨cZ4, h⟩ | ⟨cZ4, h⟩ := cond_s h
    · cases h
      exact ZL (ZA cZ2 cZ4) V46.eq_1
    · cases h
      exact ZL (ZA cZ2 cZ4) (ZA S_spec_l17NodesL1.eq_1 SX_spec_l17NodesL1.eq_1)
  · cases h
    exact ZL cZ2 (ZA S_spec_l17NodesL1.eq_1 SX_spec_l17NodesL1.eq_1)
theorem w_spec_l17Nodes (nZ0 : TNetwork) (ringZ0 : List Int) {r : List Int} (h : M_spec_l17Nodes nZ0 ringZ0 = some r) : Ok Try.prog 46 [.agg [.lst .o 1 (nZ0.Nodes.map AV.z), .lst .o 4 (nZ0.Fibers.map (e_TFiber .o))], .lst .o 1 (ringZ0.map AV.i)] ((fun r => .lst .u 1 (r.map AV.i)) r) := by
  refine ok_of_body hmix m46 rfl ?_
  unfold M_spec_l17Nodes at h
  simp only [ZC, A46, V46, body_eq]
  obtain ⟨oZ5, hoZ5, h⟩ := bind_s h
  try refine ZF trivial ?_
  refine join_rule (o := oZ5) (blk_rule sideR (loop_rule (w_spec_l17NodesL1 nZ0 ringZ0) hoZ5 ?_)) (fun vZ6 hv => ?_) (fun xZ7 hv e τ hne hq => ?_)
  · exact ZK (ZA S_spec_l17NodesL1.eq_1 SX_spec_l17NodesL1.eq_1)
  · subst hv
    simp only [] at h
    simp only [ZC, SX_spec_l17NodesL1, A46R2]
    cases h
    exact ZL trivial V46.eq_1
  · subst hv
    simp only [] at h
    obtain ⟨rfl, qZ8⟩ := hq
    cases h
    exact qZ8
def S_spec_l17ProtectedL1 (nZ0 : TNetwork) (ringZ0 : List Int) (rZ1 : List Int) (v : Int × List Int × List Int) : St := ⟨[(1, .lst .o 1 (ringZ0.map AV.i)), (2, .pt 2 0 0), (6, .sl 6 0 v.2.1.length), (7, .sl 7 0 v.2.2.length), (8, .sl 8 0 rZ1.length), (9, .i v.1)], [(2, .var (.agg [.lst .o 1 (nZ0.Nodes.map AV.z), .lst .o 4 (nZ0.Fibers.map (e_TFiber .o))])), (6, .arr 1 (v.2.1.map AV.i)), (7, .arr 1 (v.2.2.map AV.i)), (8, .arr 1 (rZ1.map AV.i))]⟩
def SX_spec_l17ProtectedL1 (v : List Int × List Int) : St := ⟨[(6, .sl 6 0 v.1.length), (7, .sl 7 0 v.2.length)], [(6, .arr 1 (v.1.map AV.i)), (7, .arr 1 (v.2.map AV.i))]⟩
theorem w_spec_l17ProtectedL1 (nZ0 : TNetwork) (ringZ0 : List Int) (rZ1 : List Int) (sZ2 : Int × List Int × List Int) (o : (Int × List Int × List Int) ⊕ (List Int × List Int)) (h : M_spec_l17ProtectedL1 nZ0 ringZ0 rZ1 sZ2 = some o) : AWP (OkS Try.prog) A51L2 (qL [1, 2, 6, 7, 8, 9] [2, 6, 7, 8] (S_spec_l17ProtectedL1 nZ0 ringZ0 rZ1) (qX 0 [6, 7] [6, 7] (SX_spec_l17ProtectedL1)) o) (S_spec_l17ProtectedL1 nZ0 ringZ0 rZ1 sZ2) := by
  unfold M_spec_l17ProtectedL1 at h
  simp only [ZC, S_spec_l17ProtectedL1, A51L2]
  obtain ⟨cZ3, h⟩ | ⟨cZ3, h⟩ := cond_s h
  · obtain ⟨rZ4, hrZ4, h⟩ := bind_s h
    refine ZF cZ3 ?_
    refine ZS cZ3 (w_spec_l1Has _ _ hrZ4) ?_
    refine ZG ?_
    obtain ⟨cZ5, h⟩ | ⟨cZ5, h⟩ := cond_s h
    · obtain ⟨lZ6, hlZ6, h⟩ := bnd_s h
      have eZ7 : Row.arr 1 [(.i sZ2.1 : AV)] = Row.arr 1 (lZ6.map AV.i) := by rw [← hlZ6]; rfl
      have eZ8 : lZ6.length = 1 := by rw [← hlZ6]; rfl
      obtain ⟨uZ9, huZ9, h⟩ := bind_s h
      have huZ9g := grd_s huZ9
      obtain ⟨lZ10, hlZ10, h⟩ := bnd_s h
      have eZ11 : sZ2.2.1.map AV.i ++ lZ6.map AV.i = lZ10.map AV.i := by rw [← hlZ10, List.map_append]
      have eZ12 : sZ2.2.1.length + 1 = lZ10.length := by simp [← hlZ6, ← hlZ10] <;> omega
      rw [eZ12] at huZ9g
      cases h
      exact ZL (ZA cZ3 (ZA cZ5 (ZA eZ7 (ZA eZ8 (ZA huZ9g (ZA eZ11 eZ12)))))) (ZA S_spec_l17ProtectedL1.eq_1 (ZA SX_spec_l17ProtectedL1.eq_1 (ZA hlZ6.symm hlZ10.symm)))
    · obtain ⟨oZ17, hoZ17, h⟩ := bind_s h
      try refine ZF (ZA cZ3 cZ5) ?_
      refine join_rule0 (sh := (fun v => ⟨[(1, .lst .o 1 (ringZ0.map AV.i)), (2, .pt 2 0 0), (6, .sl 6 0 sZ2.2.1.length), (7, .sl 7 0 sZ2.2.2.length), (8, .sl 8 0 rZ1.length), (9, .i sZ2.1), (30, .b v)], [(2, .var (.agg [.lst .o 1 (nZ0.Nodes.map AV.z), .lst .o 4 (nZ0.Fibers.map (e_TFiber .o))])), (6, .arr 1 (sZ2.2.1.map AV.i)), (7, .arr 1 (sZ2.2.2.map AV.i)), (8, .arr 1 (rZ1.map AV.i))]⟩)) (s := oZ17) ?_ ?_
      · replace h := hoZ17
        obtain ⟨yZ13, hyZ13, h⟩ := bind_s h
        obtain ⟨hyZ13a, hyZ13b⟩ := geti_s hyZ13
        obtain ⟨rZ14, hrZ14, h⟩ := bind_s h
        refine ZF (ZA cZ3 (ZA cZ5 (ZA hyZ13a hyZ13b))) ?_
        refine ZS (ZA cZ3 (ZA cZ5 (ZA hyZ13a hyZ13b))) (w_spec_l1Has _ _ hrZ14) ?_
        refine ZG ?_
        obtain ⟨cZ15, h⟩ | ⟨cZ15, h⟩ := cond_s h
        · obtain ⟨rZ16, hrZ16, h⟩ := bind_s h
          refine ZF (ZA cZ3 (ZA cZ5 (ZA hyZ13a (ZA hyZ13b cZ15)))) ?_
          refine ZS (ZA cZ3 (ZA cZ5 (ZA hyZ13a (ZA hyZ13b cZ15)))) (w_spec_l1Has _ _ hrZ16) ?_
          refine ZG ?_
          cases h
          exact ZL (ZA cZ3 (ZA cZ5 (ZA hyZ13a (ZA hyZ13b cZ15)))) trivial
        · cases h
          exact ZL (ZA cZ3 (ZA cZ5 (ZA hyZ13a (ZA hyZ13b cZ15)))) trivial
      · simp only [ZC, A51R1]
        obtain ⟨cZ18, h⟩ | ⟨cZ18, h⟩ := cond_s h
        · obtain ⟨lZ19, hlZ19, h⟩ := bnd_s h
          have eZ20 : Row.arr 1 [(.i sZ2.1 : AV)] = Row.arr 1 (lZ19.map AV.i) := by rw [← hlZ19]; rfl
          have eZ21 : lZ19.length = 1 := by rw [← hlZ19]; rfl
          obtain ⟨uZ22, huZ22, h⟩ := bind_s h
          have huZ22g := grd_s huZ22
          obtain ⟨lZ23, hlZ23, h⟩ := bnd_s h
          have eZ24 : sZ2.2.2.map AV.i ++ lZ19.map AV.i = lZ23.map AV.i := by rw [← hlZ23, List.map_append]
          have eZ25 : sZ2.2.2.length + 1 = lZ23.length := by simp [← hlZ19, ← hlZ23] <;> omega
          rw [eZ25] at huZ22g
          cases h
          exact ZL (ZA cZ3 (ZA cZ5 (ZA cZ18 (ZA eZ20 (ZA eZ21 (ZA huZ22g (ZA eZ24 eZ25))))))) (ZA S_spec_l17ProtectedL1.eq_1 (ZA SX_spec_l17ProtectedL1.eq_1 (ZA hlZ19.symm hlZ23.symm)))
        · cases h
          exact ZL (ZA cZ3 (ZA cZ5 cZ18)) (ZA S_spec_l17ProtectedL1.eq_1 SX_spec_l17ProtectedL1.eq_1)
  · cases h
    exact ZL cZ3 (ZA S_spec_l17ProtectedL1.eq_1 SX_spec_l17ProtectedL1.eq_1)
theorem w_spec_l17Protected (nZ0 : TNetwork) (ringZ0 : List Int) {r : List Int × List Int} (h : M_spec_l17Protected nZ0 ringZ0 = some r) : Ok Try.prog 51 [.agg [.lst .o 1 (nZ0.Nodes.map AV.z), .lst .o 4 (nZ0.Fibers.map (e_TFiber .o))], .lst .o 1 (ringZ0.map AV.i)] ((fun r => .tup [.lst .u 1 (r.1.map AV.i), .lst .u 1 (r.2.map AV.i)]) r) := by
  refine ok_of_body hmix m51 rfl ?_
  unfold M_spec_l17Protected at h
  simp only [ZC, A51, V51, body_eq]
  obtain ⟨rZ1, hrZ1, h⟩ := bind_s h
  refine ZF trivial ?_
  refine ZU trivial (w_spec_l17Nodes _ _ hrZ1) ?_
  refine ZG ?_
  obtain ⟨oZ26, hoZ26, h⟩ := bind_s h
  try refine ZF trivial ?_
  refine join_rule0 (blk_rule0 (loop_rule (w_spec_l17ProtectedL1 nZ0 ringZ0 rZ1) hoZ26 ?_)) ?_
  · exact ZK (ZA S_spec_l17ProtectedL1.eq_1 SX_spec_l17ProtectedL1.eq_1)
  · simp only [ZC, SX_spec_l17ProtectedL1, A51R3]
    cases h
    exact ZL trivial V51.eq_1
theorem w_spec_l1Most (aZ0 : Int) (bZ0 : Int) {r : Int} (h : M_spec_l1Most aZ0 bZ0 = some r) : Ok Try.prog 54 [.i aZ0, .i bZ0] ((fun r => .i r) r) := by
  refine ok_of_body hmix m54 rfl ?_
  unfold M_spec_l1Most at h
  simp only [ZC, A54, V54, body_eq]
  obtain ⟨cZ1, h⟩ | ⟨cZ1, h⟩ := cond_s h
  · cases h
    exact ZL cZ1 V54.eq_1
  · cases h
    exact ZL cZ1 V54.eq_1
def S_spec_RingCapacityL1 (nZ0 : TNetwork) (ringZ0 : List Int) (workingZ0 : List Int) (v : Int) : St := ⟨[(1, .lst .o 1 (ringZ0.map AV.i)), (2, .lst .o 1 (workingZ0.map AV.i)), (3, .pt 3 0 0), (8, .i v)], [(3, .var (.agg [.lst .o 1 (nZ0.Nodes.map AV.z), .lst .o 4 (nZ0.Fibers.map (e_TFiber .o))]))]⟩
def SX_spec_RingCapacityL1 (nZ0 : TNetwork) (ringZ0 : List Int) (workingZ0 : List Int) (v : Unit) : St := ⟨[(1, .lst .o 1 (ringZ0.map AV.i)), (2, .lst .o 1 (workingZ0.map AV.i)), (3, .pt 3 0 0)], [(3, .var (.agg [.lst .o 1 (nZ0.Nodes.map AV.z), .lst .o 4 (nZ0.Fibers.map (e_TFiber .o))]))]⟩
theorem w_spec_RingCapacityL1 (nZ0 : TNetwork) (ringZ0 : List Int) (workingZ0 : List Int) (sZ5 : Int) (o : Int ⊕ (Unit ⊕ (Int × Bool))) (h : M_spec_RingCapacityL1 workingZ0 sZ5 = some o) : AWP (OkS Try.prog) A24L2 (qL [1, 2, 3, 8] [3] (S_spec_RingCapacityL1 nZ0 ringZ0 workingZ0) (qS (qX 0 [1, 2, 3] [3] (SX_spec_RingCapacityL1 nZ0 ringZ0 workingZ0)) (qR V24 (fun r => .tup [.i r.1, .b r.2]))) o) (S_spec_RingCapacityL1 nZ0 ringZ0 workingZ0 sZ5) := by
  unfold M_spec_RingCapacityL1 at h
  simp only [ZC, S_spec_RingCapacityL1, A24L2]
  obtain ⟨cZ6, h⟩ | ⟨cZ6, h⟩ := cond_s h
  · obtain ⟨yZ7, hyZ7, h⟩ := bind_s h
    obtain ⟨hyZ7a, hyZ7b⟩ := geti_s hyZ7
    obtain ⟨rZ8, hrZ8, h⟩ := bind_s h
    refine ZF (ZA cZ6 (ZA hyZ7a hyZ7b)) ?_
    refine ZS (ZA cZ6 (ZA hyZ7a hyZ7b)) (w_spec_l1In _ _ _ hrZ8) ?_
    refine ZG ?_
    obtain ⟨cZ9, h⟩ | ⟨cZ9, h⟩ := cond_s h
    · cases h
      exact ZL (ZA cZ6 (ZA hyZ7a (ZA hyZ7b cZ9))) V24.eq_1
    · cases h
      exact ZL (ZA cZ6 (ZA hyZ7a (ZA hyZ7b cZ9))) (ZA S_spec_RingCapacityL1.eq_1 SX_spec_RingCapacityL1.eq_1)
  · cases h
    exact ZL cZ6 (ZA S_spec_RingCapacityL1.eq_1 SX_spec_RingCapacityL1.eq_1)
def S_spec_RingCapacityL2 (workingZ0 : List Int) (rZ13 : List Int × List Int) (v : Int × Int) : St := ⟨[(2, .lst .o 1 (workingZ0.map AV.i)), (9, .i v.1), (10, .sl 10 0 rZ13.1.length), (11, .sl 11 0 rZ13.2.length), (12, .i v.2)], [(10, .arr 1 (rZ13.1.map AV.i)), (11, .arr 1 (rZ13.2.map AV.i))]⟩
def SX_spec_RingCapacityL2 (workingZ0 : List Int) (rZ13 : List Int × List Int) (v : Int) : St := ⟨[(2, .lst .o 1 (workingZ0.map AV.i)), (9, .i v), (11, .sl 11 0 rZ13.2.length)], [(11, .arr 1 (rZ13.2.map AV.i))]⟩
theorem w_spec_RingCapacityL2 (workingZ0 : List Int) (rZ13 : List Int × List Int) (sZ14 : Int × Int) (o : (Int × Int) ⊕ Int) (h : M_spec_RingCapacityL2 workingZ0 rZ13 sZ14 = some o) : AWP (OkS Try.prog) A24L4 (qL [2, 9, 10, 11, 12] [10, 11] (S_spec_RingCapacityL2 workingZ0 rZ13) (qX 2 [2, 9, 11] [11] (SX_spec_RingCapacityL2 workingZ0 rZ13)) o) (S_spec_RingCapacityL2 workingZ0 rZ13 sZ14) := by
  unfold M_spec_RingCapacityL2 at h
  simp only [ZC, S_spec_RingCapacityL2, A24L4]
  obtain ⟨cZ15, h⟩ | ⟨cZ15, h⟩ := cond_s h
  · obtain ⟨kZ16, hkZ16, h⟩ := bind_s h
    obtain ⟨hkZ16a, hkZ16b⟩ := grd_s hkZ16
    obtain ⟨yZ17, hyZ17, h⟩ := bind_s h
    obtain ⟨yZ18, hyZ18, h⟩ := bind_s h
    obtain ⟨hyZ18a, hyZ18b⟩ := geti_s hyZ18
    obtain ⟨rZ19, hrZ19, h⟩ := bind_s h
    refine ZF (ZA cZ15 (ZA hkZ16a (ZA hkZ16b (ZA hyZ17 (ZA hyZ18a hyZ18b))))) ?_
    refine ZS (ZA cZ15 (ZA hkZ16a (ZA hkZ16b (ZA hyZ17 (ZA hyZ18a hyZ18b))))) (w_spec_l1Most _ _ hrZ19) ?_
    refine ZG ?_
    cases h
    exact ZL (ZA cZ15 (ZA hkZ16a (ZA hkZ16b (ZA hyZ17 (ZA hyZ18a hyZ18b))))) (ZA S_spec_RingCapacityL2.eq_1 SX_spec_RingCapacityL2.eq_1)
  · cases h
    exact ZL cZ15 (ZA S_spec_RingCapacityL2.eq_1 SX_spec_RingCapacityL2.eq_1)
def S_spec_RingCapacityL3 (workingZ0 : List Int) (rZ13 : List Int × List Int) (v : Int × Int) : St := ⟨[(2, .lst .o 1 (workingZ0.map AV.i)), (9, .i v.1), (11, .sl 11 0 rZ13.2.length), (13, .i v.2)], [(11, .arr 1 (rZ13.2.map AV.i))]⟩
def SX_spec_RingCapacityL3 (v : Int) : St := ⟨[(9, .i v)], []⟩
theorem w_spec_RingCapacityL3 (workingZ0 : List Int) (rZ13 : List Int × List Int) (sZ21 : Int × Int) (o : (Int × Int) ⊕ Int) (h : M_spec_RingCapacityL3 workingZ0 rZ13 sZ21 = some o) : AWP (OkS Try.prog) A24L6 (qL [2, 9, 11, 13] [11] (S_spec_RingCapacityL3 workingZ0 rZ13) (qX 4 [9] [] (SX_spec_RingCapacityL3)) o) (S_spec_RingCapacityL3 workingZ0 rZ13 sZ21) := by
  unfold M_spec_RingCapacityL3 at h
  simp only [ZC, S_spec_RingCapacityL3, A24L6]
  obtain ⟨cZ22, h⟩ | ⟨cZ22, h⟩ := cond_s h
  · obtain ⟨kZ23, hkZ23, h⟩ := bind_s h
    obtain ⟨hkZ23a, hkZ23b⟩ := grd_s hkZ23
    obtain ⟨yZ24, hyZ24, h⟩ := bind_s h
    obtain ⟨yZ25, hyZ25, h⟩ := bind_s h
    obtain ⟨hyZ25a, hyZ25b⟩ := geti_s hyZ25
    obtain ⟨uZ26, huZ26, h⟩ := bind_s h
    have huZ26g := grd_s huZ26
    obtain ⟨rZ27, hrZ27, h⟩ := bind_s h
    refine ZF (ZA cZ22 (ZA hkZ23a (ZA hkZ23b (ZA hyZ24 (ZA hyZ25a (ZA hyZ25b huZ26g)))))) ?_
    refine ZS (ZA cZ22 (ZA hkZ23a (ZA hkZ23b (ZA hyZ24 (ZA hyZ25a (ZA hyZ25b huZ26g)))))) (w_spec_l1Most _ _ hrZ27) ?_
    refine ZG ?_
    cases h
    exact ZL (ZA cZ22 (ZA hkZ23a (ZA hkZ23b (ZA hyZ24 (ZA hyZ25a (ZA hyZ25b huZ26g)))))) (ZA S_spec_RingCapacityL3.eq_1 SX_spec_RingCapacityL3.eq_1)
  · cases h
    exact ZL cZ22 (ZA S_spec_RingCapacityL3.eq_1 SX_spec_RingCapacityL3.eq_1)
theorem w_spec_RingCapacity (nZ0 : TNetwork) (ringZ0 : List Int) (workingZ0 : List Int) {r : Int × Bool} (h : M_spec_RingCapacity nZ0 ringZ0 workingZ0 = some r) : Ok Try.prog 24 [.agg [.lst .o 1 (nZ0.Nodes.map AV.z), .lst .o 4 (nZ0.Fibers.map (e_TFiber .o))], .lst .o 1 (ringZ0.map AV.i), .lst .o 1 (workingZ0.map AV.i)] ((fun r => .tup [.i r.1, .b r.2]) r) := by
  refine ok_of_body hmix m24 rfl ?_
  unfold M_spec_RingCapacity at h
  simp only [ZC, A24, V24, body_eq]
  obtain ⟨oZ3, hoZ3, h⟩ := bind_s h
  try refine ZF trivial ?_
  refine join_rule0 (sh := (fun v => ⟨[(1, .lst .o 1 (ringZ0.map AV.i)), (2, .lst .o 1 (workingZ0.map AV.i)), (3, .pt 3 0 0), (25, .b v)], [(3, .var (.agg [.lst .o 1 (nZ0.Nodes.map AV.z), .lst .o 4 (nZ0.Fibers.map (e_TFiber .o))]))]⟩)) (s := oZ3) ?_ ?_
  · replace h := hoZ3
    obtain ⟨rZ1, hrZ1, h⟩ := bind_s h
    refine ZF trivial ?_
    refine ZS trivial (w_spec_IsRing _ _ hrZ1) ?_
    refine ZG ?_
    obtain ⟨cZ2, h⟩ | ⟨cZ2, h⟩ := cond_s h
    · cases h
      exact ZL cZ2 trivial
    · cases h
      exact ZL cZ2 trivial
  · simp only [ZC, A24R1]
    obtain ⟨cZ4, h⟩ | ⟨cZ4, h⟩ := cond_s h
    · cases h
      exact ZL cZ4 V24.eq_1
    · obtain ⟨oZ10, hoZ10, h⟩ := bind_s h
      try refine ZF cZ4 ?_
      refine join_rule (o := oZ10) (blk_rule sideR (loop_rule (w_spec_RingCapacityL1 nZ0 ringZ0 workingZ0) hoZ10 ?_)) (fun vZ11 hv => ?_) (fun xZ12 hv e τ hne hq => ?_)
      · exact ZK (ZA S_spec_RingCapacityL1.eq_1 SX_spec_RingCapacityL1.eq_1)
      · subst hv
        simp only [] at h
        simp only [ZC, SX_spec_RingCapacityL1, A24R3]
        obtain ⟨rZ13, hrZ13, h⟩ := bind_s h
        refine ZF cZ4 ?_
        refine ZU cZ4 (w_spec_l17Protected _ _ hrZ13) ?_
        refine ZG ?_
        obtain ⟨oZ20, hoZ20, h⟩ := bind_s h
        try refine ZF cZ4 ?_
        refine join_rule0 (blk_rule0 (loop_rule (w_spec_RingCapacityL2 workingZ0 rZ13) hoZ20 ?_)) ?_
        · exact ZK (ZA S_spec_RingCapacityL2.eq_1 SX_spec_RingCapacityL2.eq_1)
        · simp only [ZC, SX_spec_RingCapacityL2, A24R5]
          obtain ⟨oZ28, hoZ28, h⟩ := bind_s h
          try refine ZF cZ4 ?_
          refine join_rule0 (blk_rule0 (loop_rule (w_spec_RingCapacityL3 workingZ0 rZ13) hoZ28 ?_)) ?_
          · exact ZK (ZA S_spec_RingCapacityL3.eq_1 SX_spec_RingCapacityL3.eq_1)
          · simp only [ZC, SX_spec_RingCapacityL3, A24R7]
            cases h
            exact ZL cZ4 V24.eq_1
      · subst hv
        simp only [] at h
        obtain ⟨rfl, qZ29⟩ := hq
        cases h
        exact qZ29
theorem w_impl_within (nZ0 : Int) (lowZ0 : Int) (highZ0 : Int) {r : Bool} (h : M_impl_within nZ0 lowZ0 highZ0 = some r) : Ok Try.prog 57 [.i nZ0, .i lowZ0, .i highZ0] ((fun r => .b r) r) := by
  refine ok_of_body hmix m57 rfl ?_
  unfold M_impl_within at h
  simp only [ZC, A57, V57, body_eq]
  obtain ⟨cZ1, h⟩ | ⟨cZ1, h⟩ := cond_s h
  · cases h
    exact ZL cZ1 V57.eq_1
  · cases h
    exact ZL cZ1 V57.eq_1
def S_impl_isNameL1 (sZ0 : ByteArray) (v : Int) : St := ⟨[(0, .z sZ0), (7, .i (sZ0.size : Int)), (8, .i v)], []⟩
def SX_impl_isNameL1 (sZ0 : ByteArray) (v : Unit) : St := ⟨[(0, .z sZ0)], []⟩
theorem w_impl_isNameL1 (sZ0 : ByteArray) (sZ1 : Int) (o : Int ⊕ (Unit ⊕ Bool)) (h : M_impl_isNameL1 sZ0 sZ1 = some o) : AWP (OkS Try.prog) A81L2 (qL [0, 7, 8] [] (S_impl_isNameL1 sZ0) (qS (qX 0 [0] [] (SX_impl_isNameL1 sZ0)) (qR V81 (fun r => .b r))) o) (S_impl_isNameL1 sZ0 sZ1) := by
  unfold M_impl_isNameL1 at h
  simp only [ZC, S_impl_isNameL1, A81L2]
  obtain ⟨cZ2, h⟩ | ⟨cZ2, h⟩ := cond_s h
  · obtain ⟨oZ7, hoZ7, h⟩ := bind_s h
    try refine ZF cZ2 ?_
    refine join_rule0 (sh := (fun v => ⟨[(0, .z sZ0), (3, .i sZ1), (4, .b v.1), (5, .b v.2), (7, .i (sZ0.size : Int)), (8, .i sZ1)], []⟩)) (s := oZ7) ?_ ?_
    · replace h := hoZ7
      obtain ⟨yZ3, hyZ3, h⟩ := bind_s h
      obtain ⟨hyZ3a, hyZ3b⟩ := getz_s hyZ3
      obtain ⟨cZ4, h⟩ | ⟨cZ4, h⟩ := cond_s h
      · obtain ⟨cZ5, h⟩ | ⟨cZ5, h⟩ := cond_s h
        · cases h
          exact ZL (ZA cZ2 (ZA hyZ3a (ZA hyZ3b (ZA cZ4 cZ5)))) trivial
        · cases h
          exact ZL (ZA cZ2 (ZA hyZ3a (ZA hyZ3b (ZA cZ4 cZ5)))) trivial
      · obtain ⟨cZ6, h⟩ | ⟨cZ6, h⟩ := cond_s h
        · cases h
          exact ZL (ZA cZ2 (ZA hyZ3a (ZA hyZ3b (ZA cZ4 cZ6)))) trivial
        · cases h
          exact ZL (ZA cZ2 (ZA hyZ3a (ZA hyZ3b (ZA cZ4 cZ6)))) trivial
    · simp only [ZC, A81R1]
      obtain ⟨cZ8, h⟩ | ⟨cZ8, h⟩ := cond_s h
      · obtain ⟨cZ9, h⟩ | ⟨cZ9, h⟩ := cond_s h
        · cases h
          exact ZL (ZA cZ2 (ZA cZ8 cZ9)) V81.eq_1
        · obtain ⟨cZ10, h⟩ | ⟨cZ10, h⟩ := cond_s h
          · cases h
            exact ZL (ZA cZ2 (ZA cZ8 (ZA cZ9 cZ10))) V81.eq_1
          · cases h
            exact ZL (ZA cZ2 (ZA cZ8 (ZA cZ9 cZ10))) (ZA S_impl_isNameL1.eq_1 SX_impl_isNameL1.eq_1)
      · cases h
        exact ZL (ZA cZ2 cZ8) (ZA S_impl_isNameL1.eq_1 SX_impl_isNameL1.eq_1)
  · cases h
    exact ZL cZ2 (ZA S_impl_isNameL1.eq_1 SX_impl_isNameL1.eq_1)
theorem w_impl_isName (sZ0 : ByteArray) {r : Bool} (h : M_impl_isName sZ0 = some r) : Ok Try.prog 81 [.z sZ0] ((fun r => .b r) r) := by
  refine ok_of_body hmix m81 rfl ?_
  unfold M_impl_isName at h
  simp only [ZC, A81, V81, body_eq]
  obtain ⟨oZ11, hoZ11, h⟩ := bind_s h
  try refine ZF trivial ?_
  refine join_rule (o := oZ11) (blk_rule sideR (loop_rule (w_impl_isNameL1 sZ0) hoZ11 ?_)) (fun vZ12 hv => ?_) (fun xZ13 hv e τ hne hq => ?_)
  · exact ZK (ZA S_impl_isNameL1.eq_1 SX_impl_isNameL1.eq_1)
  · subst hv
    simp only [] at h
    simp only [ZC, SX_impl_isNameL1, A81R3]
    obtain ⟨rZ14, hrZ14, h⟩ := bind_s h
    refine ZF trivial ?_
    refine ZS trivial (w_impl_within _ _ _ hrZ14) ?_
    refine ZG ?_
    cases h
    exact ZL trivial V81.eq_1
  · subst hv
    simp only [] at h
    obtain ⟨rfl, qZ15⟩ := hq
    cases h
    exact qZ15
def S_slices_Index_Lstring_stringL1 (sZ0 : List ByteArray) (vZ0 : ByteArray) (v : Int) : St := ⟨[(0, .lst .o 1 (sZ0.map AV.z)), (1, .z vZ0), (7, .i (sZ0.length : Int)), (8, .i v)], []⟩
def SX_slices_Index_Lstring_stringL1 (v : Unit) : St := ⟨[], []⟩
theorem w_slices_Index_Lstring_stringL1 (sZ0 : List ByteArray) (vZ0 : ByteArray) (sZ1 : Int) (o : Int ⊕ (Unit ⊕ Int)) (h : M_slices_Index_Lstring_stringL1 sZ0 vZ0 sZ1 = some o) : AWP (OkS Try.prog) A109L1 (qL [0, 1, 7, 8] [] (S_slices_Index_Lstring_stringL1 sZ0 vZ0) (qS (qX 0 [] [] (SX_slices_Index_Lstring_stringL1)) (qR V109 (fun r => .i r))) o) (S_slices_Index_Lstring_stringL1 sZ0 vZ0 sZ1) := by
  unfold M_slices_Index_Lstring_stringL1 at h
  simp only [ZC, S_slices_Index_Lstring_stringL1, A109L1]
  obtain ⟨cZ2, h⟩ | ⟨cZ2, h⟩ := cond_s h
  · obtain ⟨yZ3, hyZ3, h⟩ := bind_s h
    obtain ⟨hyZ3a, hyZ3b⟩ := geti_s hyZ3
    obtain ⟨cZ4, h⟩ | ⟨cZ4, h⟩ := cond_s h
    · cases h
      exact ZL (ZA cZ2 (ZA hyZ3a (ZA hyZ3b cZ4))) V109.eq_1
    · cases h
      exact ZL (ZA cZ2 (ZA hyZ3a (ZA hyZ3b cZ4))) (ZA S_slices_Index_Lstring_stringL1.eq_1 SX_slices_Index_Lstring_stringL1.eq_1)
  · cases h
    exact ZL cZ2 (ZA S_slices_Index_Lstring_stringL1.eq_1 SX_slices_Index_Lstring_stringL1.eq_1)
theorem w_slices_Index_Lstring_string (sZ0 : List ByteArray) (vZ0 : ByteArray) {r : Int} (h : M_slices_Index_Lstring_string sZ0 vZ0 = some r) : Ok Try.prog 109 [.lst .o 1 (sZ0.map AV.z), .z vZ0] ((fun r => .i r) r) := by
  refine ok_of_body hmix m109 rfl ?_
  unfold M_slices_Index_Lstring_string at h
  simp only [ZC, A109, V109, body_eq]
  obtain ⟨oZ5, hoZ5, h⟩ := bind_s h
  try refine ZF trivial ?_
  refine join_rule (o := oZ5) (blk_rule sideR (loop_rule (w_slices_Index_Lstring_stringL1 sZ0 vZ0) hoZ5 ?_)) (fun vZ6 hv => ?_) (fun xZ7 hv e τ hne hq => ?_)
  · exact ZK (ZA S_slices_Index_Lstring_stringL1.eq_1 SX_slices_Index_Lstring_stringL1.eq_1)
  · subst hv
    simp only [] at h
    simp only [ZC, SX_slices_Index_Lstring_stringL1, A109R2]
    cases h
    exact ZL trivial V109.eq_1
  · subst hv
    simp only [] at h
    obtain ⟨rfl, qZ8⟩ := hq
    cases h
    exact qZ8
theorem w_slices_Contains_Lstring_string (sZ0 : List ByteArray) (vZ0 : ByteArray) {r : Bool} (h : M_slices_Contains_Lstring_string sZ0 vZ0 = some r) : Ok Try.prog 82 [.lst .o 1 (sZ0.map AV.z), .z vZ0] ((fun r => .b r) r) := by
  refine ok_of_body hmix m82 rfl ?_
  unfold M_slices_Contains_Lstring_string at h
  simp only [ZC, A82, V82, body_eq]
  obtain ⟨rZ1, hrZ1, h⟩ := bind_s h
  refine ZF trivial ?_
  refine ZS trivial (w_slices_Index_Lstring_string _ _ hrZ1) ?_
  refine ZG ?_
  cases h
  exact ZL trivial V82.eq_1
theorem w_cmp_isNaN_int (xZ0 : Int) {r : Bool} (h : M_cmp_isNaN_int xZ0 = some r) : Ok Try.prog 114 [.i xZ0] ((fun r => .b r) r) := by
  refine ok_of_body hmix m114 rfl ?_
  unfold M_cmp_isNaN_int at h
  simp only [ZC, A114, V114, body_eq]
  cases h
  exact ZL trivial V114.eq_1
theorem w_cmp_Compare_int (xZ0 : Int) (yZ0 : Int) {r : Int} (h : M_cmp_Compare_int xZ0 yZ0 = some r) : Ok Try.prog 98 [.i xZ0, .i yZ0] ((fun r => .i r) r) := by
  refine ok_of_body hmix m98 rfl ?_
  unfold M_cmp_Compare_int at h
  simp only [ZC, A98, V98, body_eq]
  obtain ⟨rZ1, hrZ1, h⟩ := bind_s h
  refine ZF trivial ?_
  refine ZS trivial (w_cmp_isNaN_int _ hrZ1) ?_
  refine ZG ?_
  obtain ⟨rZ2, hrZ2, h⟩ := bind_s h
  refine ZF trivial ?_
  refine ZS trivial (w_cmp_isNaN_int _ hrZ2) ?_
  refine ZG ?_
  obtain ⟨cZ3, h⟩ | ⟨cZ3, h⟩ := cond_s h
  · obtain ⟨cZ4, h⟩ | ⟨cZ4, h⟩ := cond_s h
    · cases h
      exact ZL (ZA cZ3 cZ4) V98.eq_1
    · cases h
      exact ZL (ZA cZ3 cZ4) V98.eq_1
  · obtain ⟨cZ5, h⟩ | ⟨cZ5, h⟩ := cond_s h
    · cases h
      exact ZL (ZA cZ3 cZ5) V98.eq_1
    · obtain ⟨cZ6, h⟩ | ⟨cZ6, h⟩ := cond_s h
      · cases h
        exact ZL (ZA cZ3 (ZA cZ5 cZ6)) V98.eq_1
      · obtain ⟨cZ7, h⟩ | ⟨cZ7, h⟩ := cond_s h
        · cases h
          exact ZL (ZA cZ3 (ZA cZ5 (ZA cZ6 cZ7))) V98.eq_1
        · cases h
          exact ZL (ZA cZ3 (ZA cZ5 (ZA cZ6 cZ7))) V98.eq_1
def S_cmp_Or_intL1 (valsZ0 : List Int) (v : Int) : St := ⟨[(3, .i 0), (6, .lst .o 1 (valsZ0.map AV.i)), (7, .i (valsZ0.length : Int)), (8, .i v)], []⟩
def SX_cmp_Or_intL1 (v : Unit) : St := ⟨[(3, .i 0)], []⟩
theorem w_cmp_Or_intL1 (valsZ0 : List Int) (sZ1 : Int) (o : Int ⊕ (Unit ⊕ Int)) (h : M_cmp_Or_intL1 valsZ0 sZ1 = some o) : AWP (OkS Try.prog) A97L1 (qL [3, 6, 7, 8] [] (S_cmp_Or_intL1 valsZ0) (qS (qX 0 [3] [] (SX_cmp_Or_intL1)) (qR V97 (fun r => .i r))) o) (S_cmp_Or_intL1 valsZ0 sZ1) := by
  unfold M_cmp_Or_intL1 at h
  simp only [ZC, S_cmp_Or_intL1, A97L1]
  obtain ⟨cZ2, h⟩ | ⟨cZ2, h⟩ := cond_s h
  · obtain ⟨yZ3, hyZ3, h⟩ := bind_s h
    obtain ⟨hyZ3a, hyZ3b⟩ := geti_s hyZ3
    obtain ⟨cZ4, h⟩ | ⟨cZ4, h⟩ := cond_s h
    · cases h
      exact ZL (ZA cZ2 (ZA hyZ3a (ZA hyZ3b cZ4))) V97.eq_1
    · cases h
      exact ZL (ZA cZ2 (ZA hyZ3a (ZA hyZ3b cZ4))) (ZA S_cmp_Or_intL1.eq_1 SX_cmp_Or_intL1.eq_1)
  · cases h
    exact ZL cZ2 (ZA S_cmp_Or_intL1.eq_1 SX_cmp_Or_intL1.eq_1)
theorem w_cmp_Or_int (valsZ0 : List Int) {r : Int} (h : M_cmp_Or_int valsZ0 = some r) : Ok Try.prog 97 [.lst .o 1 (valsZ0.map AV.i)] ((fun r => .i r) r) := by
  refine ok_of_body hmix m97 rfl ?_
  unfold M_cmp_Or_int at h
  simp only [ZC, A97, V97, body_eq]
  obtain ⟨oZ5, hoZ5, h⟩ := bind_s h
  try refine ZF trivial ?_
  refine join_rule (o := oZ5) (blk_rule sideR (loop_rule (w_cmp_Or_intL1 valsZ0) hoZ5 ?_)) (fun vZ6 hv => ?_) (fun xZ7 hv e τ hne hq => ?_)
  · exact ZK (ZA S_cmp_Or_intL1.eq_1 SX_cmp_Or_intL1.eq_1)
  · subst hv
    simp only [] at h
    simp only [ZC, SX_cmp_Or_intL1, A97R2]
    cases h
    exact ZL trivial V97.eq_1
  · subst hv
    simp only [] at h
    obtain ⟨rfl, qZ8⟩ := hq
    cases h
    exact qZ8
theorem w_impl_compareFibers (aZ0 : TFiber) (bZ0 : TFiber) {r : Int} (h : M_impl_compareFibers aZ0 bZ0 = some r) : Ok Try.prog 83 [.agg [.i aZ0.A, .i aZ0.B, .i aZ0.Length, .i aZ0.Risk], .agg [.i bZ0.A, .i bZ0.B, .i bZ0.Length, .i bZ0.Risk]] ((fun r => .i r) r) := by
  refine ok_of_body hmix m83 rfl ?_
  unfold M_impl_compareFibers at h
  simp only [ZC, A83, V83, body_eq]
  obtain ⟨rZ1, hrZ1, h⟩ := bind_s h
  refine ZF trivial ?_
  refine ZS trivial (w_cmp_Compare_int _ _ hrZ1) ?_
  refine ZG ?_
  obtain ⟨rZ2, hrZ2, h⟩ := bind_s h
  refine ZF trivial ?_
  refine ZS trivial (w_cmp_Compare_int _ _ hrZ2) ?_
  refine ZG ?_
  obtain ⟨rZ3, hrZ3, h⟩ := bind_s h
  refine ZF trivial ?_
  refine ZS trivial (w_cmp_Compare_int _ _ hrZ3) ?_
  refine ZG ?_
  obtain ⟨rZ4, hrZ4, h⟩ := bind_s h
  refine ZF trivial ?_
  refine ZS trivial (w_cmp_Compare_int _ _ hrZ4) ?_
  refine ZG ?_
  obtain ⟨lZ5, hlZ5, h⟩ := bnd_s h
  have eZ6 : Row.arr 1 [(.i rZ1 : AV), (.i rZ2 : AV), (.i rZ3 : AV), (.i rZ4 : AV)] = Row.arr 1 (lZ5.map AV.i) := by rw [← hlZ5]; rfl
  have eZ7 : lZ5.length = 4 := by rw [← hlZ5]; rfl
  have nZ8 : sub (lZ5.map AV.i) 0 4 = lZ5.map AV.i := sub_n _ (by simp [← hlZ5])
  obtain ⟨rZ9, hrZ9, h⟩ := bind_s h
  refine ZF (ZA eZ6 (ZA eZ7 nZ8)) ?_
  refine ZS (ZA eZ6 (ZA eZ7 nZ8)) (w_cmp_Or_int _ hrZ9) ?_
  refine ZG ?_
  cases h
  exact ZL (ZA eZ6 (ZA eZ7 nZ8)) (ZA V83.eq_1 hlZ5.symm)
def S_impl_IsValidNetworkL1 (nZ0 : TNetwork) (v : Int) : St := ⟨[(1, .pt 1 0 0), (8, .lst .o 1 (nZ0.Nodes.map AV.z)), (9, .i (nZ0.Nodes.length : Int)), (10, .i v)], [(1, .var (.agg [.lst .o 1 (nZ0.Nodes.map AV.z), .lst .o 4 (nZ0.Fibers.map (e_TFiber .o))]))]⟩
def SX_impl_IsValidNetworkL1 (nZ0 : TNetwork) (v : Unit) : St := ⟨[(1, .pt 1 0 0)], [(1, .var (.agg [.lst .o 1 (nZ0.Nodes.map AV.z), .lst .o 4 (nZ0.Fibers.map (e_TFiber .o))]))]⟩
theorem w_impl_IsValidNetworkL1 (nZ0 : TNetwork) (sZ1 : Int) (o : Int ⊕ (Unit ⊕ Bool)) (h : M_impl_IsValidNetworkL1 nZ0 sZ1 = some o) : AWP (OkS Try.prog) A47L1 (qL [1, 8, 9, 10] [1] (S_impl_IsValidNetworkL1 nZ0) (qS (qX 0 [1] [1] (SX_impl_IsValidNetworkL1 nZ0)) (qR V47 (fun r => .b r))) o) (S_impl_IsValidNetworkL1 nZ0 sZ1) := by
  unfold M_impl_IsValidNetworkL1 at h
  simp only [ZC, S_impl_IsValidNetworkL1, A47L1]
  obtain ⟨cZ2, h⟩ | ⟨cZ2, h⟩ := cond_s h
  · obtain ⟨yZ3, hyZ3, h⟩ := bind_s h
    obtain ⟨hyZ3a, hyZ3b⟩ := geti_s hyZ3
    obtain ⟨rZ4, hrZ4, h⟩ := bind_s h
    refine ZF (ZA cZ2 (ZA hyZ3a hyZ3b)) ?_
    refine ZS (ZA cZ2 (ZA hyZ3a hyZ3b)) (w_impl_isName _ hrZ4) ?_
    refine ZG ?_
    obtain ⟨cZ5, h⟩ | ⟨cZ5, h⟩ := cond_s h
    · cases h
      exact ZL (ZA cZ2 (ZA hyZ3a (ZA hyZ3b cZ5))) V47.eq_1
    · obtain ⟨lZ6, hlZ6, h⟩ := bind_s h
      obtain ⟨hlZ6a, hlZ6b, hlZ6c, hlZ6d, hlZ6e⟩ := slT_s AV.z hlZ6
      obtain ⟨rZ7, hrZ7, h⟩ := bind_s h
      refine ZF (ZA cZ2 (ZA hyZ3a (ZA hyZ3b (ZA cZ5 (ZA hlZ6a (ZA hlZ6b (ZA hlZ6c (ZA hlZ6d hlZ6e)))))))) ?_
      refine ZS (ZA cZ2 (ZA hyZ3a (ZA hyZ3b (ZA cZ5 (ZA hlZ6a (ZA hlZ6b (ZA hlZ6c (ZA hlZ6d hlZ6e)))))))) (w_slices_Contains_Lstring_string _ _ hrZ7) ?_
      refine ZG ?_
      obtain ⟨cZ8, h⟩ | ⟨cZ8, h⟩ := cond_s h
      · cases h
        exact ZL (ZA cZ2 (ZA hyZ3a (ZA hyZ3b (ZA cZ5 (ZA hlZ6a (ZA hlZ6b (ZA hlZ6c (ZA hlZ6d (ZA hlZ6e cZ8))))))))) V47.eq_1
      · cases h
        exact ZL (ZA cZ2 (ZA hyZ3a (ZA hyZ3b (ZA cZ5 (ZA hlZ6a (ZA hlZ6b (ZA hlZ6c (ZA hlZ6d (ZA hlZ6e cZ8))))))))) (ZA S_impl_IsValidNetworkL1.eq_1 SX_impl_IsValidNetworkL1.eq_1)
  · cases h
    exact ZL cZ2 (ZA S_impl_IsValidNetworkL1.eq_1 SX_impl_IsValidNetworkL1.eq_1)
def S_impl_IsValidNetworkL2 (nZ0 : TNetwork) (v : Int) : St := ⟨[(1, .pt 1 0 0), (28, .lst .o 4 (nZ0.Fibers.map (e_TFiber .o))), (29, .i (nZ0.Fibers.length : Int)), (30, .i v)], [(1, .var (.agg [.lst .o 1 (nZ0.Nodes.map AV.z), .lst .o 4 (nZ0.Fibers.map (e_TFiber .o))]))]⟩
def SX_impl_IsValidNetworkL2 (nZ0 : TNetwork) (v : Unit) : St := ⟨[(1, .pt 1 0 0)], [(1, .var (.agg [.lst .o 1 (nZ0.Nodes.map AV.z), .lst .o 4 (nZ0.Fibers.map (e_TFiber .o))]))]⟩
theorem w_impl_IsValidNetworkL2 (nZ0 : TNetwork) (sZ12 : Int) (o : Int ⊕ (Unit ⊕ Bool)) (h : M_impl_IsValidNetworkL2 nZ0 sZ12 = some o) : AWP (OkS Try.prog) A47L3 (qL [1, 28, 29, 30] [1] (S_impl_IsValidNetworkL2 nZ0) (qS (qX 2 [1] [1] (SX_impl_IsValidNetworkL2 nZ0)) (qR V47 (fun r => .b r))) o) (S_impl_IsValidNetworkL2 nZ0 sZ12) := by
  unfold M_impl_IsValidNetworkL2 at h
  simp only [ZC, S_impl_IsValidNetworkL2, A47L3]
  obtain ⟨cZ13, h⟩ | ⟨cZ13, h⟩ := cond_s h
  · obtain ⟨yZ14, hyZ14, h⟩ := bind_s h
    obtain ⟨hyZ14a, hyZ14b⟩ := geti_s hyZ14
    obtain ⟨cZ15, h⟩ | ⟨cZ15, h⟩ := cond_s h
    · cases h
      exact ZL (ZA cZ13 (ZA hyZ14a (ZA hyZ14b cZ15))) V47.eq_1
    · obtain ⟨cZ16, h⟩ | ⟨cZ16, h⟩ := cond_s h
      · cases h
        exact ZL (ZA cZ13 (ZA hyZ14a (ZA hyZ14b (ZA cZ15 cZ16)))) V47.eq_1
      · obtain ⟨cZ17, h⟩ | ⟨cZ17, h⟩ := cond_s h
        · cases h
          exact ZL (ZA cZ13 (ZA hyZ14a (ZA hyZ14b (ZA cZ15 (ZA cZ16 cZ17))))) V47.eq_1
        · obtain ⟨rZ18, hrZ18, h⟩ := bind_s h
          refine ZF (ZA cZ13 (ZA hyZ14a (ZA hyZ14b (ZA cZ15 (ZA cZ16 cZ17))))) ?_
          refine ZS (ZA cZ13 (ZA hyZ14a (ZA hyZ14b (ZA cZ15 (ZA cZ16 cZ17))))) (w_impl_within _ _ _ hrZ18) ?_
          refine ZG ?_
          obtain ⟨cZ19, h⟩ | ⟨cZ19, h⟩ := cond_s h
          · cases h
            exact ZL (ZA cZ13 (ZA hyZ14a (ZA hyZ14b (ZA cZ15 (ZA cZ16 (ZA cZ17 cZ19)))))) V47.eq_1
          · obtain ⟨rZ20, hrZ20, h⟩ := bind_s h
            refine ZF (ZA cZ13 (ZA hyZ14a (ZA hyZ14b (ZA cZ15 (ZA cZ16 (ZA cZ17 cZ19)))))) ?_
            refine ZS (ZA cZ13 (ZA hyZ14a (ZA hyZ14b (ZA cZ15 (ZA cZ16 (ZA cZ17 cZ19)))))) (w_impl_within _ _ _ hrZ20) ?_
            refine ZG ?_
            obtain ⟨cZ21, h⟩ | ⟨cZ21, h⟩ := cond_s h
            · cases h
              exact ZL (ZA cZ13 (ZA hyZ14a (ZA hyZ14b (ZA cZ15 (ZA cZ16 (ZA cZ17 (ZA cZ19 cZ21))))))) V47.eq_1
            · obtain ⟨cZ22, h⟩ | ⟨cZ22, h⟩ := cond_s h
              · obtain ⟨yZ23, hyZ23, h⟩ := bind_s h
                obtain ⟨hyZ23a, hyZ23b⟩ := geti_s hyZ23
                obtain ⟨rZ24, hrZ24, h⟩ := bind_s h
                refine ZF (ZA cZ13 (ZA hyZ14a (ZA hyZ14b (ZA cZ15 (ZA cZ16 (ZA cZ17 (ZA cZ19 (ZA cZ21 (ZA cZ22 (ZA hyZ23a hyZ23b)))))))))) ?_
                refine ZS (ZA cZ13 (ZA hyZ14a (ZA hyZ14b (ZA cZ15 (ZA cZ16 (ZA cZ17 (ZA cZ19 (ZA cZ21 (ZA cZ22 (ZA hyZ23a hyZ23b)))))))))) (w_impl_compareFibers _ _ hrZ24) ?_
                refine ZG ?_
                obtain ⟨cZ25, h⟩ | ⟨cZ25, h⟩ := cond_s h
                · cases h
                  exact ZL (ZA cZ13 (ZA hyZ14a (ZA hyZ14b (ZA cZ15 (ZA cZ16 (ZA cZ17 (ZA cZ19 (ZA cZ21 (ZA cZ22 (ZA hyZ23a (ZA hyZ23b cZ25))))))))))) V47.eq_1
                · cases h
                  exact ZL (ZA cZ13 (ZA hyZ14a (ZA hyZ14b (ZA cZ15 (ZA cZ16 (ZA cZ17 (ZA cZ19 (ZA cZ21 (ZA cZ22 (ZA hyZ23a (ZA hyZ23b cZ25))))))))))) (ZA S_impl_IsValidNetworkL2.eq_1 SX_impl_IsValidNetworkL2.eq_1)
              · cases h
                exact ZL (ZA cZ13 (ZA hyZ14a (ZA hyZ14b (ZA cZ15 (ZA cZ16 (ZA cZ17 (ZA cZ19 (ZA cZ21 cZ22)))))))) (ZA S_impl_IsValidNetworkL2.eq_1 SX_impl_IsValidNetworkL2.eq_1)
  · cases h
    exact ZL cZ13 (ZA S_impl_IsValidNetworkL2.eq_1 SX_impl_IsValidNetworkL2.eq_1)
theorem w_impl_IsValidNetwork (nZ0 : TNetwork) {r : Bool} (h : M_impl_IsValidNetwork nZ0 = some r) : Ok Try.prog 47 [.agg [.lst .o 1 (nZ0.Nodes.map AV.z), .lst .o 4 (nZ0.Fibers.map (e_TFiber .o))]] ((fun r => .b r) r) := by
  refine ok_of_body hmix m47 rfl ?_
  unfold M_impl_IsValidNetwork at h
  simp only [ZC, A47, V47, body_eq]
  obtain ⟨oZ9, hoZ9, h⟩ := bind_s h
  try refine ZF trivial ?_
  refine join_rule (o := oZ9) (blk_rule sideR (loop_rule (w_impl_IsValidNetworkL1 nZ0) hoZ9 ?_)) (fun vZ10 hv => ?_) (fun xZ11 hv e τ hne hq => ?_)
  · exact ZK (ZA S_impl_IsValidNetworkL1.eq_1 SX_impl_IsValidNetworkL1.eq_1)
  · subst hv
    simp only [] at h
    simp only [ZC, SX_impl_IsValidNetworkL1, A47R2]
    obtain ⟨oZ26, hoZ26, h⟩ := bind_s h
    try refine ZF trivial ?_
    refine join_rule (o := oZ26) (blk_rule sideR (loop_rule (w_impl_IsValidNetworkL2 nZ0) hoZ26 ?_)) (fun vZ27 hv => ?_) (fun xZ28 hv e τ hne hq => ?_)
    · exact ZK (ZA S_impl_IsValidNetworkL2.eq_1 SX_impl_IsValidNetworkL2.eq_1)
    · subst hv
      simp only [] at h
      simp only [ZC, SX_impl_IsValidNetworkL2, A47R4]
      obtain ⟨rZ29, hrZ29, h⟩ := bind_s h
      refine ZF trivial ?_
      refine ZS trivial (w_impl_within _ _ _ hrZ29) ?_
      refine ZG ?_
      obtain ⟨cZ30, h⟩ | ⟨cZ30, h⟩ := cond_s h
      · cases h
        exact ZL cZ30 V47.eq_1
      · cases h
        exact ZL cZ30 V47.eq_1
    · subst hv
      simp only [] at h
      obtain ⟨rfl, qZ31⟩ := hq
      cases h
      exact qZ31
  · subst hv
    simp only [] at h
    obtain ⟨rfl, qZ32⟩ := hq
    cases h
    exact qZ32
def S_slices_Index_Lint_intL1 (sZ0 : List Int) (vZ0 : Int) (v : Int) : St := ⟨[(0, .lst .o 1 (sZ0.map AV.i)), (1, .i vZ0), (7, .i (sZ0.length : Int)), (8, .i v)], []⟩
def SX_slices_Index_Lint_intL1 (v : Unit) : St := ⟨[], []⟩
theorem w_slices_Index_Lint_intL1 (sZ0 : List Int) (vZ0 : Int) (sZ1 : Int) (o : Int ⊕ (Unit ⊕ Int)) (h : M_slices_Index_Lint_intL1 sZ0 vZ0 sZ1 = some o) : AWP (OkS Try.prog) A64L1 (qL [0, 1, 7, 8] [] (S_slices_Index_Lint_intL1 sZ0 vZ0) (qS (qX 0 [] [] (SX_slices_Index_Lint_intL1)) (qR V64 (fun r => .i r))) o) (S_slices_Index_Lint_intL1 sZ0 vZ0 sZ1) := by
  unfold M_slices_Index_Lint_intL1 at h
  simp only [ZC, S_slices_Index_Lint_intL1, A64L1]
  obtain ⟨cZ2, h⟩ | ⟨cZ2, h⟩ := cond_s h
  · obtain ⟨yZ3, hyZ3, h⟩ := bind_s h
    obtain ⟨hyZ3a, hyZ3b⟩ := geti_s hyZ3
    obtain ⟨cZ4, h⟩ | ⟨cZ4, h⟩ := cond_s h
    · cases h
      exact ZL (ZA cZ2 (ZA hyZ3a (ZA hyZ3b cZ4))) V64.eq_1
    · cases h
      exact ZL (ZA cZ2 (ZA hyZ3a (ZA hyZ3b cZ4))) (ZA S_slices_Index_Lint_intL1.eq_1 SX_slices_Index_Lint_intL1.eq_1)
  · cases h
    exact ZL cZ2 (ZA S_slices_Index_Lint_intL1.eq_1 SX_slices_Index_Lint_intL1.eq_1)
theorem w_slices_Index_Lint_int (sZ0 : List Int) (vZ0 : Int) {r : Int} (h : M_slices_Index_Lint_int sZ0 vZ0 = some r) : Ok Try.prog 64 [.lst .o 1 (sZ0.map AV.i), .i vZ0] ((fun r => .i r) r) := by
  refine ok_of_body hmix m64 rfl ?_
  unfold M_slices_Index_Lint_int at h
  simp only [ZC, A64, V64, body_eq]
  obtain ⟨oZ5, hoZ5, h⟩ := bind_s h
  try refine ZF trivial ?_
  refine join_rule (o := oZ5) (blk_rule sideR (loop_rule (w_slices_Index_Lint_intL1 sZ0 vZ0) hoZ5 ?_)) (fun vZ6 hv => ?_) (fun xZ7 hv e τ hne hq => ?_)
  · exact ZK (ZA S_slices_Index_Lint_intL1.eq_1 SX_slices_Index_Lint_intL1.eq_1)
  · subst hv
    simp only [] at h
    simp only [ZC, SX_slices_Index_Lint_intL1, A64R2]
    cases h
    exact ZL trivial V64.eq_1
  · subst hv
    simp only [] at h
    obtain ⟨rfl, qZ8⟩ := hq
    cases h
    exact qZ8
theorem w_slices_Contains_Lint_int (sZ0 : List Int) (vZ0 : Int) {r : Bool} (h : M_slices_Contains_Lint_int sZ0 vZ0 = some r) : Ok Try.prog 67 [.lst .o 1 (sZ0.map AV.i), .i vZ0] ((fun r => .b r) r) := by
  refine ok_of_body hmix m67 rfl ?_
  unfold M_slices_Contains_Lint_int at h
  simp only [ZC, A67, V67, body_eq]
  obtain ⟨rZ1, hrZ1, h⟩ := bind_s h
  refine ZF trivial ?_
  refine ZS trivial (w_slices_Index_Lint_int _ _ hrZ1) ?_
  refine ZG ?_
  cases h
  exact ZL trivial V67.eq_1
theorem w_impl_otherEnd (fZ0 : TFiber) (nodeZ0 : Int) {r : Int} (h : M_impl_otherEnd fZ0 nodeZ0 = some r) : Ok Try.prog 94 [.agg [.i fZ0.A, .i fZ0.B, .i fZ0.Length, .i fZ0.Risk], .i nodeZ0] ((fun r => .i r) r) := by
  refine ok_of_body hmix m94 rfl ?_
  unfold M_impl_otherEnd at h
  simp only [ZC, A94, V94, body_eq]
  obtain ⟨cZ1, h⟩ | ⟨cZ1, h⟩ := cond_s h
  · cases h
    exact ZL cZ1 V94.eq_1
  · obtain ⟨cZ2, h⟩ | ⟨cZ2, h⟩ := cond_s h
    · cases h
      exact ZL (ZA cZ1 cZ2) V94.eq_1
    · cases h
      exact ZL (ZA cZ1 cZ2) V94.eq_1
def S_impl_followedL1 (nZ0 : TNetwork) (ringZ0 : List Int) (v : Int × Int × List Int) : St := ⟨[(2, .lst .o 1 (ringZ0.map AV.i)), (3, .pt 3 0 0), (9, .sl 9 0 v.2.2.length), (10, .i v.1), (15, .lst .o 1 (ringZ0.map AV.i)), (16, .i (ringZ0.length : Int)), (17, .i v.2.1)], [(3, .var (.agg [.lst .o 1 (nZ0.Nodes.map AV.z), .lst .o 4 (nZ0.Fibers.map (e_TFiber .o))])), (9, .arr 1 (v.2.2.map AV.i))]⟩
def SX_impl_followedL1 (v : Int × List Int) : St := ⟨[(9, .sl 9 0 v.2.length), (10, .i v.1)], [(9, .arr 1 (v.2.map AV.i))]⟩
theorem w_impl_followedL1 (nZ0 : TNetwork) (ringZ0 : List Int) (sZ1 : Int × Int × List Int) (o : (Int × Int × List Int) ⊕ ((Int × List Int) ⊕ (List Int × Int × Bool))) (h : M_impl_followedL1 nZ0 ringZ0 sZ1 = some o) : AWP (OkS Try.prog) A84L2 (qL [2, 3, 9, 10, 15, 16, 17] [3, 9] (S_impl_followedL1 nZ0 ringZ0) (qS (qX 0 [9, 10] [9] (SX_impl_followedL1)) (qR V84 (fun r => .tup [.lst .u 1 (r.1.map AV.i), .i r.2.1, .b r.2.2]))) o) (S_impl_followedL1 nZ0 ringZ0 sZ1) := by
  unfold M_impl_followedL1 at h
  simp only [ZC, S_impl_followedL1, A84L2]
  obtain ⟨cZ2, h⟩ | ⟨cZ2, h⟩ := cond_s h
  · obtain ⟨yZ3, hyZ3, h⟩ := bind_s h
    obtain ⟨hyZ3a, hyZ3b⟩ := geti_s hyZ3
    obtain ⟨oZ8, hoZ8, h⟩ := bind_s h
    try refine ZF (ZA cZ2 (ZA hyZ3a hyZ3b)) ?_
    refine join_rule0 (sh := (fun v => ⟨[(2, .lst .o 1 (ringZ0.map AV.i)), (3, .pt 3 0 0), (9, .sl 9 0 sZ1.2.2.length), (10, .i sZ1.1), (12, .i yZ3), (15, .lst .o 1 (ringZ0.map AV.i)), (16, .i (ringZ0.length : Int)), (17, .i sZ1.2.1), (35, .b v)], [(3, .var (.agg [.lst .o 1 (nZ0.Nodes.map AV.z), .lst .o 4 (nZ0.Fibers.map (e_TFiber .o))])), (9, .arr 1 (sZ1.2.2.map AV.i))]⟩)) (s := oZ8) ?_ ?_
    · replace h := hoZ8
      obtain ⟨rZ4, hrZ4, h⟩ := bind_s h
      refine ZF (ZA cZ2 (ZA hyZ3a hyZ3b)) ?_
      refine ZS (ZA cZ2 (ZA hyZ3a hyZ3b)) (w_impl_within _ _ _ hrZ4) ?_
      refine ZG ?_
      obtain ⟨cZ5, h⟩ | ⟨cZ5, h⟩ := cond_s h
      · cases h
        exact ZL (ZA cZ2 (ZA hyZ3a (ZA hyZ3b cZ5))) trivial
      · obtain ⟨lZ6, hlZ6, h⟩ := bind_s h
        obtain ⟨hlZ6a, hlZ6b, hlZ6c, hlZ6d, hlZ6e⟩ := slT_s AV.i hlZ6
        obtain ⟨rZ7, hrZ7, h⟩ := bind_s h
        refine ZF (ZA cZ2 (ZA hyZ3a (ZA hyZ3b (ZA cZ5 (ZA hlZ6a (ZA hlZ6b (ZA hlZ6c (ZA hlZ6d hlZ6e)))))))) ?_
        refine ZS (ZA cZ2 (ZA hyZ3a (ZA hyZ3b (ZA cZ5 (ZA hlZ6a (ZA hlZ6b (ZA hlZ6c (ZA hlZ6d hlZ6e)))))))) (w_slices_Contains_Lint_int _ _ hrZ7) ?_
        refine ZG ?_
        cases h
        exact ZL (ZA cZ2 (ZA hyZ3a (ZA hyZ3b (ZA cZ5 (ZA hlZ6a (ZA hlZ6b (ZA hlZ6c (ZA hlZ6d hlZ6e)))))))) trivial
    · simp only [ZC, A84R1]
      obtain ⟨cZ9, h⟩ | ⟨cZ9, h⟩ := cond_s h
      · cases h
        exact ZL (ZA cZ2 (ZA hyZ3a (ZA hyZ3b cZ9))) V84.eq_1
      · obtain ⟨lZ10, hlZ10, h⟩ := bnd_s h
        have eZ11 : Row.arr 1 [(.i sZ1.1 : AV)] = Row.arr 1 (lZ10.map AV.i) := by rw [← hlZ10]; rfl
        have eZ12 : lZ10.length = 1 := by rw [← hlZ10]; rfl
        obtain ⟨uZ13, huZ13, h⟩ := bind_s h
        have huZ13g := grd_s huZ13
        obtain ⟨lZ14, hlZ14, h⟩ := bnd_s h
        have eZ15 : sZ1.2.2.map AV.i ++ lZ10.map AV.i = lZ14.map AV.i := by rw [← hlZ14, List.map_append]
        have eZ16 : sZ1.2.2.length + 1 = lZ14.length := by simp [← hlZ10, ← hlZ14] <;> omega
        rw [eZ16] at huZ13g
        obtain ⟨yZ17, hyZ17, h⟩ := bind_s h
        obtain ⟨hyZ17a, hyZ17b⟩ := geti_s hyZ17
        obtain ⟨rZ18, hrZ18, h⟩ := bind_s h
        refine ZF (ZA cZ2 (ZA hyZ3a (ZA hyZ3b (ZA cZ9 (ZA eZ11 (ZA eZ12 (ZA huZ13g (ZA eZ15 (ZA eZ16 (ZA hyZ17a hyZ17b)))))))))) ?_
        refine ZS (ZA cZ2 (ZA hyZ3a (ZA hyZ3b (ZA cZ9 (ZA eZ11 (ZA eZ12 (ZA huZ13g (ZA eZ15 (ZA eZ16 (ZA hyZ17a hyZ17b)))))))))) (w_impl_otherEnd _ _ hrZ18) ?_
        refine ZG ?_
        obtain ⟨cZ19, h⟩ | ⟨cZ19, h⟩ := cond_s h
        · cases h
          exact ZL (ZA cZ2 (ZA hyZ3a (ZA hyZ3b (ZA cZ9 (ZA eZ11 (ZA eZ12 (ZA huZ13g (ZA eZ15 (ZA eZ16 (ZA hyZ17a (ZA hyZ17b cZ19))))))))))) (ZA V84.eq_1 (ZA hlZ10.symm hlZ14.symm))
        · cases h
          exact ZL (ZA cZ2 (ZA hyZ3a (ZA hyZ3b (ZA cZ9 (ZA eZ11 (ZA eZ12 (ZA huZ13g (ZA eZ15 (ZA eZ16 (ZA hyZ17a (ZA hyZ17b cZ19))))))))))) (ZA S_impl_followedL1.eq_1 (ZA SX_impl_followedL1.eq_1 (ZA hlZ10.symm hlZ14.symm)))
  · cases h
    exact ZL cZ2 (ZA S_impl_followedL1.eq_1 SX_impl_followedL1.eq_1)
theorem w_impl_followed (nZ0 : TNetwork) (startZ0 : Int) (ringZ0 : List Int) {r : List Int × Int × Bool} (h : M_impl_followed nZ0 startZ0 ringZ0 = some r) : Ok Try.prog 84 [.agg [.lst .o 1 (nZ0.Nodes.map AV.z), .lst .o 4 (nZ0.Fibers.map (e_TFiber .o))], .i startZ0, .lst .o 1 (ringZ0.map AV.i)] ((fun r => .tup [.lst .u 1 (r.1.map AV.i), .i r.2.1, .b r.2.2]) r) := by
  refine ok_of_body hmix m84 rfl ?_
  unfold M_impl_followed at h
  simp only [ZC, A84, V84, body_eq]
  obtain ⟨oZ20, hoZ20, h⟩ := bind_s h
  try refine ZF trivial ?_
  refine join_rule (o := oZ20) (blk_rule sideR (loop_rule (w_impl_followedL1 nZ0 ringZ0) hoZ20 ?_)) (fun vZ21 hv => ?_) (fun xZ22 hv e τ hne hq => ?_)
  · exact ZK (ZA S_impl_followedL1.eq_1 SX_impl_followedL1.eq_1)
  · subst hv
    simp only [] at h
    simp only [ZC, SX_impl_followedL1, A84R3]
    cases h
    exact ZL trivial V84.eq_1
  · subst hv
    simp only [] at h
    obtain ⟨rfl, qZ23⟩ := hq
    cases h
    exact qZ23
def S_slices_Min_Lint_intL1 (xZ0 : List Int) (v : Int × Int) : St := ⟨[(0, .lst .o 1 (xZ0.map AV.i)), (3, .i v.1), (4, .i v.2)], []⟩
def SX_slices_Min_Lint_intL1 (v : Int) : St := ⟨[(3, .i v)], []⟩
theorem w_slices_Min_Lint_intL1 (xZ0 : List Int) (sZ3 : Int × Int) (o : (Int × Int) ⊕ Int) (h : M_slices_Min_Lint_intL1 xZ0 sZ3 = some o) : AWP (OkS Try.prog) A85L1 (qL [0, 3, 4] [] (S_slices_Min_Lint_intL1 xZ0) (qX 0 [3] [] (SX_slices_Min_Lint_intL1)) o) (S_slices_Min_Lint_intL1 xZ0 sZ3) := by
  unfold M_slices_Min_Lint_intL1 at h
  simp only [ZC, S_slices_Min_Lint_intL1, A85L1]
  obtain ⟨cZ4, h⟩ | ⟨cZ4, h⟩ := cond_s h
  · obtain ⟨yZ5, hyZ5, h⟩ := bind_s h
    obtain ⟨hyZ5a, hyZ5b⟩ := geti_s hyZ5
    cases h
    exact ZL (ZA cZ4 (ZA hyZ5a hyZ5b)) (ZA S_slices_Min_Lint_intL1.eq_1 SX_slices_Min_Lint_intL1.eq_1)
  · cases h
    exact ZL cZ4 (ZA S_slices_Min_Lint_intL1.eq_1 SX_slices_Min_Lint_intL1.eq_1)
theorem w_slices_Min_Lint_int (xZ0 : List Int) {r : Int} (h : M_slices_Min_Lint_int xZ0 = some r) : Ok Try.prog 85 [.lst .o 1 (xZ0.map AV.i)] ((fun r => .i r) r) := by
  refine ok_of_body hmix m85 rfl ?_
  unfold M_slices_Min_Lint_int at h
  simp only [ZC, A85, V85, body_eq]
  obtain ⟨cZ1, h⟩ | ⟨cZ1, h⟩ := cond_s h
  · cases h
  · obtain ⟨yZ2, hyZ2, h⟩ := bind_s h
    obtain ⟨hyZ2a, hyZ2b⟩ := geti_s hyZ2
    obtain ⟨oZ6, hoZ6, h⟩ := bind_s h
    try refine ZF (ZA cZ1 (ZA hyZ2a hyZ2b)) ?_
    refine join_rule0 (blk_rule0 (loop_rule (w_slices_Min_Lint_intL1 xZ0) hoZ6 ?_)) ?_
    · exact ZK (ZA S_slices_Min_Lint_intL1.eq_1 SX_slices_Min_Lint_intL1.eq_1)
    · simp only [ZC, SX_slices_Min_Lint_intL1, A85R2]
      cases h
      exact ZL (ZA cZ1 (ZA hyZ2a hyZ2b)) V85.eq_1
theorem w_slices_Clone_Lint_int (sZ0 : List Int) {r : List Int} (h : M_slices_Clone_Lint_int sZ0 = some r) : Ok Try.prog 86 [.lst .o 1 (sZ0.map AV.i)] ((fun r => .lst .u 1 (r.map AV.i)) r) := by
  refine ok_of_body hmix m86 rfl ?_
  unfold M_slices_Clone_Lint_int at h
  simp only [ZC, A86, V86, body_eq]
  obtain ⟨cZ1, h⟩ | ⟨cZ1, h⟩ := cond_s h
  · refine ZF cZ1 ?_
    refine And.intro ?_ ?_
    · replace h := amb_l h
      cases h
      exact ZL cZ1 V86.eq_1
    · replace h := amb_r h
      obtain ⟨uZ2, huZ2, h⟩ := bind_s h
      have huZ2g := grd_s huZ2
      cases h
      exact ZL (ZA cZ1 huZ2g) V86.eq_1
  · obtain ⟨uZ3, huZ3, h⟩ := bind_s h
    have huZ3g := grd_s huZ3
    cases h
    exact ZL (ZA cZ1 huZ3g) V86.eq_1
def S_slices_Reverse_Lint_intM1L1 (v : Int × Int × List Int) : St := ⟨[(0, .sl 1000000000 0 v.2.2.length), (2, .i v.1), (3, .i v.2.1)], [(1000000000, .arr 1 (v.2.2.map AV.i))]⟩
def SX_slices_Reverse_Lint_intM1L1 (v : List Int) : St := ⟨[], [(1000000000, .arr 1 (v.map AV.i))]⟩
theorem w_slices_Reverse_Lint_intM1L1 (sZ1 : Int × Int × List Int) (o : (Int × Int × List Int) ⊕ (List Int)) (h : M_slices_Reverse_Lint_intM1L1 sZ1 = some o) : AWP (OkS Try.prog) A87M1L1 (qL [0, 2, 3] [1000000000] (S_slices_Reverse_Lint_intM1L1) (qX 0 [] [1000000000] (SX_slices_Reverse_Lint_intM1L1)) o) (S_slices_Reverse_Lint_intM1L1 sZ1) := by
  unfold M_slices_Reverse_Lint_intM1L1 at h
  simp only [ZC, S_slices_Reverse_Lint_intM1L1, A87M1L1]
  obtain ⟨cZ2, h⟩ | ⟨cZ2, h⟩ := cond_s h
  · obtain ⟨kZ3, hkZ3, h⟩ := bind_s h
    obtain ⟨hkZ3a, hkZ3b⟩ := grd_s hkZ3
    obtain ⟨yZ4, hyZ4, h⟩ := bind_s h
    obtain ⟨kZ5, hkZ5, h⟩ := bind_s h
    obtain ⟨hkZ5a, hkZ5b⟩ := grd_s hkZ5
    obtain ⟨yZ6, hyZ6, h⟩ := bind_s h
    obtain ⟨lZ7, hlZ7, h⟩ := bnd_s h
    have eZ8 : (sZ1.2.2.map AV.i).set (Int.toNat sZ1.1) (.i yZ4) = lZ7.map AV.i := by rw [← hlZ7, List.map_set]
    obtain ⟨yZ9, hyZ9, h⟩ := bind_s h
    obtain ⟨lZ10, hlZ10, h⟩ := bnd_s h
    have eZ11 : (lZ7.map AV.i).set (Int.toNat sZ1.2.1) (.i yZ6) = lZ10.map AV.i := by rw [← hlZ10, List.map_set]
    cases h
    exact ZL (ZA cZ2 (ZA hkZ3a (ZA hkZ3b (ZA hyZ4 (ZA hkZ5a (ZA hkZ5b (ZA hyZ6 (ZA eZ8 (ZA hyZ9 eZ11))))))))) (ZA S_slices_Reverse_Lint_intM1L1.eq_1 (ZA SX_slices_Reverse_Lint_intM1L1.eq_1 (ZA hlZ7.symm hlZ10.symm)))
  · cases h
    exact ZL cZ2 (ZA S_slices_Reverse_Lint_intM1L1.eq_1 SX_slices_Reverse_Lint_intM1L1.eq_1)
theorem w_slices_Reverse_Lint_intM1 (aaZ0 : List Int) {r : List Int} (h : M_slices_Reverse_Lint_intM1 aaZ0 = some r) : OkM Try.prog 87 [.sl 1000000000 0 aaZ0.length] [(1000000000, .arr 1 (aaZ0.map AV.i))] ((fun (r : List Int) => .tup []) r) ((fun (r : List Int) => [(1000000000, .arr 1 (r.map AV.i))]) r) := by
  refine okM_of_body (lr := [1000000000]) hmix m87M1 rfl rfl ?_
  unfold M_slices_Reverse_Lint_intM1 at h
  simp only [ZC, A87M1, V87M1]
  obtain ⟨oZ12, hoZ12, h⟩ := bind_s h
  try refine ZF trivial ?_
  first | refine tail_rule0 (blk_rule0 (loop_rule (w_slices_Reverse_Lint_intM1L1) hoZ12 ?_)) (fun τ qZ13 => ?_) | refine tail_blk0 (loop_rule (w_slices_Reverse_Lint_intM1L1) hoZ12 ?_) (fun τ qZ13 => ?_)
  · exact ZK (ZA S_slices_Reverse_Lint_intM1L1.eq_1 SX_slices_Reverse_Lint_intM1L1.eq_1)
  · cases h
    refine finM_shp qZ13 (by decide) ?_ rfl
    exact ZK (ZA V87M1.eq_1 SX_slices_Reverse_Lint_intM1L1.eq_1)
def S_slices_Compare_Lint_intL1 (s1Z0 : List Int) (s2Z0 : List Int) (v : Int) : St := ⟨[(0, .lst .o 1 (s1Z0.map AV.i)), (1, .lst .o 1 (s2Z0.map AV.i)), (9, .lst .o 1 (s1Z0.map AV.i)), (10, .i (s1Z0.length : Int)), (11, .i v)], []⟩
def SX_slices_Compare_Lint_intL1 (s1Z0 : List Int) (s2Z0 : List Int) (v : Unit) : St := ⟨[(0, .lst .o 1 (s1Z0.map AV.i)), (1, .lst .o 1 (s2Z0.map AV.i))], []⟩
theorem w_slices_Compare_Lint_intL1 (s1Z0 : List Int) (s2Z0 : List Int) (sZ1 : Int) (o : Int ⊕ (Unit ⊕ Int)) (h : M_slices_Compare_Lint_intL1 s1Z0 s2Z0 sZ1 = some o) : AWP (OkS Try.prog) A88L1 (qL [0, 1, 9, 10, 11] [] (S_slices_Compare_Lint_intL1 s1Z0 s2Z0) (qS (qX 0 [0, 1] [] (SX_slices_Compare_Lint_intL1 s1Z0 s2Z0)) (qR V88 (fun r => .i r))) o) (S_slices_Compare_Lint_intL1 s1Z0 s2Z0 sZ1) := by
  unfold M_slices_Compare_Lint_intL1 at h
  simp only [ZC, S_slices_Compare_Lint_intL1, A88L1]
  obtain ⟨cZ2, h⟩ | ⟨cZ2, h⟩ := cond_s h
  · obtain ⟨yZ3, hyZ3, h⟩ := bind_s h
    obtain ⟨hyZ3a, hyZ3b⟩ := geti_s hyZ3
    obtain ⟨cZ4, h⟩ | ⟨cZ4, h⟩ := cond_s h
    · cases h
      exact ZL (ZA cZ2 (ZA hyZ3a (ZA hyZ3b cZ4))) V88.eq_1
    · obtain ⟨yZ5, hyZ5, h⟩ := bind_s h
      obtain ⟨hyZ5a, hyZ5b⟩ := geti_s hyZ5
      obtain ⟨rZ6, hrZ6, h⟩ := bind_s h
      refine ZF (ZA cZ2 (ZA hyZ3a (ZA hyZ3b (ZA cZ4 (ZA hyZ5a hyZ5b))))) ?_
      refine ZS (ZA cZ2 (ZA hyZ3a (ZA hyZ3b (ZA cZ4 (ZA hyZ5a hyZ5b))))) (w_cmp_Compare_int _ _ hrZ6) ?_
      refine ZG ?_
      obtain ⟨cZ7, h⟩ | ⟨cZ7, h⟩ := cond_s h
      · cases h
        exact ZL (ZA cZ2 (ZA hyZ3a (ZA hyZ3b (ZA cZ4 (ZA hyZ5a (ZA hyZ5b cZ7)))))) V88.eq_1
      · cases h
        exact ZL (ZA cZ2 (ZA hyZ3a (ZA hyZ3b (ZA cZ4 (ZA hyZ5a (ZA hyZ5b cZ7)))))) (ZA S_slices_Compare_Lint_intL1.eq_1 SX_slices_Compare_Lint_intL1.eq_1)
  · cases h
    exact ZL cZ2 (ZA S_slices_Compare_Lint_intL1.eq_1 SX_slices_Compare_Lint_intL1.eq_1)
theorem w_slices_Compare_Lint_int (s1Z0 : List Int) (s2Z0 : List Int) {r : Int} (h : M_slices_Compare_Lint_int s1Z0 s2Z0 = some r) : Ok Try.prog 88 [.lst .o 1 (s1Z0.map AV.i), .lst .o 1 (s2Z0.map AV.i)] ((fun r => .i r) r) := by
  refine ok_of_body hmix m88 rfl ?_
  unfold M_slices_Compare_Lint_int at h
  simp only [ZC, A88, V88, body_eq]
  obtain ⟨oZ8, hoZ8, h⟩ := bind_s h
  try refine ZF trivial ?_
  refine join_rule (o := oZ8) (blk_rule sideR (loop_rule (w_slices_Compare_Lint_intL1 s1Z0 s2Z0) hoZ8 ?_)) (fun vZ9 hv => ?_) (fun xZ10 hv e τ hne hq => ?_)
  · exact ZK (ZA S_slices_Compare_Lint_intL1.eq_1 SX_slices_Compare_Lint_intL1.eq_1)
  · subst hv
    simp only [] at h
    simp only [ZC, SX_slices_Compare_Lint_intL1, A88R2]
    obtain ⟨cZ11, h⟩ | ⟨cZ11, h⟩ := cond_s h
    · cases h
      exact ZL cZ11 V88.eq_1
    · cases h
      exact ZL cZ11 V88.eq_1
  · subst hv
    simp only [] at h
    obtain ⟨rfl, qZ12⟩ := hq
    cases h
    exact qZ12
def S_impl_aroundL1 (ringZ0 : List Int) (rZ8 : List Int × Int × Bool) (v : Int) : St := ⟨[(1, .lst .o 1 (ringZ0.map AV.i)), (7, .sl 7 0 rZ8.1.length), (56, .sl 7 0 rZ8.1.length), (57, .i (rZ8.1.length : Int)), (58, .i v)], [(7, .arr 1 (rZ8.1.map AV.i))]⟩
def SX_impl_aroundL1 (ringZ0 : List Int) (rZ8 : List Int × Int × Bool) (v : Unit) : St := ⟨[(1, .lst .o 1 (ringZ0.map AV.i)), (7, .sl 7 0 rZ8.1.length)], [(7, .arr 1 (rZ8.1.map AV.i))]⟩
theorem w_impl_aroundL1 (ringZ0 : List Int) (rZ8 : List Int × Int × Bool) (sZ14 : Int) (o : Int ⊕ (Unit ⊕ (List Int × Bool))) (h : M_impl_aroundL1 rZ8 sZ14 = some o) : AWP (OkS Try.prog) A48L3 (qL [1, 7, 56, 57, 58] [7] (S_impl_aroundL1 ringZ0 rZ8) (qS (qX 0 [1, 7] [7] (SX_impl_aroundL1 ringZ0 rZ8)) (qR V48 (fun r => .tup [.lst .u 1 (r.1.map AV.i), .b r.2]))) o) (S_impl_aroundL1 ringZ0 rZ8 sZ14) := by
  unfold M_impl_aroundL1 at h
  simp only [ZC, S_impl_aroundL1, A48L3]
  obtain ⟨cZ15, h⟩ | ⟨cZ15, h⟩ := cond_s h
  · obtain ⟨kZ16, hkZ16, h⟩ := bind_s h
    obtain ⟨hkZ16a, hkZ16b⟩ := grd_s hkZ16
    obtain ⟨yZ17, hyZ17, h⟩ := bind_s h
    obtain ⟨uZ18, huZ18, h⟩ := bind_s h
    obtain ⟨huZ18a, huZ18b, huZ18c, huZ18d⟩ := grd_s huZ18
    obtain ⟨lZ19, hlZ19, h⟩ := bnd_s h
    have eZ20 : sub (rZ8.1.map AV.i) 0 (Int.toNat sZ14) = lZ19.map AV.i := by rw [sub_mapT, hlZ19]
    obtain ⟨rZ21, hrZ21, h⟩ := bind_s h
    refine ZF (ZA cZ15 (ZA hkZ16a (ZA hkZ16b (ZA hyZ17 (ZA huZ18a (ZA huZ18b (ZA huZ18c (ZA huZ18d eZ20)))))))) ?_
    refine ZS (ZA cZ15 (ZA hkZ16a (ZA hkZ16b (ZA hyZ17 (ZA huZ18a (ZA huZ18b (ZA huZ18c (ZA huZ18d eZ20)))))))) (w_slices_Contains_Lint_int _ _ hrZ21) ?_
    refine ZG ?_
    obtain ⟨cZ22, h⟩ | ⟨cZ22, h⟩ := cond_s h
    · cases h
      exact ZL (ZA cZ15 (ZA hkZ16a (ZA hkZ16b (ZA hyZ17 (ZA huZ18a (ZA huZ18b (ZA huZ18c (ZA huZ18d (ZA eZ20 cZ22))))))))) V48.eq_1
    · cases h
      exact ZL (ZA cZ15 (ZA hkZ16a (ZA hkZ16b (ZA hyZ17 (ZA huZ18a (ZA huZ18b (ZA huZ18c (ZA huZ18d (ZA eZ20 cZ22))))))))) (ZA S_impl_aroundL1.eq_1 SX_impl_aroundL1.eq_1)
  · cases h
    exact ZL cZ15 (ZA S_impl_aroundL1.eq_1 SX_impl_aroundL1.eq_1)
theorem w_impl_around (nZ0 : TNetwork) (ringZ0 : List Int) {r : List Int × Bool} (h : M_impl_around nZ0 ringZ0 = some r) : Ok Try.prog 48 [.agg [.lst .o 1 (nZ0.Nodes.map AV.z), .lst .o 4 (nZ0.Fibers.map (e_TFiber .o))], .lst .o 1 (ringZ0.map AV.i)] ((fun r => .tup [.lst .u 1 (r.1.map AV.i), .b r.2]) r) := by
  refine ok_of_body hmix m48 rfl ?_
  unfold M_impl_around at h
  simp only [ZC, A48, V48, body_eq]
  obtain ⟨oZ4, hoZ4, h⟩ := bind_s h
  try refine ZF trivial ?_
  refine join_rule0 (sh := (fun v => ⟨[(1, .lst .o 1 (ringZ0.map AV.i)), (2, .pt 2 0 0), (26, .b v)], [(2, .var (.agg [.lst .o 1 (nZ0.Nodes.map AV.z), .lst .o 4 (nZ0.Fibers.map (e_TFiber .o))]))]⟩)) (s := oZ4) ?_ ?_
  · replace h := hoZ4
    obtain ⟨cZ1, h⟩ | ⟨cZ1, h⟩ := cond_s h
    · cases h
      exact ZL cZ1 trivial
    · obtain ⟨yZ2, hyZ2, h⟩ := bind_s h
      obtain ⟨hyZ2a, hyZ2b⟩ := geti_s hyZ2
      obtain ⟨rZ3, hrZ3, h⟩ := bind_s h
      refine ZF (ZA cZ1 (ZA hyZ2a hyZ2b)) ?_
      refine ZS (ZA cZ1 (ZA hyZ2a hyZ2b)) (w_impl_within _ _ _ hrZ3) ?_
      refine ZG ?_
      cases h
      exact ZL (ZA cZ1 (ZA hyZ2a hyZ2b)) trivial
  · simp only [ZC, A48R1]
    obtain ⟨cZ5, h⟩ | ⟨cZ5, h⟩ := cond_s h
    · cases h
      exact ZL cZ5 V48.eq_1
    · obtain ⟨yZ6, hyZ6, h⟩ := bind_s h
      obtain ⟨hyZ6a, hyZ6b⟩ := geti_s hyZ6
      obtain ⟨yZ7, hyZ7, h⟩ := bind_s h
      obtain ⟨hyZ7a, hyZ7b⟩ := geti_s hyZ7
      obtain ⟨rZ8, hrZ8, h⟩ := bind_s h
      refine ZF (ZA cZ5 (ZA hyZ6a (ZA hyZ6b (ZA hyZ7a hyZ7b)))) ?_
      refine ZU (ZA cZ5 (ZA hyZ6a (ZA hyZ6b (ZA hyZ7a hyZ7b)))) (w_impl_followed _ _ _ hrZ8) ?_
      refine ZG ?_
      obtain ⟨oZ12, hoZ12, h⟩ := bind_s h
      try refine ZF (ZA cZ5 (ZA hyZ6a (ZA hyZ6b (ZA hyZ7a hyZ7b)))) ?_
      refine join_rule0 (sh := (fun v => ⟨[(1, .lst .o 1 (ringZ0.map AV.i)), (7, .sl 7 0 rZ8.1.length), (55, .b v)], [(7, .arr 1 (rZ8.1.map AV.i))]⟩)) (s := oZ12) ?_ ?_
      · replace h := hoZ12
        obtain ⟨cZ9, h⟩ | ⟨cZ9, h⟩ := cond_s h
        · cases h
          exact ZL (ZA cZ5 (ZA hyZ6a (ZA hyZ6b (ZA hyZ7a (ZA hyZ7b cZ9))))) trivial
        · obtain ⟨cZ10, h⟩ | ⟨cZ10, h⟩ := cond_s h
          · cases h
            exact ZL (ZA cZ5 (ZA hyZ6a (ZA hyZ6b (ZA hyZ7a (ZA hyZ7b (ZA cZ9 cZ10)))))) trivial
          · obtain ⟨rZ11, hrZ11, h⟩ := bind_s h
            refine ZF (ZA cZ5 (ZA hyZ6a (ZA hyZ6b (ZA hyZ7a (ZA hyZ7b (ZA cZ9 cZ10)))))) ?_
            refine ZS (ZA cZ5 (ZA hyZ6a (ZA hyZ6b (ZA hyZ7a (ZA hyZ7b (ZA cZ9 cZ10)))))) (w_slices_Min_Lint_int _ hrZ11) ?_
            refine ZG ?_
            cases h
            exact ZL (ZA cZ5 (ZA hyZ6a (ZA hyZ6b (ZA hyZ7a (ZA hyZ7b (ZA cZ9 cZ10)))))) trivial
      · simp only [ZC, A48R2]
        obtain ⟨cZ13, h⟩ | ⟨cZ13, h⟩ := cond_s h
        · cases h
          exact ZL (ZA cZ5 (ZA hyZ6a (ZA hyZ6b (ZA hyZ7a (ZA hyZ7b cZ13))))) V48.eq_1
        · obtain ⟨oZ23, hoZ23, h⟩ := bind_s h
          try refine ZF (ZA cZ5 (ZA hyZ6a (ZA hyZ6b (ZA hyZ7a (ZA hyZ7b cZ13))))) ?_
          refine join_rule (o := oZ23) (blk_rule sideR (loop_rule (w_impl_aroundL1 ringZ0 rZ8) hoZ23 ?_)) (fun vZ24 hv => ?_) (fun xZ25 hv e τ hne hq => ?_)
          · exact ZK (ZA S_impl_aroundL1.eq_1 SX_impl_aroundL1.eq_1)
          · subst hv
            simp only [] at h
            simp only [ZC, SX_impl_aroundL1, A48R4]
            obtain ⟨rZ26, hrZ26, h⟩ := bind_s h
            refine ZF (ZA cZ5 (ZA hyZ6a (ZA hyZ6b (ZA hyZ7a (ZA hyZ7b cZ13))))) ?_
            refine ZU (ZA cZ5 (ZA hyZ6a (ZA hyZ6b (ZA hyZ7a (ZA hyZ7b cZ13))))) (w_slices_Clone_Lint_int _ hrZ26) ?_
            refine ZG ?_
            obtain ⟨rZ27, hrZ27, h⟩ := bind_s h
            refine ZF (ZA cZ5 (ZA hyZ6a (ZA hyZ6b (ZA hyZ7a (ZA hyZ7b cZ13))))) ?_
            refine ZW (ZA cZ5 (ZA hyZ6a (ZA hyZ6b (ZA hyZ7a (ZA hyZ7b cZ13))))) (w_slices_Reverse_Lint_intM1 _ hrZ27) (h2 := by first | exact nm_ok [1000000000] rfl (by decide +kernel) | exact nm_ok2 [1000000000] [] rfl (by decide +kernel) ZQ | exact ZQ) (hk := ?_)
            refine ZG ?_
            obtain ⟨lZ28, hlZ28, h⟩ := bnd_s h
            have eZ29 : sub (rZ27.map AV.i) 0 rZ26.length = lZ28.map AV.i := by rw [sub_mapT, hlZ28]
            obtain ⟨rZ30, hrZ30, h⟩ := bind_s h
            refine ZF (ZA cZ5 (ZA hyZ6a (ZA hyZ6b (ZA hyZ7a (ZA hyZ7b (ZA cZ13 eZ29)))))) ?_
            refine ZS (ZA cZ5 (ZA hyZ6a (ZA hyZ6b (ZA hyZ7a (ZA hyZ7b (ZA cZ13 eZ29)))))) (w_slices_Compare_Lint_int _ _ hrZ30) ?_
            refine ZG ?_
            cases h
            exact ZL (ZA cZ5 (ZA hyZ6a (ZA hyZ6b (ZA hyZ7a (ZA hyZ7b (ZA cZ13 eZ29)))))) V48.eq_1
          · subst hv
            simp only [] at h
            obtain ⟨rfl, qZ31⟩ := hq
            cases h
            exact qZ31
theorem w_impl_RingNodes (nZ0 : TNetwork) (ringZ0 : List Int) {r : List Int × Bool} (h : M_impl_RingNodes nZ0 ringZ0 = some r) : Ok Try.prog 18 [.agg [.lst .o 1 (nZ0.Nodes.map AV.z), .lst .o 4 (nZ0.Fibers.map (e_TFiber .o))], .lst .o 1 (ringZ0.map AV.i)] ((fun r => .tup [.lst .u 1 (r.1.map AV.i), .b r.2]) r) := by
  refine ok_of_body hmix m18 rfl ?_
  unfold M_impl_RingNodes at h
  simp only [ZC, A18, V18, body_eq]
  obtain ⟨rZ1, hrZ1, h⟩ := bind_s h
  refine ZF trivial ?_
  refine ZS trivial (w_impl_IsValidNetwork _ hrZ1) ?_
  refine ZG ?_
  obtain ⟨cZ2, h⟩ | ⟨cZ2, h⟩ := cond_s h
  · cases h
    exact ZL cZ2 V18.eq_1
  · obtain ⟨rZ3, hrZ3, h⟩ := bind_s h
    refine ZF cZ2 ?_
    refine ZU cZ2 (w_impl_around _ _ hrZ3) ?_
    refine ZG ?_
    obtain ⟨cZ4, h⟩ | ⟨cZ4, h⟩ := cond_s h
    · cases h
      exact ZL (ZA cZ2 cZ4) V18.eq_1
    · cases h
      exact ZL (ZA cZ2 cZ4) V18.eq_1
theorem w_impl_IsRing (nZ0 : TNetwork) (ringZ0 : List Int) {r : Bool} (h : M_impl_IsRing nZ0 ringZ0 = some r) : Ok Try.prog 14 [.agg [.lst .o 1 (nZ0.Nodes.map AV.z), .lst .o 4 (nZ0.Fibers.map (e_TFiber .o))], .lst .o 1 (ringZ0.map AV.i)] ((fun r => .b r) r) := by
  refine ok_of_body hmix m14 rfl ?_
  unfold M_impl_IsRing at h
  simp only [ZC, A14, V14, body_eq]
  obtain ⟨rZ1, hrZ1, h⟩ := bind_s h
  refine ZF trivial ?_
  refine ZU trivial (w_impl_RingNodes _ _ hrZ1) ?_
  refine ZG ?_
  cases h
  exact ZL trivial V14.eq_1
def S_slices_IndexFunc_Lint_intL1 (sZ0 : List Int) (F_fZ0 : Nat) (C_fZ0 : List AV) (v : Int) : St := ⟨[(0, .lst .o 1 (sZ0.map AV.i)), (1, .fn F_fZ0 C_fZ0), (7, .i (sZ0.length : Int)), (8, .i v)], []⟩
def SX_slices_IndexFunc_Lint_intL1 (v : Unit) : St := ⟨[], []⟩
theorem w_slices_IndexFunc_Lint_intL1 (sZ0 : List Int) (fZ0 : Int → Option Bool) (F_fZ0 : Nat) (C_fZ0 : List AV) (hC_fZ0 : Fixed C_fZ0) (hf_fZ0 : ∀ (x0 : Int) (r : Bool), fZ0 x0 = some r → Ok Try.prog F_fZ0 ((.i x0) :: C_fZ0) (.b r)) (sZ1 : Int) (o : Int ⊕ (Unit ⊕ Int)) (h : M_slices_IndexFunc_Lint_intL1 sZ0 fZ0 sZ1 = some o) : AWP (OkS Try.prog) A91L1 (qL [0, 1, 7, 8] [] (S_slices_IndexFunc_Lint_intL1 sZ0 F_fZ0 C_fZ0) (qS (qX 0 [] [] (SX_slices_IndexFunc_Lint_intL1)) (qR V91 (fun r => .i r))) o) (S_slices_IndexFunc_Lint_intL1 sZ0 F_fZ0 C_fZ0 sZ1) := by
  unfold M_slices_IndexFunc_Lint_intL1 at h
  simp only [ZC, S_slices_IndexFunc_Lint_intL1, A91L1]
  obtain ⟨cZ2, h⟩ | ⟨cZ2, h⟩ := cond_s h
  · obtain ⟨yZ3, hyZ3, h⟩ := bind_s h
    obtain ⟨hyZ3a, hyZ3b⟩ := geti_s hyZ3
    obtain ⟨rZ4, hrZ4, h⟩ := bind_s h
    refine ZF (ZA cZ2 (ZA hyZ3a hyZ3b)) ?_
    refine ZS (ZA cZ2 (ZA hyZ3a (ZA hyZ3b hC_fZ0.1))) (hf_fZ0 _ _ hrZ4) ?_
    refine ZG ?_
    obtain ⟨cZ5, h⟩ | ⟨cZ5, h⟩ := cond_s h
    · cases h
      exact ZL (ZA cZ2 (ZA hyZ3a (ZA hyZ3b cZ5))) (ZA V91.eq_1 (ZA hC_fZ0.2 ((fixed_ren hC_fZ0))))
    · cases h
      exact ZL (ZA cZ2 (ZA hyZ3a (ZA hyZ3b cZ5))) (ZA S_slices_IndexFunc_Lint_intL1.eq_1 (ZA SX_slices_IndexFunc_Lint_intL1.eq_1 (ZA hC_fZ0.2 ((fixed_ren hC_fZ0)))))
  · cases h
    exact ZL cZ2 (ZA S_slices_IndexFunc_Lint_intL1.eq_1 (ZA SX_slices_IndexFunc_Lint_intL1.eq_1 (ZA hC_fZ0.2 ((fixed_ren hC_fZ0)))))
theorem w_slices_IndexFunc_Lint_int (sZ0 : List Int) (fZ0 : Int → Option Bool) {r : Int} (h : M_slices_IndexFunc_Lint_int sZ0 fZ0 = some r) (F_fZ0 : Nat) (C_fZ0 : List AV) (hC_fZ0 : Fixed C_fZ0) (hf_fZ0 : ∀ (x0 : Int) (r : Bool), fZ0 x0 = some r → Ok Try.prog F_fZ0 ((.i x0) :: C_fZ0) (.b r)) : Ok Try.prog 91 [.lst .o 1 (sZ0.map AV.i), .fn F_fZ0 C_fZ0] ((fun r => .i r) r) := by
  refine ok_of_body hmix m91 rfl ?_
  unfold M_slices_IndexFunc_Lint_int at h
  simp only [ZC, A91, V91, body_eq]
  obtain ⟨oZ6, hoZ6, h⟩ := bind_s h
  try refine ZF trivial ?_
  refine join_rule (o := oZ6) (blk_rule sideR (loop_rule (w_slices_IndexFunc_Lint_intL1 sZ0 fZ0 F_fZ0 C_fZ0 hC_fZ0 hf_fZ0) hoZ6 ?_)) (fun vZ7 hv => ?_) (fun xZ8 hv e τ hne hq => ?_)
  · exact ZK (ZA S_slices_IndexFunc_Lint_intL1.eq_1 (ZA SX_slices_IndexFunc_Lint_intL1.eq_1 (ZA hC_fZ0.2 ((fixed_ren hC_fZ0)))))
  · subst hv
    simp only [] at h
    simp only [ZC, SX_slices_IndexFunc_Lint_intL1, A91R2]
    cases h
    exact ZL trivial (ZA V91.eq_1 (ZA hC_fZ0.2 ((fixed_ren hC_fZ0))))
  · subst hv
    simp only [] at h
    obtain ⟨rfl, qZ9⟩ := hq
    cases h
    exact qZ9
theorem w_slices_ContainsFunc_Lint_int (sZ0 : List Int) (fZ0 : Int → Option Bool) {r : Bool} (h : M_slices_ContainsFunc_Lint_int sZ0 fZ0 = some r) (F_fZ0 : Nat) (C_fZ0 : List AV) (hC_fZ0 : Fixed C_fZ0) (hf_fZ0 : ∀ (x0 : Int) (r : Bool), fZ0 x0 = some r → Ok Try.prog F_fZ0 ((.i x0) :: C_fZ0) (.b r)) : Ok Try.prog 55 [.lst .o 1 (sZ0.map AV.i), .fn F_fZ0 C_fZ0] ((fun r => .b r) r) := by
  refine ok_of_body hmix m55 rfl ?_
  unfold M_slices_ContainsFunc_Lint_int at h
  simp only [ZC, A55, V55, body_eq]
  obtain ⟨rZ1, hrZ1, h⟩ := bind_s h
  refine ZF trivial ?_
  refine ZS hC_fZ0.1 (w_slices_IndexFunc_Lint_int _ _ hrZ1 F_fZ0 C_fZ0 hC_fZ0 hf_fZ0) ?_
  refine ZG ?_
  cases h
  exact ZL trivial (ZA V55.eq_1 (ZA hC_fZ0.2 ((fixed_ren hC_fZ0))))
theorem w_impl_RingCapacity_c1 (wZ0 : Int) {r : Bool} (h : M_impl_RingCapacity_c1 wZ0 = some r) : Ok Try.prog 56 [.i wZ0] ((fun r => .b r) r) := by
  refine ok_of_body hmix m56 rfl ?_
  unfold M_impl_RingCapacity_c1 at h
  simp only [ZC, A56, V56, body_eq]
  obtain ⟨rZ1, hrZ1, h⟩ := bind_s h
  refine ZF trivial ?_
  refine ZS trivial (w_impl_within _ _ _ hrZ1) ?_
  refine ZG ?_
  cases h
  exact ZL trivial V56.eq_1
theorem w_math_bits_Len64 (xZ0 : Int) {r : Int} (h : M_math_bits_Len64 xZ0 = some r) : Ok Try.prog 126 [.sc (.int .u64 xZ0)] ((fun r => .i r) r) := by
  refine ok_of_body hmix m126 rfl ?_
  unfold M_math_bits_Len64 at h
  simp only [ZC, A126, V126, body_eq]
  obtain ⟨oZ2, hoZ2, h⟩ := bind_s h
  try refine ZF trivial ?_
  refine join_rule0 (sh := (fun v => ⟨[(0, .sc (.int .u64 v.1)), (2, .i v.2)], []⟩)) (s := oZ2) ?_ ?_
  · replace h := hoZ2
    obtain ⟨cZ1, h⟩ | ⟨cZ1, h⟩ := cond_s h
    · cases h
      exact ZL cZ1 trivial
    · cases h
      exact ZL cZ1 trivial
  · simp only [ZC, A126R1]
    obtain ⟨oZ4, hoZ4, h⟩ := bind_s h
    try refine ZF trivial ?_
    refine join_rule0 (sh := (fun v => ⟨[(0, .sc (.int .u64 v.1)), (2, .i v.2)], []⟩)) (s := oZ4) ?_ ?_
    · replace h := hoZ4
      obtain ⟨cZ3, h⟩ | ⟨cZ3, h⟩ := cond_s h
      · cases h
        exact ZL cZ3 trivial
      · cases h
        exact ZL cZ3 trivial
    · simp only [ZC, A126R2]
      obtain ⟨oZ6, hoZ6, h⟩ := bind_s h
      try refine ZF trivial ?_
      refine join_rule0 (sh := (fun v => ⟨[(0, .sc (.int .u64 v.1)), (2, .i v.2)], []⟩)) (s := oZ6) ?_ ?_
      · replace h := hoZ6
        obtain ⟨cZ5, h⟩ | ⟨cZ5, h⟩ := cond_s h
        · cases h
          exact ZL cZ5 trivial
        · cases h
          exact ZL cZ5 trivial
      · simp only [ZC, A126R3]
        obtain ⟨yZ7, hyZ7, h⟩ := bind_s h
        obtain ⟨hyZ7a, hyZ7b⟩ := getz_s hyZ7
        cases h
        exact ZL (ZA hyZ7a hyZ7b) V126.eq_1
theorem w_math_bits_Len (xZ0 : Int) {r : Int} (h : M_math_bits_Len xZ0 = some r) : Ok Try.prog 106 [.sc (.int .u64 xZ0)] ((fun r => .i r) r) := by
  refine ok_of_body hmix m106 rfl ?_
  unfold M_math_bits_Len at h
  simp only [ZC, A106, V106, body_eq]
  obtain ⟨rZ1, hrZ1, h⟩ := bind_s h
  refine ZF trivial ?_
  refine ZS trivial (w_math_bits_Len64 _ hrZ1) ?_
  refine ZG ?_
  cases h
  exact ZL trivial V106.eq_1
theorem w_cmp_Less_int (xZ0 : Int) (yZ0 : Int) {r : Bool} (h : M_cmp_Less_int xZ0 yZ0 = some r) : Ok Try.prog 133 [.i xZ0, .i yZ0] ((fun r => .b r) r) := by
  refine ok_of_body hmix m133 rfl ?_
  unfold M_cmp_Less_int at h
  simp only [ZC, A133, V133, body_eq]
  obtain ⟨rZ1, hrZ1, h⟩ := bind_s h
  refine ZF trivial ?_
  refine ZS trivial (w_cmp_isNaN_int _ hrZ1) ?_
  refine ZG ?_
  obtain ⟨cZ2, h⟩ | ⟨cZ2, h⟩ := cond_s h
  · obtain ⟨rZ3, hrZ3, h⟩ := bind_s h
    refine ZF cZ2 ?_
    refine ZS cZ2 (w_cmp_isNaN_int _ hrZ3) ?_
    refine ZG ?_
    obtain ⟨cZ4, h⟩ | ⟨cZ4, h⟩ := cond_s h
    · cases h
      exact ZL (ZA cZ2 cZ4) V133.eq_1
    · cases h
      exact ZL (ZA cZ2 cZ4) V133.eq_1
  · cases h
    exact ZL cZ2 V133.eq_1
def S_slices_insertionSortOrdered_intM1L2 (aaZ0 : Int) (abZ0 : Int) (sZ1 : Int × List Int) (v : Int × List Int) : St := ⟨[(0, .sl 1000000000 0 v.2.length), (1, .i aaZ0), (2, .i abZ0), (6, .i sZ1.1), (7, .i v.1)], [(1000000000, .arr 1 (v.2.map AV.i))]⟩
def SX_slices_insertionSortOrdered_intM1L2 (aaZ0 : Int) (abZ0 : Int) (sZ1 : Int × List Int) (v : List Int) : St := ⟨[(0, .sl 1000000000 0 v.length), (1, .i aaZ0), (2, .i abZ0), (6, .i sZ1.1)], [(1000000000, .arr 1 (v.map AV.i))]⟩
theorem w_slices_insertionSortOrdered_intM1L2 (aaZ0 : Int) (abZ0 : Int) (sZ1 : Int × List Int) (sZ3 : Int × List Int) (o : (Int × List Int) ⊕ (List Int)) (h : M_slices_insertionSortOrdered_intM1L2 aaZ0 sZ3 = some o) : AWP (OkS Try.prog) A127M1L2 (qL [0, 1, 2, 6, 7] [1000000000] (S_slices_insertionSortOrdered_intM1L2 aaZ0 abZ0 sZ1) (qX 2 [0, 1, 2, 6] [1000000000] (SX_slices_insertionSortOrdered_intM1L2 aaZ0 abZ0 sZ1)) o) (S_slices_insertionSortOrdered_intM1L2 aaZ0 abZ0 sZ1 sZ3) := by
  unfold M_slices_insertionSortOrdered_intM1L2 at h
  simp only [ZC, S_slices_insertionSortOrdered_intM1L2, A127M1L2]
  obtain ⟨oZ10, hoZ10, h⟩ := bind_s h
  try refine ZF trivial ?_
  refine join_rule0 (sh := (fun v => ⟨[(0, .sl 1000000000 0 sZ3.2.length), (1, .i aaZ0), (2, .i abZ0), (6, .i sZ1.1), (7, .i sZ3.1), (30, .b v)], [(1000000000, .arr 1 (sZ3.2.map AV.i))]⟩)) (s := oZ10) ?_ ?_
  · replace h := hoZ10
    obtain ⟨cZ4, h⟩ | ⟨cZ4, h⟩ := cond_s h
    · obtain ⟨kZ5, hkZ5, h⟩ := bind_s h
      obtain ⟨hkZ5a, hkZ5b⟩ := grd_s hkZ5
      obtain ⟨yZ6, hyZ6, h⟩ := bind_s h
      obtain ⟨kZ7, hkZ7, h⟩ := bind_s h
      obtain ⟨hkZ7a, hkZ7b⟩ := grd_s hkZ7
      obtain ⟨yZ8, hyZ8, h⟩ := bind_s h
      obtain ⟨rZ9, hrZ9, h⟩ := bind_s h
      refine ZF (ZA cZ4 (ZA hkZ5a (ZA hkZ5b (ZA hyZ6 (ZA hkZ7a (ZA hkZ7b hyZ8)))))) ?_
      refine ZS (ZA cZ4 (ZA hkZ5a (ZA hkZ5b (ZA hyZ6 (ZA hkZ7a (ZA hkZ7b hyZ8)))))) (w_cmp_Less_int _ _ hrZ9) ?_
      refine ZG ?_
      cases h
      exact ZL (ZA cZ4 (ZA hkZ5a (ZA hkZ5b (ZA hyZ6 (ZA hkZ7a (ZA hkZ7b hyZ8)))))) trivial
    · cases h
      exact ZL cZ4 trivial
  · simp only [ZC, A127M1R1]
    obtain ⟨cZ11, h⟩ | ⟨cZ11, h⟩ := cond_s h
    · obtain ⟨kZ12, hkZ12, h⟩ := bind_s h
      obtain ⟨hkZ12a, hkZ12b⟩ := grd_s hkZ12
      obtain ⟨yZ13, hyZ13, h⟩ := bind_s h
      obtain ⟨kZ14, hkZ14, h⟩ := bind_s h
      obtain ⟨hkZ14a, hkZ14b⟩ := grd_s hkZ14
      obtain ⟨yZ15, hyZ15, h⟩ := bind_s h
      obtain ⟨lZ16, hlZ16, h⟩ := bnd_s h
      have eZ17 : (sZ3.2.map AV.i).set (Int.toNat sZ3.1) (.i yZ13) = lZ16.map AV.i := by rw [← hlZ16, List.map_set]
      obtain ⟨yZ18, hyZ18, h⟩ := bind_s h
      obtain ⟨lZ19, hlZ19, h⟩ := bnd_s h
      have eZ20 : (lZ16.map AV.i).set (Int.toNat (IntKind.wrap .i64 (sZ3.1 - 1))) (.i yZ15) = lZ19.map AV.i := by rw [← hlZ19, List.map_set]
      cases h
      exact ZL (ZA cZ11 (ZA hkZ12a (ZA hkZ12b (ZA hyZ13 (ZA hkZ14a (ZA hkZ14b (ZA hyZ15 (ZA eZ17 (ZA hyZ18 eZ20))))))))) (ZA S_slices_insertionSortOrdered_intM1L2.eq_1 (ZA SX_slices_insertionSortOrdered_intM1L2.eq_1 (ZA hlZ16.symm hlZ19.symm)))
    · cases h
      exact ZL cZ11 (ZA S_slices_insertionSortOrdered_intM1L2.eq_1 SX_slices_insertionSortOrdered_intM1L2.eq_1)
def S_slices_insertionSortOrdered_intM1L1 (aaZ0 : Int) (abZ0 : Int) (v : Int × List Int) : St := ⟨[(0, .sl 1000000000 0 v.2.length), (1, .i aaZ0), (2, .i abZ0), (6, .i v.1)], [(1000000000, .arr 1 (v.2.map AV.i))]⟩
def SX_slices_insertionSortOrdered_intM1L1 (v : List Int) : St := ⟨[], [(1000000000, .arr 1 (v.map AV.i))]⟩
theorem w_slices_insertionSortOrdered_intM1L1 (aaZ0 : Int) (abZ0 : Int) (sZ1 : Int × List Int) (o : (Int × List Int) ⊕ (List Int)) (h : M_slices_insertionSortOrdered_intM1L1 aaZ0 abZ0 sZ1 = some o) : AWP (OkS Try.prog) A127M1L4 (qL [0, 1, 2, 6] [1000000000] (S_slices_insertionSortOrdered_intM1L1 aaZ0 abZ0) (qX 0 [] [1000000000] (SX_slices_insertionSortOrdered_intM1L1)) o) (S_slices_insertionSortOrdered_intM1L1 aaZ0 abZ0 sZ1) := by
  unfold M_slices_insertionSortOrdered_intM1L1 at h
  simp only [ZC, S_slices_insertionSortOrdered_intM1L1, A127M1L4]
  obtain ⟨cZ2, h⟩ | ⟨cZ2, h⟩ := cond_s h
  · obtain ⟨oZ23, hoZ23, h⟩ := bind_s h
    try refine ZF cZ2 ?_
    refine join_rule0 (sh := (fun v => ⟨[(0, .sl 1000000000 0 v.length), (1, .i aaZ0), (2, .i abZ0), (6, .i sZ1.1)], [(1000000000, .arr 1 (v.map AV.i))]⟩)) (s := oZ23) ?_ ?_
    · replace h := hoZ23
      obtain ⟨oZ21, hoZ21, h⟩ := bind_s h
      try refine ZF cZ2 ?_
      first | refine tail_rule0 (blk_rule0 (loop_rule (w_slices_insertionSortOrdered_intM1L2 aaZ0 abZ0 sZ1) hoZ21 ?_)) (fun τ qZ22 => ?_) | refine tail_blk0 (loop_rule (w_slices_insertionSortOrdered_intM1L2 aaZ0 abZ0 sZ1) hoZ21 ?_) (fun τ qZ22 => ?_)
      · exact ZK (ZA S_slices_insertionSortOrdered_intM1L2.eq_1 SX_slices_insertionSortOrdered_intM1L2.eq_1)
      · cases h
        try refine ZF trivial ?_
        refine ⟨rfl, Shp.sub qZ22 (by decide) (by decide) ?_⟩
        exact ZK SX_slices_insertionSortOrdered_intM1L2.eq_1
    · simp only [ZC, A127M1R3]
      cases h
      exact ZL cZ2 (ZA S_slices_insertionSortOrdered_intM1L1.eq_1 SX_slices_insertionSortOrdered_intM1L1.eq_1)
  · cases h
    exact ZL cZ2 (ZA S_slices_insertionSortOrdered_intM1L1.eq_1 SX_slices_insertionSortOrdered_intM1L1.eq_1)
theorem w_slices_insertionSortOrdered_intM1 (aaZ0 : Int) (abZ0 : Int) (acZ0 : List Int) {r : List Int} (h : M_slices_insertionSortOrdered_intM1 aaZ0 abZ0 acZ0 = some r) : OkM Try.prog 127 [.sl 1000000000 0 acZ0.length, .i aaZ0, .i abZ0] [(1000000000, .arr 1 (acZ0.map AV.i))] ((fun (r : List Int) => .tup []) r) ((fun (r : List Int) => [(1000000000, .arr 1 (r.map AV.i))]) r) := by
  refine okM_of_body (lr := [1000000000]) hmix m127M1 rfl rfl ?_
  unfold M_slices_insertionSortOrdered_intM1 at h
  simp only [ZC, A127M1, V127M1]
  obtain ⟨oZ24, hoZ24, h⟩ := bind_s h
  try refine ZF trivial ?_
  first | refine tail_rule0 (blk_rule0 (loop_rule (w_slices_insertionSortOrdered_intM1L1 aaZ0 abZ0) hoZ24 ?_)) (fun τ qZ25 => ?_) | refine tail_blk0 (loop_rule (w_slices_insertionSortOrdered_intM1L1 aaZ0 abZ0) hoZ24 ?_) (fun τ qZ25 => ?_)
  · exact ZK (ZA S_slices_insertionSortOrdered_intM1L1.eq_1 SX_slices_insertionSortOrdered_intM1L1.eq_1)
  · cases h
    refine finM_shp qZ25 (by decide) ?_ rfl
    exact ZK (ZA V127M1.eq_1 SX_slices_insertionSortOrdered_intM1L1.eq_1)
def S_slices_siftDownOrdered_intM1L1 (abZ0 : Int) (acZ0 : Int) (v : Int × List Int) : St := ⟨[(0, .sl 1000000000 0 v.2.length), (2, .i abZ0), (3, .i acZ0), (8, .i v.1)], [(1000000000, .arr 1 (v.2.map AV.i))]⟩
def SX_slices_siftDownOrdered_intM1L1 (v : List Int) : St := ⟨[], [(1000000000, .arr 1 (v.map AV.i))]⟩
theorem w_slices_siftDownOrdered_intM1L1 (abZ0 : Int) (acZ0 : Int) (sZ1 : Int × List Int) (o : (Int × List Int) ⊕ ((List Int) ⊕ (List Int))) (h : M_slices_siftDownOrdered_intM1L1 abZ0 acZ0 sZ1 = some o) : AWP (OkS Try.prog) A149M1L3 (qL [0, 2, 3, 8] [1000000000] (S_slices_siftDownOrdered_intM1L1 abZ0 acZ0) (qS (qX 0 [] [1000000000] (SX_slices_siftDownOrdered_intM1L1)) (qM V149M1 [1000000000] (fun (r : List Int) => .tup []) (fun (r : List Int) => [(1000000000, .arr 1 (r.map AV.i))]))) o) (S_slices_siftDownOrdered_intM1L1 abZ0 acZ0 sZ1) := by
  unfold M_slices_siftDownOrdered_intM1L1 at h
  simp only [ZC, S_slices_siftDownOrdered_intM1L1, A149M1L3]
  obtain ⟨cZ2, h⟩ | ⟨cZ2, h⟩ := cond_s h
  · cases h
    exact ZL cZ2 (ZA S_slices_siftDownOrdered_intM1L1.eq_1 SX_slices_siftDownOrdered_intM1L1.eq_1)
  · obtain ⟨oZ10, hoZ10, h⟩ := bind_s h
    try refine ZF cZ2 ?_
    refine join_rule0 (sh := (fun v => ⟨[(0, .sl 1000000000 0 sZ1.2.length), (2, .i abZ0), (3, .i acZ0), (8, .i sZ1.1), (9, .i v)], [(1000000000, .arr 1 (sZ1.2.map AV.i))]⟩)) (s := oZ10) ?_ ?_
    · replace h := hoZ10
      obtain ⟨cZ3, h⟩ | ⟨cZ3, h⟩ := cond_s h
      · obtain ⟨kZ4, hkZ4, h⟩ := bind_s h
        obtain ⟨hkZ4a, hkZ4b⟩ := grd_s hkZ4
        obtain ⟨yZ5, hyZ5, h⟩ := bind_s h
        obtain ⟨kZ6, hkZ6, h⟩ := bind_s h
        obtain ⟨hkZ6a, hkZ6b⟩ := grd_s hkZ6
        obtain ⟨yZ7, hyZ7, h⟩ := bind_s h
        obtain ⟨rZ8, hrZ8, h⟩ := bind_s h
        refine ZF (ZA cZ2 (ZA cZ3 (ZA hkZ4a (ZA hkZ4b (ZA hyZ5 (ZA hkZ6a (ZA hkZ6b hyZ7))))))) ?_
        refine ZS (ZA cZ2 (ZA cZ3 (ZA hkZ4a (ZA hkZ4b (ZA hyZ5 (ZA hkZ6a (ZA hkZ6b hyZ7))))))) (w_cmp_Less_int _ _ hrZ8) ?_
        refine ZG ?_
        try refine ZF (ZA cZ2 (ZA cZ3 (ZA hkZ4a (ZA hkZ4b (ZA hyZ5 (ZA hkZ6a (ZA hkZ6b hyZ7))))))) ?_
        simp only [ZC, A149M1R1]
        obtain ⟨cZ9, h⟩ | ⟨cZ9, h⟩ := cond_s h
        · cases h
          exact ZL (ZA cZ2 (ZA cZ3 (ZA hkZ4a (ZA hkZ4b (ZA hyZ5 (ZA hkZ6a (ZA hkZ6b (ZA hyZ7 cZ9)))))))) trivial
        · cases h
          exact ZL (ZA cZ2 (ZA cZ3 (ZA hkZ4a (ZA hkZ4b (ZA hyZ5 (ZA hkZ6a (ZA hkZ6b (ZA hyZ7 cZ9)))))))) trivial
      · try refine ZF (ZA cZ2 cZ3) ?_
        simp only [ZC, A149M1R1]
        cases h
        exact ZL (ZA cZ2 cZ3) trivial
    · simp only [ZC, A149M1R2]
      obtain ⟨kZ11, hkZ11, h⟩ := bind_s h
      obtain ⟨hkZ11a, hkZ11b⟩ := grd_s hkZ11
      obtain ⟨yZ12, hyZ12, h⟩ := bind_s h
      obtain ⟨kZ13, hkZ13, h⟩ := bind_s h
      obtain ⟨hkZ13a, hkZ13b⟩ := grd_s hkZ13
      obtain ⟨yZ14, hyZ14, h⟩ := bind_s h
      obtain ⟨rZ15, hrZ15, h⟩ := bind_s h
      refine ZF (ZA cZ2 (ZA hkZ11a (ZA hkZ11b (ZA hyZ12 (ZA hkZ13a (ZA hkZ13b hyZ14)))))) ?_
      refine ZS (ZA cZ2 (ZA hkZ11a (ZA hkZ11b (ZA hyZ12 (ZA hkZ13a (ZA hkZ13b hyZ14)))))) (w_cmp_Less_int _ _ hrZ15) ?_
      refine ZG ?_
      obtain ⟨cZ16, h⟩ | ⟨cZ16, h⟩ := cond_s h
      · cases h
        exact ZL (ZA cZ2 (ZA hkZ11a (ZA hkZ11b (ZA hyZ12 (ZA hkZ13a (ZA hkZ13b (ZA hyZ14 cZ16))))))) V149M1.eq_1
      · obtain ⟨lZ17, hlZ17, h⟩ := bnd_s h
        have eZ18 : (sZ1.2.map AV.i).set (Int.toNat (IntKind.wrap .i64 (acZ0 + sZ1.1))) (.i yZ14) = lZ17.map AV.i := by rw [← hlZ17, List.map_set]
        obtain ⟨yZ19, hyZ19, h⟩ := bind_s h
        obtain ⟨lZ20, hlZ20, h⟩ := bnd_s h
        have eZ21 : (lZ17.map AV.i).set (Int.toNat (IntKind.wrap .i64 (acZ0 + oZ10))) (.i yZ12) = lZ20.map AV.i := by rw [← hlZ20, List.map_set]
        cases h
        exact ZL (ZA cZ2 (ZA hkZ11a (ZA hkZ11b (ZA hyZ12 (ZA hkZ13a (ZA hkZ13b (ZA hyZ14 (ZA cZ16 (ZA eZ18 (ZA hyZ19 eZ21)))))))))) (ZA S_slices_siftDownOrdered_intM1L1.eq_1 (ZA SX_slices_siftDownOrdered_intM1L1.eq_1 (ZA hlZ17.symm hlZ20.symm)))
theorem w_slices_siftDownOrdered_intM1 (aaZ0 : Int) (abZ0 : Int) (acZ0 : Int) (adZ0 : List Int) {r : List Int} (h : M_slices_siftDownOrdered_intM1 aaZ0 abZ0 acZ0 adZ0 = some r) : OkM Try.prog 149 [.sl 1000000000 0 adZ0.length, .i aaZ0, .i abZ0, .i acZ0] [(1000000000, .arr 1 (adZ0.map AV.i))] ((fun (r : List Int) => .tup []) r) ((fun (r : List Int) => [(1000000000, .arr 1 (r.map AV.i))]) r) := by
  refine okM_of_body (lr := [1000000000]) hmix m149M1 rfl rfl ?_
  unfold M_slices_siftDownOrdered_intM1 at h
  simp only [ZC, A149M1, V149M1]
  obtain ⟨oZ22, hoZ22, h⟩ := bind_s h
  try refine ZF trivial ?_
  first | refine tail_rule (o := oZ22) (blk_rule sideM (loop_rule (w_slices_siftDownOrdered_intM1L1 abZ0 acZ0) hoZ22 ?_)) (fun vZ23 hv τ qZ25 => ?_) (fun xZ24 hv e τ hne hq => ?_) | refine tail_blk (o := oZ22) sideM (loop_rule (w_slices_siftDownOrdered_intM1L1 abZ0 acZ0) hoZ22 ?_) (fun vZ23 hv τ qZ25 => ?_) (fun xZ24 hv e τ hne hq => ?_)
  · exact ZK (ZA S_slices_siftDownOrdered_intM1L1.eq_1 SX_slices_siftDownOrdered_intM1L1.eq_1)
  · subst hv
    simp only [] at h
    cases h
    refine finM_shp qZ25 (by decide) ?_ rfl
    exact ZK (ZA V149M1.eq_1 SX_slices_siftDownOrdered_intM1L1.eq_1)
  · subst hv
    simp only [] at h
    obtain ⟨rfl, qZ26⟩ := hq
    cases h
    exact qZ26
def S_slices_siftDownOrdered_intM2L1 (aaZ0 : Nat) (abZ0 : Nat) (adZ0 : Int) (aeZ0 : Int) (v : Int × List Int) : St := ⟨[(0, .sl 1000000000 aaZ0 abZ0), (2, .i adZ0), (3, .i aeZ0), (8, .i v.1)], [(1000000000, .arr 1 (v.2.map AV.i))]⟩
def SX_slices_siftDownOrdered_intM2L1 (v : List Int) : St := ⟨[], [(1000000000, .arr 1 (v.map AV.i))]⟩
theorem w_slices_siftDownOrdered_intM2L1 (aaZ0 : Nat) (abZ0 : Nat) (adZ0 : Int) (aeZ0 : Int) (sZ1 : Int × List Int) (o : (Int × List Int) ⊕ ((List Int) ⊕ (List Int))) (h : M_slices_siftDownOrdered_intM2L1 aaZ0 abZ0 adZ0 aeZ0 sZ1 = some o) : AWP (OkS Try.prog) A149M2L3 (qL [0, 2, 3, 8] [1000000000] (S_slices_siftDownOrdered_intM2L1 aaZ0 abZ0 adZ0 aeZ0) (qS (qX 0 [] [1000000000] (SX_slices_siftDownOrdered_intM2L1)) (qM V149M2 [1000000000] (fun (r : List Int) => .tup []) (fun (r : List Int) => [(1000000000, .arr 1 (r.map AV.i))]))) o) (S_slices_siftDownOrdered_intM2L1 aaZ0 abZ0 adZ0 aeZ0 sZ1) := by
  unfold M_slices_siftDownOrdered_intM2L1 at h
  simp only [ZC, S_slices_siftDownOrdered_intM2L1, A149M2L3]
  obtain ⟨cZ2, h⟩ | ⟨cZ2, h⟩ := cond_s h
  · cases h
    exact ZL cZ2 (ZA S_slices_siftDownOrdered_intM2L1.eq_1 SX_slices_siftDownOrdered_intM2L1.eq_1)
  · obtain ⟨oZ10, hoZ10, h⟩ := bind_s h
    try refine ZF cZ2 ?_
    refine join_rule0 (sh := (fun v => ⟨[(0, .sl 1000000000 aaZ0 abZ0), (2, .i adZ0), (3, .i aeZ0), (8, .i sZ1.1), (9, .i v)], [(1000000000, .arr 1 (sZ1.2.map AV.i))]⟩)) (s := oZ10) ?_ ?_
    · replace h := hoZ10
      obtain ⟨cZ3, h⟩ | ⟨cZ3, h⟩ := cond_s h
      · obtain ⟨kZ4, hkZ4, h⟩ := bind_s h
        obtain ⟨hkZ4a, hkZ4b⟩ := grd_s hkZ4
        obtain ⟨yZ5, hyZ5, h⟩ := bind_s h
        obtain ⟨kZ6, hkZ6, h⟩ := bind_s h
        obtain ⟨hkZ6a, hkZ6b⟩ := grd_s hkZ6
        obtain ⟨yZ7, hyZ7, h⟩ := bind_s h
        obtain ⟨rZ8, hrZ8, h⟩ := bind_s h
        refine ZF (ZA cZ2 (ZA cZ3 (ZA hkZ4a (ZA hkZ4b (ZA hyZ5 (ZA hkZ6a (ZA hkZ6b hyZ7))))))) ?_
        refine ZS (ZA cZ2 (ZA cZ3 (ZA hkZ4a (ZA hkZ4b (ZA hyZ5 (ZA hkZ6a (ZA hkZ6b hyZ7))))))) (w_cmp_Less_int _ _ hrZ8) ?_
        refine ZG ?_
        try refine ZF (ZA cZ2 (ZA cZ3 (ZA hkZ4a (ZA hkZ4b (ZA hyZ5 (ZA hkZ6a (ZA hkZ6b hyZ7))))))) ?_
        simp only [ZC, A149M2R1]
        obtain ⟨cZ9, h⟩ | ⟨cZ9, h⟩ := cond_s h
        · cases h
          exact ZL (ZA cZ2 (ZA cZ3 (ZA hkZ4a (ZA hkZ4b (ZA hyZ5 (ZA hkZ6a (ZA hkZ6b (ZA hyZ7 cZ9)))))))) trivial
        · cases h
          exact ZL (ZA cZ2 (ZA cZ3 (ZA hkZ4a (ZA hkZ4b (ZA hyZ5 (ZA hkZ6a (ZA hkZ6b (ZA hyZ7 cZ9)))))))) trivial
      · try refine ZF (ZA cZ2 cZ3) ?_
        simp only [ZC, A149M2R1]
        cases h
        exact ZL (ZA cZ2 cZ3) trivial
    · simp only [ZC, A149M2R2]
      obtain ⟨kZ11, hkZ11, h⟩ := bind_s h
      obtain ⟨hkZ11a, hkZ11b⟩ := grd_s hkZ11
      obtain ⟨yZ12, hyZ12, h⟩ := bind_s h
      obtain ⟨kZ13, hkZ13, h⟩ := bind_s h
      obtain ⟨hkZ13a, hkZ13b⟩ := grd_s hkZ13
      obtain ⟨yZ14, hyZ14, h⟩ := bind_s h
      obtain ⟨rZ15, hrZ15, h⟩ := bind_s h
      refine ZF (ZA cZ2 (ZA hkZ11a (ZA hkZ11b (ZA hyZ12 (ZA hkZ13a (ZA hkZ13b hyZ14)))))) ?_
      refine ZS (ZA cZ2 (ZA hkZ11a (ZA hkZ11b (ZA hyZ12 (ZA hkZ13a (ZA hkZ13b hyZ14)))))) (w_cmp_Less_int _ _ hrZ15) ?_
      refine ZG ?_
      obtain ⟨cZ16, h⟩ | ⟨cZ16, h⟩ := cond_s h
      · cases h
        exact ZL (ZA cZ2 (ZA hkZ11a (ZA hkZ11b (ZA hyZ12 (ZA hkZ13a (ZA hkZ13b (ZA hyZ14 cZ16))))))) V149M2.eq_1
      · obtain ⟨lZ17, hlZ17, h⟩ := bnd_s h
        have eZ18 : (sZ1.2.map AV.i).set (aaZ0 + (Int.toNat (IntKind.wrap .i64 (aeZ0 + sZ1.1)))) (.i yZ14) = lZ17.map AV.i := by rw [← hlZ17, List.map_set]
        obtain ⟨yZ19, hyZ19, h⟩ := bind_s h
        obtain ⟨lZ20, hlZ20, h⟩ := bnd_s h
        have eZ21 : (lZ17.map AV.i).set (aaZ0 + (Int.toNat (IntKind.wrap .i64 (aeZ0 + oZ10)))) (.i yZ12) = lZ20.map AV.i := by rw [← hlZ20, List.map_set]
        cases h
        exact ZL (ZA cZ2 (ZA hkZ11a (ZA hkZ11b (ZA hyZ12 (ZA hkZ13a (ZA hkZ13b (ZA hyZ14 (ZA cZ16 (ZA eZ18 (ZA hyZ19 eZ21)))))))))) (ZA S_slices_siftDownOrdered_intM2L1.eq_1 (ZA SX_slices_siftDownOrdered_intM2L1.eq_1 (ZA hlZ17.symm hlZ20.symm)))
theorem w_slices_siftDownOrdered_intM2 (aaZ0 : Nat) (abZ0 : Nat) (acZ0 : Int) (adZ0 : Int) (aeZ0 : Int) (afZ0 : List Int) {r : List Int} (h : M_slices_siftDownOrdered_intM2 aaZ0 abZ0 acZ0 adZ0 aeZ0 afZ0 = some r) : OkM Try.prog 149 [.sl 1000000000 aaZ0 abZ0, .i acZ0, .i adZ0, .i aeZ0] [(1000000000, .arr 1 (afZ0.map AV.i))] ((fun (r : List Int) => .tup []) r) ((fun (r : List Int) => [(1000000000, .arr 1 (r.map AV.i))]) r) := by
  refine okM_of_body (lr := [1000000000]) hmix m149M2 rfl rfl ?_
  unfold M_slices_siftDownOrdered_intM2 at h
  simp only [ZC, A149M2, V149M2]
  obtain ⟨oZ22, hoZ22, h⟩ := bind_s h
  try refine ZF trivial ?_
  first | refine tail_rule (o := oZ22) (blk_rule sideM (loop_rule (w_slices_siftDownOrdered_intM2L1 aaZ0 abZ0 adZ0 aeZ0) hoZ22 ?_)) (fun vZ23 hv τ qZ25 => ?_) (fun xZ24 hv e τ hne hq => ?_) | refine tail_blk (o := oZ22) sideM (loop_rule (w_slices_siftDownOrdered_intM2L1 aaZ0 abZ0 adZ0 aeZ0) hoZ22 ?_) (fun vZ23 hv τ qZ25 => ?_) (fun xZ24 hv e τ hne hq => ?_)
  · exact ZK (ZA S_slices_siftDownOrdered_intM2L1.eq_1 SX_slices_siftDownOrdered_intM2L1.eq_1)
  · subst hv
    simp only [] at h
    cases h
    refine finM_shp qZ25 (by decide) ?_ rfl
    exact ZK (ZA V149M2.eq_1 SX_slices_siftDownOrdered_intM2L1.eq_1)
  · subst hv
    simp only [] at h
    obtain ⟨rfl, qZ26⟩ := hq
    cases h
    exact qZ26
def S_slices_heapSortOrdered_intM1L1 (aaZ0 : Int) (abZ0 : Int) (v : Nat × Int × List Int) : St := ⟨[(0, .sl 1000000000 0 v.1), (6, .i aaZ0), (7, .i 0), (8, .i (IntKind.wrap .i64 (abZ0 - aaZ0))), (9, .i v.2.1)], [(1000000000, .arr 1 (v.2.2.map AV.i))]⟩
def SX_slices_heapSortOrdered_intM1L1 (aaZ0 : Int) (abZ0 : Int) (v : Nat × List Int) : St := ⟨[(0, .sl 1000000000 0 v.1), (6, .i aaZ0), (7, .i 0), (8, .i (IntKind.wrap .i64 (abZ0 - aaZ0)))], [(1000000000, .arr 1 (v.2.map AV.i))]⟩
theorem w_slices_heapSortOrdered_intM1L1 (aaZ0 : Int) (abZ0 : Int) (sZ2 : Nat × Int × List Int) (o : (Nat × Int × List Int) ⊕ (Nat × List Int)) (h : M_slices_heapSortOrdered_intM1L1 aaZ0 abZ0 sZ2 = some o) : AWP (OkS Try.prog) A128M1L1 (qL [0, 6, 7, 8, 9] [1000000000] (S_slices_heapSortOrdered_intM1L1 aaZ0 abZ0) (qX 0 [0, 6, 7, 8] [1000000000] (SX_slices_heapSortOrdered_intM1L1 aaZ0 abZ0)) o) (S_slices_heapSortOrdered_intM1L1 aaZ0 abZ0 sZ2) := by
  unfold M_slices_heapSortOrdered_intM1L1 at h
  simp only [ZC, S_slices_heapSortOrdered_intM1L1, A128M1L1]
  obtain ⟨cZ3, h⟩ | ⟨cZ3, h⟩ := cond_s h
  · obtain ⟨rZ4, hrZ4, h⟩ := bind_s h
    refine ZF cZ3 ?_
    refine ZW cZ3 (w_slices_siftDownOrdered_intM2 _ _ _ _ _ _ hrZ4) (h2 := by first | exact nm_ok [1000000000] rfl (by decide +kernel) | exact nm_ok2 [1000000000] [] rfl (by decide +kernel) ZQ | exact ZQ) (hk := ?_)
    refine ZG ?_
    cases h
    exact ZL cZ3 (ZA S_slices_heapSortOrdered_intM1L1.eq_1 SX_slices_heapSortOrdered_intM1L1.eq_1)
  · cases h
    exact ZL cZ3 (ZA S_slices_heapSortOrdered_intM1L1.eq_1 SX_slices_heapSortOrdered_intM1L1.eq_1)
def S_slices_heapSortOrdered_intM1L2 (aaZ0 : Int) (oZ5 : Nat × List Int) (v : Int × List Int) : St := ⟨[(0, .sl 1000000000 0 oZ5.1), (6, .i aaZ0), (7, .i 0), (10, .i v.1)], [(1000000000, .arr 1 (v.2.map AV.i))]⟩
def SX_slices_heapSortOrdered_intM1L2 (v : List Int) : St := ⟨[], [(1000000000, .arr 1 (v.map AV.i))]⟩
theorem w_slices_heapSortOrdered_intM1L2 (aaZ0 : Int) (oZ5 : Nat × List Int) (sZ6 : Int × List Int) (o : (Int × List Int) ⊕ (List Int)) (h : M_slices_heapSortOrdered_intM1L2 aaZ0 oZ5 sZ6 = some o) : AWP (OkS Try.prog) A128M1L3 (qL [0, 6, 7, 10] [1000000000] (S_slices_heapSortOrdered_intM1L2 aaZ0 oZ5) (qX 2 [] [1000000000] (SX_slices_heapSortOrdered_intM1L2)) o) (S_slices_heapSortOrdered_intM1L2 aaZ0 oZ5 sZ6) := by
  unfold M_slices_heapSortOrdered_intM1L2 at h
  simp only [ZC, S_slices_heapSortOrdered_intM1L2, A128M1L3]
  obtain ⟨cZ7, h⟩ | ⟨cZ7, h⟩ := cond_s h
  · obtain ⟨kZ8, hkZ8, h⟩ := bind_s h
    obtain ⟨hkZ8a, hkZ8b⟩ := grd_s hkZ8
    obtain ⟨yZ9, hyZ9, h⟩ := bind_s h
    obtain ⟨kZ10, hkZ10, h⟩ := bind_s h
    obtain ⟨hkZ10a, hkZ10b⟩ := grd_s hkZ10
    obtain ⟨yZ11, hyZ11, h⟩ := bind_s h
    obtain ⟨lZ12, hlZ12, h⟩ := bnd_s h
    have eZ13 : (sZ6.2.map AV.i).set (Int.toNat aaZ0) (.i yZ9) = lZ12.map AV.i := by rw [← hlZ12, List.map_set]
    obtain ⟨yZ14, hyZ14, h⟩ := bind_s h
    obtain ⟨lZ15, hlZ15, h⟩ := bnd_s h
    have eZ16 : (lZ12.map AV.i).set (Int.toNat (IntKind.wrap .i64 (aaZ0 + sZ6.1))) (.i yZ11) = lZ15.map AV.i := by rw [← hlZ15, List.map_set]
    obtain ⟨rZ17, hrZ17, h⟩ := bind_s h
    refine ZF (ZA cZ7 (ZA hkZ8a (ZA hkZ8b (ZA hyZ9 (ZA hkZ10a (ZA hkZ10b (ZA hyZ11 (ZA eZ13 (ZA hyZ14 eZ16))))))))) ?_
    refine ZW (ZA cZ7 (ZA hkZ8a (ZA hkZ8b (ZA hyZ9 (ZA hkZ10a (ZA hkZ10b (ZA hyZ11 (ZA eZ13 (ZA hyZ14 eZ16))))))))) (w_slices_siftDownOrdered_intM2 _ _ _ _ _ _ hrZ17) (h2 := by first | exact nm_ok [1000000000] rfl (by decide +kernel) | exact nm_ok2 [1000000000] [] rfl (by decide +kernel) ZQ | exact ZQ) (hk := ?_)
    refine ZG ?_
    cases h
    exact ZL (ZA cZ7 (ZA hkZ8a (ZA hkZ8b (ZA hyZ9 (ZA hkZ10a (ZA hkZ10b (ZA hyZ11 (ZA eZ13 (ZA hyZ14 eZ16))))))))) (ZA S_slices_heapSortOrdered_intM1L2.eq_1 (ZA SX_slices_heapSortOrdered_intM1L2.eq_1 (ZA hlZ12.symm hlZ15.symm)))
  · cases h
    exact ZL cZ7 (ZA S_slices_heapSortOrdered_intM1L2.eq_1 SX_slices_heapSortOrdered_intM1L2.eq_1)
theorem w_slices_heapSortOrdered_intM1 (aaZ0 : Int) (abZ0 : Int) (acZ0 : List Int) {r : List Int} (h : M_slices_heapSortOrdered_intM1 aaZ0 abZ0 acZ0 = some r) : OkM Try.prog 128 [.sl 1000000000 0 acZ0.length, .i aaZ0, .i abZ0] [(1000000000, .arr 1 (acZ0.map AV.i))] ((fun (r : List Int) => .tup []) r) ((fun (r : List Int) => [(1000000000, .arr 1 (r.map AV.i))]) r) := by
  refine okM_of_body (lr := [1000000000]) hmix m128M1 rfl rfl ?_
  unfold M_slices_heapSortOrdered_intM1 at h
  simp only [ZC, A128M1, V128M1]
  obtain ⟨uZ1, huZ1, h⟩ := bind_s h
  have huZ1g := grd_s huZ1
  obtain ⟨oZ5, hoZ5, h⟩ := bind_s h
  try refine ZF huZ1g ?_
  refine join_rule0 (blk_rule0 (loop_rule (w_slices_heapSortOrdered_intM1L1 aaZ0 abZ0) hoZ5 ?_)) ?_
  · exact ZK (ZA S_slices_heapSortOrdered_intM1L1.eq_1 SX_slices_heapSortOrdered_intM1L1.eq_1)
  · simp only [ZC, SX_slices_heapSortOrdered_intM1L1, A128M1R2]
    obtain ⟨oZ18, hoZ18, h⟩ := bind_s h
    try refine ZF huZ1g ?_
    first | refine tail_rule0 (blk_rule0 (loop_rule (w_slices_heapSortOrdered_intM1L2 aaZ0 oZ5) hoZ18 ?_)) (fun τ qZ19 => ?_) | refine tail_blk0 (loop_rule (w_slices_heapSortOrdered_intM1L2 aaZ0 oZ5) hoZ18 ?_) (fun τ qZ19 => ?_)
    · exact ZK (ZA S_slices_heapSortOrdered_intM1L2.eq_1 SX_slices_heapSortOrdered_intM1L2.eq_1)
    · cases h
      refine finM_shp qZ19 (by decide) ?_ rfl
      exact ZK (ZA V128M1.eq_1 SX_slices_heapSortOrdered_intM1L2.eq_1)
theorem w_slices_order2Ordered_intM1 (aaZ0 : List Int) (abZ0 : Int) (acZ0 : Int) (adZ0 : Int) {r : Int × Int × Int} (h : M_slices_order2Ordered_intM1 aaZ0 abZ0 acZ0 adZ0 = some r) : OkM Try.prog 156 [.lst .o 1 (aaZ0.map AV.i), .i abZ0, .i acZ0, .pt 1000000000 0 0] [(1000000000, .var (.i adZ0))] ((fun (r : Int × Int × Int) => .tup [.i r.1, .i r.2.1]) r) ((fun (r : Int × Int × Int) => [(1000000000, .var (.i r.2.2))]) r) := by
  refine okM_of_body (lr := [1000000000]) hmix m156M1 rfl rfl ?_
  unfold M_slices_order2Ordered_intM1 at h
  simp only [ZC, A156M1, V156M1]
  obtain ⟨yZ1, hyZ1, h⟩ := bind_s h
  obtain ⟨hyZ1a, hyZ1b⟩ := geti_s hyZ1
  obtain ⟨yZ2, hyZ2, h⟩ := bind_s h
  obtain ⟨hyZ2a, hyZ2b⟩ := geti_s hyZ2
  obtain ⟨rZ3, hrZ3, h⟩ := bind_s h
  refine ZF (ZA hyZ1a (ZA hyZ1b (ZA hyZ2a hyZ2b))) ?_
  refine ZS (ZA hyZ1a (ZA hyZ1b (ZA hyZ2a hyZ2b))) (w_cmp_Less_int _ _ hrZ3) ?_
  refine ZG ?_
  obtain ⟨cZ4, h⟩ | ⟨cZ4, h⟩ := cond_s h
  · cases h
    exact ZL (ZA hyZ1a (ZA hyZ1b (ZA hyZ2a (ZA hyZ2b cZ4)))) V156M1.eq_1
  · cases h
    exact ZL (ZA hyZ1a (ZA hyZ1b (ZA hyZ2a (ZA hyZ2b cZ4)))) V156M1.eq_1
theorem w_slices_medianOrdered_intM1 (aaZ0 : List Int) (abZ0 : Int) (acZ0 : Int) (adZ0 : Int) (aeZ0 : Int) {r : Int × Int} (h : M_slices_medianOrdered_intM1 aaZ0 abZ0 acZ0 adZ0 aeZ0 = some r) : OkM Try.prog 151 [.lst .o 1 (aaZ0.map AV.i), .i abZ0, .i acZ0, .i adZ0, .pt 1000000000 0 0] [(1000000000, .var (.i aeZ0))] ((fun (r : Int × Int) => .i r.1) r) ((fun (r : Int × Int) => [(1000000000, .var (.i r.2))]) r) := by
  refine okM_of_body (lr := [1000000000]) hmix m151M1 rfl rfl ?_
  unfold M_slices_medianOrdered_intM1 at h
  simp only [ZC, A151M1, V151M1]
  obtain ⟨rZ1, hrZ1, h⟩ := bind_s h
  refine ZF trivial ?_
  refine ZW trivial (w_slices_order2Ordered_intM1 _ _ _ _ hrZ1) (h2 := by first | exact nm_ok [1000000000] rfl (by decide +kernel) | exact nm_ok2 [1000000000] [] rfl (by decide +kernel) ZQ | exact ZQ) (hk := ?_)
  refine ZG ?_
  obtain ⟨rZ2, hrZ2, h⟩ := bind_s h
  refine ZF trivial ?_
  refine ZW trivial (w_slices_order2Ordered_intM1 _ _ _ _ hrZ2) (h2 := by first | exact nm_ok [1000000000] rfl (by decide +kernel) | exact nm_ok2 [1000000000] [] rfl (by decide +kernel) ZQ | exact ZQ) (hk := ?_)
  refine ZG ?_
  obtain ⟨rZ3, hrZ3, h⟩ := bind_s h
  refine ZF trivial ?_
  refine ZW trivial (w_slices_order2Ordered_intM1 _ _ _ _ hrZ3) (h2 := by first | exact nm_ok [1000000000] rfl (by decide +kernel) | exact nm_ok2 [1000000000] [] rfl (by decide +kernel) ZQ | exact ZQ) (hk := ?_)
  refine ZG ?_
  cases h
  exact ZL trivial V151M1.eq_1
theorem w_slices_medianAdjacentOrdered_intM1 (aaZ0 : List Int) (abZ0 : Int) (acZ0 : Int) {r : Int × Int} (h : M_slices_medianAdjacentOrdered_intM1 aaZ0 abZ0 acZ0 = some r) : OkM Try.prog 150 [.lst .o 1 (aaZ0.map AV.i), .i abZ0, .pt 1000000000 0 0] [(1000000000, .var (.i acZ0))] ((fun (r : Int × Int) => .i r.1) r) ((fun (r : Int × Int) => [(1000000000, .var (.i r.2))]) r) := by
  refine okM_of_body (lr := [1000000000]) hmix m150M1 rfl rfl ?_
  unfold M_slices_medianAdjacentOrdered_intM1 at h
  simp only [ZC, A150M1, V150M1]
  obtain ⟨rZ1, hrZ1, h⟩ := bind_s h
  refine ZF trivial ?_
  refine ZW trivial (w_slices_medianOrdered_intM1 _ _ _ _ _ hrZ1) (h2 := by first | exact nm_ok [1000000000] rfl (by decide +kernel) | exact nm_ok2 [1000000000] [] rfl (by decide +kernel) ZQ | exact ZQ) (hk := ?_)
  refine ZG ?_
  cases h
  exact ZL trivial V150M1.eq_1
theorem w_slices_choosePivotOrdered_int (dataZ0 : List Int) (aZ0 : Int) (bZ0 : Int) {r : Int × Int} (h : M_slices_choosePivotOrdered_int dataZ0 aZ0 bZ0 = some r) : Ok Try.prog 130 [.lst .o 1 (dataZ0.map AV.i), .i aZ0, .i bZ0] ((fun r => .tup [.i r.1, .i r.2]) r) := by
  refine ok_of_body hmix m130 rfl ?_
  unfold M_slices_choosePivotOrdered_int at h
  simp only [ZC, A130, V130, body_eq]
  obtain ⟨uZ1, huZ1, h⟩ := bind_s h
  have huZ1g := grd_s huZ1
  obtain ⟨uZ2, huZ2, h⟩ := bind_s h
  have huZ2g := grd_s huZ2
  obtain ⟨uZ3, huZ3, h⟩ := bind_s h
  have huZ3g := grd_s huZ3
  obtain ⟨oZ11, hoZ11, h⟩ := bind_s h
  try refine ZF (ZA huZ1g (ZA huZ2g huZ3g)) ?_
  refine join_rule0 (sh := (fun v => ⟨[(9, .pt 9 0 0), (11, .i v.1)], [(9, .var (.i v.2))]⟩)) (s := oZ11) ?_ ?_
  · replace h := hoZ11
    obtain ⟨cZ4, h⟩ | ⟨cZ4, h⟩ := cond_s h
    · obtain ⟨oZ9, hoZ9, h⟩ := bind_s h
      try refine ZF (ZA huZ1g (ZA huZ2g (ZA huZ3g cZ4))) ?_
      refine join_rule0 (sh := (fun v => ⟨[(0, .lst .o 1 (dataZ0.map AV.i)), (9, .pt 9 0 0), (10, .i v.1), (11, .i v.2.1), (12, .i v.2.2.1)], [(9, .var (.i v.2.2.2))]⟩)) (s := oZ9) ?_ ?_
      · replace h := hoZ9
        obtain ⟨cZ5, h⟩ | ⟨cZ5, h⟩ := cond_s h
        · obtain ⟨rZ6, hrZ6, h⟩ := bind_s h
          refine ZF (ZA huZ1g (ZA huZ2g (ZA huZ3g (ZA cZ4 cZ5)))) ?_
          refine ZW (ZA huZ1g (ZA huZ2g (ZA huZ3g (ZA cZ4 cZ5)))) (w_slices_medianAdjacentOrdered_intM1 _ _ _ hrZ6) (h2 := by first | exact nm_ok [1000000000] rfl (by decide +kernel) | exact nm_ok2 [1000000000] [] rfl (by decide +kernel) ZQ | exact ZQ) (hk := ?_)
          refine ZG ?_
          obtain ⟨rZ7, hrZ7, h⟩ := bind_s h
          refine ZF (ZA huZ1g (ZA huZ2g (ZA huZ3g (ZA cZ4 cZ5)))) ?_
          refine ZW (ZA huZ1g (ZA huZ2g (ZA huZ3g (ZA cZ4 cZ5)))) (w_slices_medianAdjacentOrdered_intM1 _ _ _ hrZ7) (h2 := by first | exact nm_ok [1000000000] rfl (by decide +kernel) | exact nm_ok2 [1000000000] [] rfl (by decide +kernel) ZQ | exact ZQ) (hk := ?_)
          refine ZG ?_
          obtain ⟨rZ8, hrZ8, h⟩ := bind_s h
          refine ZF (ZA huZ1g (ZA huZ2g (ZA huZ3g (ZA cZ4 cZ5)))) ?_
          refine ZW (ZA huZ1g (ZA huZ2g (ZA huZ3g (ZA cZ4 cZ5)))) (w_slices_medianAdjacentOrdered_intM1 _ _ _ hrZ8) (h2 := by first | exact nm_ok [1000000000] rfl (by decide +kernel) | exact nm_ok2 [1000000000] [] rfl (by decide +kernel) ZQ | exact ZQ) (hk := ?_)
          refine ZG ?_
          cases h
          exact ZL (ZA huZ1g (ZA huZ2g (ZA huZ3g (ZA cZ4 cZ5)))) trivial
        · cases h
          exact ZL (ZA huZ1g (ZA huZ2g (ZA huZ3g (ZA cZ4 cZ5)))) trivial
      · simp only [ZC, A130R1]
        obtain ⟨rZ10, hrZ10, h⟩ := bind_s h
        refine ZF (ZA huZ1g (ZA huZ2g (ZA huZ3g cZ4))) ?_
        refine ZW (ZA huZ1g (ZA huZ2g (ZA huZ3g cZ4))) (w_slices_medianOrdered_intM1 _ _ _ _ _ hrZ10) (h2 := by first | exact nm_ok [1000000000] rfl (by decide +kernel) | exact nm_ok2 [1000000000] [] rfl (by decide +kernel) ZQ | exact ZQ) (hk := ?_)
        refine ZG ?_
        cases h
        exact ZL (ZA huZ1g (ZA huZ2g (ZA huZ3g cZ4))) trivial
    · cases h
      exact ZL (ZA huZ1g (ZA huZ2g (ZA huZ3g cZ4))) trivial
  · simp only [ZC, A130R2]
    obtain ⟨cZ12, h⟩ | ⟨cZ12, h⟩ := cond_s h
    · cases h
      exact ZL (ZA huZ1g (ZA huZ2g (ZA huZ3g cZ12))) V130.eq_1
    · obtain ⟨cZ13, h⟩ | ⟨cZ13, h⟩ := cond_s h
      · cases h
        exact ZL (ZA huZ1g (ZA huZ2g (ZA huZ3g (ZA cZ12 cZ13)))) V130.eq_1
      · cases h
        exact ZL (ZA huZ1g (ZA huZ2g (ZA huZ3g (ZA cZ12 cZ13)))) V130.eq_1
def S_slices_reverseRangeOrdered_intM1L1 (v : Int × Int × List Int) : St := ⟨[(0, .sl 1000000000 0 v.2.2.length), (6, .i v.1), (7, .i v.2.1)], [(1000000000, .arr 1 (v.2.2.map AV.i))]⟩
def SX_slices_reverseRangeOrdered_intM1L1 (v : List Int) : St := ⟨[], [(1000000000, .arr 1 (v.map AV.i))]⟩
theorem w_slices_reverseRangeOrdered_intM1L1 (sZ1 : Int × Int × List Int) (o : (Int × Int × List Int) ⊕ (List Int)) (h : M_slices_reverseRangeOrdered_intM1L1 sZ1 = some o) : AWP (OkS Try.prog) A131M1L1 (qL [0, 6, 7] [1000000000] (S_slices_reverseRangeOrdered_intM1L1) (qX 0 [] [1000000000] (SX_slices_reverseRangeOrdered_intM1L1)) o) (S_slices_reverseRangeOrdered_intM1L1 sZ1) := by
  unfold M_slices_reverseRangeOrdered_intM1L1 at h
  simp only [ZC, S_slices_reverseRangeOrdered_intM1L1, A131M1L1]
  obtain ⟨cZ2, h⟩ | ⟨cZ2, h⟩ := cond_s h
  · obtain ⟨kZ3, hkZ3, h⟩ := bind_s h
    obtain ⟨hkZ3a, hkZ3b⟩ := grd_s hkZ3
    obtain ⟨yZ4, hyZ4, h⟩ := bind_s h
    obtain ⟨kZ5, hkZ5, h⟩ := bind_s h
    obtain ⟨hkZ5a, hkZ5b⟩ := grd_s hkZ5
    obtain ⟨yZ6, hyZ6, h⟩ := bind_s h
    obtain ⟨lZ7, hlZ7, h⟩ := bnd_s h
    have eZ8 : (sZ1.2.2.map AV.i).set (Int.toNat sZ1.1) (.i yZ4) = lZ7.map AV.i := by rw [← hlZ7, List.map_set]
    obtain ⟨yZ9, hyZ9, h⟩ := bind_s h
    obtain ⟨lZ10, hlZ10, h⟩ := bnd_s h
    have eZ11 : (lZ7.map AV.i).set (Int.toNat sZ1.2.1) (.i yZ6) = lZ10.map AV.i := by rw [← hlZ10, List.map_set]
    cases h
    exact ZL (ZA cZ2 (ZA hkZ3a (ZA hkZ3b (ZA hyZ4 (ZA hkZ5a (ZA hkZ5b (ZA hyZ6 (ZA eZ8 (ZA hyZ9 eZ11))))))))) (ZA S_slices_reverseRangeOrdered_intM1L1.eq_1 (ZA SX_slices_reverseRangeOrdered_intM1L1.eq_1 (ZA hlZ7.symm hlZ10.symm)))
  · cases h
    exact ZL cZ2 (ZA S_slices_reverseRangeOrdered_intM1L1.eq_1 SX_slices_reverseRangeOrdered_intM1L1.eq_1)
theorem w_slices_reverseRangeOrdered_intM1 (aaZ0 : Int) (abZ0 : Int) (acZ0 : List Int) {r : List Int} (h : M_slices_reverseRangeOrdered_intM1 aaZ0 abZ0 acZ0 = some r) : OkM Try.prog 131 [.sl 1000000000 0 acZ0.length, .i aaZ0, .i abZ0] [(1000000000, .arr 1 (acZ0.map AV.i))] ((fun (r : List Int) => .tup []) r) ((fun (r : List Int) => [(1000000000, .arr 1 (r.map AV.i))]) r) := by
  refine okM_of_body (lr := [1000000000]) hmix m131M1 rfl rfl ?_
  unfold M_slices_reverseRangeOrdered_intM1 at h
  simp only [ZC, A131M1, V131M1]
  obtain ⟨oZ12, hoZ12, h⟩ := bind_s h
  try refine ZF trivial ?_
  first | refine tail_rule0 (blk_rule0 (loop_rule (w_slices_reverseRangeOrdered_intM1L1) hoZ12 ?_)) (fun τ qZ13 => ?_) | refine tail_blk0 (loop_rule (w_slices_reverseRangeOrdered_intM1L1) hoZ12 ?_) (fun τ qZ13 => ?_)
  · exact ZK (ZA S_slices_reverseRangeOrdered_intM1L1.eq_1 SX_slices_reverseRangeOrdered_intM1L1.eq_1)
  · cases h
    refine finM_shp qZ13 (by decide) ?_ rfl
    exact ZK (ZA V131M1.eq_1 SX_slices_reverseRangeOrdered_intM1L1.eq_1)
def S_slices_partialInsertionSortOrdered_intM1L2 (aaZ0 : Nat) (abZ0 : Nat) (acZ0 : Int) (adZ0 : Int) (sZ1 : Int × Int × List Int) (v : Int) : St := ⟨[(0, .sl 1000000000 aaZ0 abZ0), (1, .i acZ0), (2, .i adZ0), (7, .i v), (8, .i sZ1.2.1)], [(1000000000, .arr 1 (sZ1.2.2.map AV.i))]⟩
def SX_slices_partialInsertionSortOrdered_intM1L2 (aaZ0 : Nat) (abZ0 : Nat) (acZ0 : Int) (adZ0 : Int) (sZ1 : Int × Int × List Int) (v : Int) : St := ⟨[(0, .sl 1000000000 aaZ0 abZ0), (1, .i acZ0), (2, .i adZ0), (7, .i v), (8, .i sZ1.2.1)], [(1000000000, .arr 1 (sZ1.2.2.map AV.i))]⟩
theorem w_slices_partialInsertionSortOrdered_intM1L2 (aaZ0 : Nat) (abZ0 : Nat) (acZ0 : Int) (adZ0 : Int) (sZ1 : Int × Int × List Int) (sZ3 : Int) (o : Int ⊕ Int) (h : M_slices_partialInsertionSortOrdered_intM1L2 aaZ0 abZ0 adZ0 sZ1 sZ3 = some o) : AWP (OkS Try.prog) A132M1L1 (qL [0, 1, 2, 7, 8] [1000000000] (S_slices_partialInsertionSortOrdered_intM1L2 aaZ0 abZ0 acZ0 adZ0 sZ1) (qX 2 [0, 1, 2, 7, 8] [1000000000] (SX_slices_partialInsertionSortOrdered_intM1L2 aaZ0 abZ0 acZ0 adZ0 sZ1)) o) (S_slices_partialInsertionSortOrdered_intM1L2 aaZ0 abZ0 acZ0 adZ0 sZ1 sZ3) := by
  unfold M_slices_partialInsertionSortOrdered_intM1L2 at h
  simp only [ZC, S_slices_partialInsertionSortOrdered_intM1L2, A132M1L1]
  obtain ⟨cZ4, h⟩ | ⟨cZ4, h⟩ := cond_s h
  · obtain ⟨kZ5, hkZ5, h⟩ := bind_s h
    obtain ⟨hkZ5a, hkZ5b⟩ := grd_s hkZ5
    obtain ⟨yZ6, hyZ6, h⟩ := bind_s h
    obtain ⟨kZ7, hkZ7, h⟩ := bind_s h
    obtain ⟨hkZ7a, hkZ7b⟩ := grd_s hkZ7
    obtain ⟨yZ8, hyZ8, h⟩ := bind_s h
    obtain ⟨rZ9, hrZ9, h⟩ := bind_s h
    refine ZF (ZA cZ4 (ZA hkZ5a (ZA hkZ5b (ZA hyZ6 (ZA hkZ7a (ZA hkZ7b hyZ8)))))) ?_
    refine ZS (ZA cZ4 (ZA hkZ5a (ZA hkZ5b (ZA hyZ6 (ZA hkZ7a (ZA hkZ7b hyZ8)))))) (w_cmp_Less_int _ _ hrZ9) ?_
    refine ZG ?_
    obtain ⟨cZ10, h⟩ | ⟨cZ10, h⟩ := cond_s h
    · cases h
      exact ZL (ZA cZ4 (ZA hkZ5a (ZA hkZ5b (ZA hyZ6 (ZA hkZ7a (ZA hkZ7b (ZA hyZ8 cZ10))))))) (ZA S_slices_partialInsertionSortOrdered_intM1L2.eq_1 SX_slices_partialInsertionSortOrdered_intM1L2.eq_1)
    · cases h
      exact ZL (ZA cZ4 (ZA hkZ5a (ZA hkZ5b (ZA hyZ6 (ZA hkZ7a (ZA hkZ7b (ZA hyZ8 cZ10))))))) (ZA S_slices_partialInsertionSortOrdered_intM1L2.eq_1 SX_slices_partialInsertionSortOrdered_intM1L2.eq_1)
  · cases h
    exact ZL cZ4 (ZA S_slices_partialInsertionSortOrdered_intM1L2.eq_1 SX_slices_partialInsertionSortOrdered_intM1L2.eq_1)
def S_slices_partialInsertionSortOrdered_intM1L3 (aaZ0 : Nat) (abZ0 : Nat) (acZ0 : Int) (adZ0 : Int) (sZ1 : Int × Int × List Int) (oZ11 : Int) (v : Int × List Int) : St := ⟨[(0, .sl 1000000000 aaZ0 abZ0), (1, .i acZ0), (2, .i adZ0), (7, .i oZ11), (8, .i sZ1.2.1), (9, .i v.1)], [(1000000000, .arr 1 (v.2.map AV.i))]⟩
def SX_slices_partialInsertionSortOrdered_intM1L3 (aaZ0 : Nat) (abZ0 : Nat) (acZ0 : Int) (adZ0 : Int) (sZ1 : Int × Int × List Int) (oZ11 : Int) (v : List Int) : St := ⟨[(0, .sl 1000000000 aaZ0 abZ0), (1, .i acZ0), (2, .i adZ0), (7, .i oZ11), (8, .i sZ1.2.1)], [(1000000000, .arr 1 (v.map AV.i))]⟩
theorem w_slices_partialInsertionSortOrdered_intM1L3 (aaZ0 : Nat) (abZ0 : Nat) (acZ0 : Int) (adZ0 : Int) (sZ1 : Int × Int × List Int) (oZ11 : Int) (sZ24 : Int × List Int) (o : (Int × List Int) ⊕ (List Int)) (h : M_slices_partialInsertionSortOrdered_intM1L3 aaZ0 abZ0 sZ24 = some o) : AWP (OkS Try.prog) A132M1L3 (qL [0, 1, 2, 7, 8, 9] [1000000000] (S_slices_partialInsertionSortOrdered_intM1L3 aaZ0 abZ0 acZ0 adZ0 sZ1 oZ11) (qX 4 [0, 1, 2, 7, 8] [1000000000] (SX_slices_partialInsertionSortOrdered_intM1L3 aaZ0 abZ0 acZ0 adZ0 sZ1 oZ11)) o) (S_slices_partialInsertionSortOrdered_intM1L3 aaZ0 abZ0 acZ0 adZ0 sZ1 oZ11 sZ24) := by
  unfold M_slices_partialInsertionSortOrdered_intM1L3 at h
  simp only [ZC, S_slices_partialInsertionSortOrdered_intM1L3, A132M1L3]
  obtain ⟨cZ25, h⟩ | ⟨cZ25, h⟩ := cond_s h
  · obtain ⟨kZ26, hkZ26, h⟩ := bind_s h
    obtain ⟨hkZ26a, hkZ26b⟩ := grd_s hkZ26
    obtain ⟨yZ27, hyZ27, h⟩ := bind_s h
    obtain ⟨kZ28, hkZ28, h⟩ := bind_s h
    obtain ⟨hkZ28a, hkZ28b⟩ := grd_s hkZ28
    obtain ⟨yZ29, hyZ29, h⟩ := bind_s h
    obtain ⟨rZ30, hrZ30, h⟩ := bind_s h
    refine ZF (ZA cZ25 (ZA hkZ26a (ZA hkZ26b (ZA hyZ27 (ZA hkZ28a (ZA hkZ28b hyZ29)))))) ?_
    refine ZS (ZA cZ25 (ZA hkZ26a (ZA hkZ26b (ZA hyZ27 (ZA hkZ28a (ZA hkZ28b hyZ29)))))) (w_cmp_Less_int _ _ hrZ30) ?_
    refine ZG ?_
    obtain ⟨cZ31, h⟩ | ⟨cZ31, h⟩ := cond_s h
    · cases h
      exact ZL (ZA cZ25 (ZA hkZ26a (ZA hkZ26b (ZA hyZ27 (ZA hkZ28a (ZA hkZ28b (ZA hyZ29 cZ31))))))) (ZA S_slices_partialInsertionSortOrdered_intM1L3.eq_1 SX_slices_partialInsertionSortOrdered_intM1L3.eq_1)
    · obtain ⟨lZ32, hlZ32, h⟩ := bnd_s h
      have eZ33 : (sZ24.2.map AV.i).set (aaZ0 + (Int.toNat sZ24.1)) (.i yZ29) = lZ32.map AV.i := by rw [← hlZ32, List.map_set]
      obtain ⟨yZ34, hyZ34, h⟩ := bind_s h
      obtain ⟨lZ35, hlZ35, h⟩ := bnd_s h
      have eZ36 : (lZ32.map AV.i).set (aaZ0 + (Int.toNat (IntKind.wrap .i64 (sZ24.1 - 1)))) (.i yZ27) = lZ35.map AV.i := by rw [← hlZ35, List.map_set]
      cases h
      exact ZL (ZA cZ25 (ZA hkZ26a (ZA hkZ26b (ZA hyZ27 (ZA hkZ28a (ZA hkZ28b (ZA hyZ29 (ZA cZ31 (ZA eZ33 (ZA hyZ34 eZ36)))))))))) (ZA S_slices_partialInsertionSortOrdered_intM1L3.eq_1 (ZA SX_slices_partialInsertionSortOrdered_intM1L3.eq_1 (ZA hlZ32.symm hlZ35.symm)))
  · cases h
    exact ZL cZ25 (ZA S_slices_partialInsertionSortOrdered_intM1L3.eq_1 SX_slices_partialInsertionSortOrdered_intM1L3.eq_1)
def S_slices_partialInsertionSortOrdered_intM1L4 (aaZ0 : Nat) (abZ0 : Nat) (acZ0 : Int) (adZ0 : Int) (sZ1 : Int × Int × List Int) (oZ11 : Int) (v : Int × List Int) : St := ⟨[(0, .sl 1000000000 aaZ0 abZ0), (1, .i acZ0), (2, .i adZ0), (7, .i oZ11), (8, .i sZ1.2.1), (10, .i v.1)], [(1000000000, .arr 1 (v.2.map AV.i))]⟩
def SX_slices_partialInsertionSortOrdered_intM1L4 (aaZ0 : Nat) (abZ0 : Nat) (acZ0 : Int) (adZ0 : Int) (sZ1 : Int × Int × List Int) (oZ11 : Int) (v : List Int) : St := ⟨[(0, .sl 1000000000 aaZ0 abZ0), (1, .i acZ0), (2, .i adZ0), (7, .i oZ11), (8, .i sZ1.2.1)], [(1000000000, .arr 1 (v.map AV.i))]⟩
theorem w_slices_partialInsertionSortOrdered_intM1L4 (aaZ0 : Nat) (abZ0 : Nat) (acZ0 : Int) (adZ0 : Int) (sZ1 : Int × Int × List Int) (oZ11 : Int) (sZ41 : Int × List Int) (o : (Int × List Int) ⊕ (List Int)) (h : M_slices_partialInsertionSortOrdered_intM1L4 aaZ0 abZ0 adZ0 sZ41 = some o) : AWP (OkS Try.prog) A132M1L5 (qL [0, 1, 2, 7, 8, 10] [1000000000] (S_slices_partialInsertionSortOrdered_intM1L4 aaZ0 abZ0 acZ0 adZ0 sZ1 oZ11) (qX 6 [0, 1, 2, 7, 8] [1000000000] (SX_slices_partialInsertionSortOrdered_intM1L4 aaZ0 abZ0 acZ0 adZ0 sZ1 oZ11)) o) (S_slices_partialInsertionSortOrdered_intM1L4 aaZ0 abZ0 acZ0 adZ0 sZ1 oZ11 sZ41) := by
  unfold M_slices_partialInsertionSortOrdered_intM1L4 at h
  simp only [ZC, S_slices_partialInsertionSortOrdered_intM1L4, A132M1L5]
  obtain ⟨cZ42, h⟩ | ⟨cZ42, h⟩ := cond_s h
  · obtain ⟨kZ43, hkZ43, h⟩ := bind_s h
    obtain ⟨hkZ43a, hkZ43b⟩ := grd_s hkZ43
    obtain ⟨yZ44, hyZ44, h⟩ := bind_s h
    obtain ⟨kZ45, hkZ45, h⟩ := bind_s h
    obtain ⟨hkZ45a, hkZ45b⟩ := grd_s hkZ45
    obtain ⟨yZ46, hyZ46, h⟩ := bind_s h
    obtain ⟨rZ47, hrZ47, h⟩ := bind_s h
    refine ZF (ZA cZ42 (ZA hkZ43a (ZA hkZ43b (ZA hyZ44 (ZA hkZ45a (ZA hkZ45b hyZ46)))))) ?_
    refine ZS (ZA cZ42 (ZA hkZ43a (ZA hkZ43b (ZA hyZ44 (ZA hkZ45a (ZA hkZ45b hyZ46)))))) (w_cmp_Less_int _ _ hrZ47) ?_
    refine ZG ?_
    obtain ⟨cZ48, h⟩ | ⟨cZ48, h⟩ := cond_s h
    · cases h
      exact ZL (ZA cZ42 (ZA hkZ43a (ZA hkZ43b (ZA hyZ44 (ZA hkZ45a (ZA hkZ45b (ZA hyZ46 cZ48))))))) (ZA S_slices_partialInsertionSortOrdered_intM1L4.eq_1 SX_slices_partialInsertionSortOrdered_intM1L4.eq_1)
    · obtain ⟨lZ49, hlZ49, h⟩ := bnd_s h
      have eZ50 : (sZ41.2.map AV.i).set (aaZ0 + (Int.toNat sZ41.1)) (.i yZ46) = lZ49.map AV.i := by rw [← hlZ49, List.map_set]
      obtain ⟨yZ51, hyZ51, h⟩ := bind_s h
      obtain ⟨lZ52, hlZ52, h⟩ := bnd_s h
      have eZ53 : (lZ49.map AV.i).set (aaZ0 + (Int.toNat (IntKind.wrap .i64 (sZ41.1 - 1)))) (.i yZ44) = lZ52.map AV.i := by rw [← hlZ52, List.map_set]
      cases h
      exact ZL (ZA cZ42 (ZA hkZ43a (ZA hkZ43b (ZA hyZ44 (ZA hkZ45a (ZA hkZ45b (ZA hyZ46 (ZA cZ48 (ZA eZ50 (ZA hyZ51 eZ53)))))))))) (ZA S_slices_partialInsertionSortOrdered_intM1L4.eq_1 (ZA SX_slices_partialInsertionSortOrdered_intM1L4.eq_1 (ZA hlZ49.symm hlZ52.symm)))
  · cases h
    exact ZL cZ42 (ZA S_slices_partialInsertionSortOrdered_intM1L4.eq_1 SX_slices_partialInsertionSortOrdered_intM1L4.eq_1)
def S_slices_partialInsertionSortOrdered_intM1L1 (aaZ0 : Nat) (abZ0 : Nat) (acZ0 : Int) (adZ0 : Int) (v : Int × Int × List Int) : St := ⟨[(0, .sl 1000000000 aaZ0 abZ0), (1, .i acZ0), (2, .i adZ0), (7, .i v.1), (8, .i v.2.1)], [(1000000000, .arr 1 (v.2.2.map AV.i))]⟩
def SX_slices_partialInsertionSortOrdered_intM1L1 (v : List Int) : St := ⟨[], [(1000000000, .arr 1 (v.map AV.i))]⟩
theorem w_slices_partialInsertionSortOrdered_intM1L1 (aaZ0 : Nat) (abZ0 : Nat) (acZ0 : Int) (adZ0 : Int) (sZ1 : Int × Int × List Int) (o : (Int × Int × List Int) ⊕ ((List Int) ⊕ (Bool × List Int))) (h : M_slices_partialInsertionSortOrdered_intM1L1 aaZ0 abZ0 acZ0 adZ0 sZ1 = some o) : AWP (OkS Try.prog) A132M1L7 (qL [0, 1, 2, 7, 8] [1000000000] (S_slices_partialInsertionSortOrdered_intM1L1 aaZ0 abZ0 acZ0 adZ0) (qS (qX 0 [] [1000000000] (SX_slices_partialInsertionSortOrdered_intM1L1)) (qM V132M1 [1000000000] (fun (r : Bool × List Int) => .b r.1) (fun (r : Bool × List Int) => [(1000000000, .arr 1 (r.2.map AV.i))]))) o) (S_slices_partialInsertionSortOrdered_intM1L1 aaZ0 abZ0 acZ0 adZ0 sZ1) := by
  unfold M_slices_partialInsertionSortOrdered_intM1L1 at h
  simp only [ZC, S_slices_partialInsertionSortOrdered_intM1L1, A132M1L7]
  obtain ⟨cZ2, h⟩ | ⟨cZ2, h⟩ := cond_s h
  · obtain ⟨oZ56, hoZ56, h⟩ := bind_s h
    try refine ZF cZ2 ?_
    refine join_rule (sh := (fun v => ⟨[(0, .sl 1000000000 aaZ0 abZ0), (1, .i acZ0), (2, .i adZ0), (7, .i v.1), (8, .i sZ1.2.1)], [(1000000000, .arr 1 (v.2.map AV.i))]⟩)) (q := (qM V132M1 [1000000000] (fun (r : Bool × List Int) => .b r.1) (fun (r : Bool × List Int) => [(1000000000, .arr 1 (r.2.map AV.i))]))) (o := oZ56) ?_ (fun vZ57 hv => ?_) (fun xZ58 hv e τ hne hq => ?_)
    · replace h := hoZ56
      obtain ⟨oZ11, hoZ11, h⟩ := bind_s h
      try refine ZF cZ2 ?_
      refine join_rule0 (blk_rule0 (loop_rule (w_slices_partialInsertionSortOrdered_intM1L2 aaZ0 abZ0 acZ0 adZ0 sZ1) hoZ11 ?_)) ?_
      · exact ZK (ZA S_slices_partialInsertionSortOrdered_intM1L2.eq_1 SX_slices_partialInsertionSortOrdered_intM1L2.eq_1)
      · simp only [ZC, SX_slices_partialInsertionSortOrdered_intM1L2, A132M1R2]
        obtain ⟨cZ12, h⟩ | ⟨cZ12, h⟩ := cond_s h
        · cases h
          exact ZL (ZA cZ2 cZ12) V132M1.eq_1
        · obtain ⟨cZ13, h⟩ | ⟨cZ13, h⟩ := cond_s h
          · cases h
            exact ZL (ZA cZ2 (ZA cZ12 cZ13)) V132M1.eq_1
          · obtain ⟨kZ14, hkZ14, h⟩ := bind_s h
            obtain ⟨hkZ14a, hkZ14b⟩ := grd_s hkZ14
            obtain ⟨yZ15, hyZ15, h⟩ := bind_s h
            obtain ⟨kZ16, hkZ16, h⟩ := bind_s h
            obtain ⟨hkZ16a, hkZ16b⟩ := grd_s hkZ16
            obtain ⟨yZ17, hyZ17, h⟩ := bind_s h
            obtain ⟨lZ18, hlZ18, h⟩ := bnd_s h
            have eZ19 : (sZ1.2.2.map AV.i).set (aaZ0 + (Int.toNat oZ11)) (.i yZ15) = lZ18.map AV.i := by rw [← hlZ18, List.map_set]
            obtain ⟨yZ20, hyZ20, h⟩ := bind_s h
            obtain ⟨lZ21, hlZ21, h⟩ := bnd_s h
            have eZ22 : (lZ18.map AV.i).set (aaZ0 + (Int.toNat (IntKind.wrap .i64 (oZ11 - 1)))) (.i yZ17) = lZ21.map AV.i := by rw [← hlZ21, List.map_set]
            obtain ⟨oZ39, hoZ39, h⟩ := bind_s h
            try refine ZF (ZA cZ2 (ZA cZ12 (ZA cZ13 (ZA hkZ14a (ZA hkZ14b (ZA hyZ15 (ZA hkZ16a (ZA hkZ16b (ZA hyZ17 (ZA eZ19 (ZA hyZ20 eZ22))))))))))) ?_
            refine join_rule0 (sh := (fun v => ⟨[(0, .sl 1000000000 aaZ0 abZ0), (1, .i acZ0), (2, .i adZ0), (7, .i oZ11), (8, .i sZ1.2.1)], [(1000000000, .arr 1 (v.map AV.i))]⟩)) (s := oZ39) ?_ ?_
            · replace h := hoZ39
              obtain ⟨cZ23, h⟩ | ⟨cZ23, h⟩ := cond_s h
              · obtain ⟨oZ37, hoZ37, h⟩ := bind_s h
                try refine ZF (ZA cZ2 (ZA cZ12 (ZA cZ13 (ZA hkZ14a (ZA hkZ14b (ZA hyZ15 (ZA hkZ16a (ZA hkZ16b (ZA hyZ17 (ZA eZ19 (ZA hyZ20 (ZA eZ22 cZ23)))))))))))) ?_
                first | refine tail_rule0 (blk_rule0 (loop_rule (w_slices_partialInsertionSortOrdered_intM1L3 aaZ0 abZ0 acZ0 adZ0 sZ1 oZ11) hoZ37 ?_)) (fun τ qZ38 => ?_) | refine tail_blk0 (loop_rule (w_slices_partialInsertionSortOrdered_intM1L3 aaZ0 abZ0 acZ0 adZ0 sZ1 oZ11) hoZ37 ?_) (fun τ qZ38 => ?_)
                · exact ZK (ZA S_slices_partialInsertionSortOrdered_intM1L3.eq_1 (ZA SX_slices_partialInsertionSortOrdered_intM1L3.eq_1 (ZA hlZ18.symm hlZ21.symm)))
                · cases h
                  try refine ZF trivial ?_
                  refine ⟨rfl, Shp.sub qZ38 (by decide) (by decide) ?_⟩
                  exact ZK SX_slices_partialInsertionSortOrdered_intM1L3.eq_1
              · cases h
                exact ZL (ZA cZ2 (ZA cZ12 (ZA cZ13 (ZA hkZ14a (ZA hkZ14b (ZA hyZ15 (ZA hkZ16a (ZA hkZ16b (ZA hyZ17 (ZA eZ19 (ZA hyZ20 (ZA eZ22 cZ23)))))))))))) (ZA hlZ18.symm hlZ21.symm)
            · simp only [ZC, A132M1R4]
              obtain ⟨cZ40, h⟩ | ⟨cZ40, h⟩ := cond_s h
              · obtain ⟨oZ54, hoZ54, h⟩ := bind_s h
                try refine ZF (ZA cZ2 (ZA cZ12 (ZA cZ13 (ZA hkZ14a (ZA hkZ14b (ZA hyZ15 (ZA hkZ16a (ZA hkZ16b (ZA hyZ17 (ZA eZ19 (ZA hyZ20 (ZA eZ22 cZ40)))))))))))) ?_
                first | refine tail_rule0 (blk_rule0 (loop_rule (w_slices_partialInsertionSortOrdered_intM1L4 aaZ0 abZ0 acZ0 adZ0 sZ1 oZ11) hoZ54 ?_)) (fun τ qZ55 => ?_) | refine tail_blk0 (loop_rule (w_slices_partialInsertionSortOrdered_intM1L4 aaZ0 abZ0 acZ0 adZ0 sZ1 oZ11) hoZ54 ?_) (fun τ qZ55 => ?_)
                · exact ZK (ZA S_slices_partialInsertionSortOrdered_intM1L4.eq_1 SX_slices_partialInsertionSortOrdered_intM1L4.eq_1)
                · cases h
                  try refine ZF trivial ?_
                  refine ⟨rfl, Shp.sub qZ55 (by decide) (by decide) ?_⟩
                  exact ZK SX_slices_partialInsertionSortOrdered_intM1L4.eq_1
              · cases h
                exact ZL (ZA cZ2 (ZA cZ12 (ZA cZ13 (ZA hkZ14a (ZA hkZ14b (ZA hyZ15 (ZA hkZ16a (ZA hkZ16b (ZA hyZ17 (ZA eZ19 (ZA hyZ20 (ZA eZ22 cZ40)))))))))))) trivial
    · subst hv
      simp only [] at h
      simp only [ZC, A132M1R6]
      cases h
      exact ZL cZ2 (ZA S_slices_partialInsertionSortOrdered_intM1L1.eq_1 SX_slices_partialInsertionSortOrdered_intM1L1.eq_1)
    · subst hv
      simp only [] at h
      obtain ⟨rfl, qZ59⟩ := hq
      cases h
      try refine ZF trivial ?_
      first | exact ⟨by simp, qZ59⟩ | exact ⟨by simp, rfl, qZ59⟩
  · cases h
    exact ZL cZ2 (ZA S_slices_partialInsertionSortOrdered_intM1L1.eq_1 SX_slices_partialInsertionSortOrdered_intM1L1.eq_1)
theorem w_slices_partialInsertionSortOrdered_intM1 (aaZ0 : Nat) (abZ0 : Nat) (acZ0 : Int) (adZ0 : Int) (aeZ0 : List Int) {r : Bool × List Int} (h : M_slices_partialInsertionSortOrdered_intM1 aaZ0 abZ0 acZ0 adZ0 aeZ0 = some r) : OkM Try.prog 132 [.sl 1000000000 aaZ0 abZ0, .i acZ0, .i adZ0] [(1000000000, .arr 1 (aeZ0.map AV.i))] ((fun (r : Bool × List Int) => .b r.1) r) ((fun (r : Bool × List Int) => [(1000000000, .arr 1 (r.2.map AV.i))]) r) := by
  refine okM_of_body (lr := [1000000000]) hmix m132M1 rfl rfl ?_
  unfold M_slices_partialInsertionSortOrdered_intM1 at h
  simp only [ZC, A132M1, V132M1]
  obtain ⟨oZ60, hoZ60, h⟩ := bind_s h
  try refine ZF trivial ?_
  refine join_rule (o := oZ60) (blk_rule sideM (loop_rule (w_slices_partialInsertionSortOrdered_intM1L1 aaZ0 abZ0 acZ0 adZ0) hoZ60 ?_)) (fun vZ61 hv => ?_) (fun xZ62 hv e τ hne hq => ?_)
  · exact ZK (ZA S_slices_partialInsertionSortOrdered_intM1L1.eq_1 SX_slices_partialInsertionSortOrdered_intM1L1.eq_1)
  · subst hv
    simp only [] at h
    simp only [ZC, SX_slices_partialInsertionSortOrdered_intM1L1, A132M1R8]
    cases h
    exact ZL trivial V132M1.eq_1
  · subst hv
    simp only [] at h
    obtain ⟨rfl, qZ63⟩ := hq
    cases h
    exact qZ63
def S_slices_partitionEqualOrdered_intM1L2 (aaZ0 : Nat) (abZ0 : Nat) (acZ0 : Int) (sZ10 : Int × Int × List Int) (v : Int) : St := ⟨[(0, .sl 1000000000 aaZ0 abZ0), (1, .i acZ0), (9, .i v), (10, .i sZ10.2.1)], [(1000000000, .arr 1 (sZ10.2.2.map AV.i))]⟩
def SX_slices_partitionEqualOrdered_intM1L2 (aaZ0 : Nat) (abZ0 : Nat) (acZ0 : Int) (sZ10 : Int × Int × List Int) (v : Int) : St := ⟨[(0, .sl 1000000000 aaZ0 abZ0), (1, .i acZ0), (9, .i v), (10, .i sZ10.2.1)], [(1000000000, .arr 1 (sZ10.2.2.map AV.i))]⟩
theorem w_slices_partitionEqualOrdered_intM1L2 (aaZ0 : Nat) (abZ0 : Nat) (acZ0 : Int) (sZ10 : Int × Int × List Int) (sZ11 : Int) (o : Int ⊕ Int) (h : M_slices_partitionEqualOrdered_intM1L2 aaZ0 abZ0 acZ0 sZ10 sZ11 = some o) : AWP (OkS Try.prog) A134M1L1 (qL [0, 1, 9, 10] [1000000000] (S_slices_partitionEqualOrdered_intM1L2 aaZ0 abZ0 acZ0 sZ10) (qX 2 [0, 1, 9, 10] [1000000000] (SX_slices_partitionEqualOrdered_intM1L2 aaZ0 abZ0 acZ0 sZ10)) o) (S_slices_partitionEqualOrdered_intM1L2 aaZ0 abZ0 acZ0 sZ10 sZ11) := by
  unfold M_slices_partitionEqualOrdered_intM1L2 at h
  simp only [ZC, S_slices_partitionEqualOrdered_intM1L2, A134M1L1]
  obtain ⟨cZ12, h⟩ | ⟨cZ12, h⟩ := cond_s h
  · obtain ⟨kZ13, hkZ13, h⟩ := bind_s h
    obtain ⟨hkZ13a, hkZ13b⟩ := grd_s hkZ13
    obtain ⟨yZ14, hyZ14, h⟩ := bind_s h
    obtain ⟨kZ15, hkZ15, h⟩ := bind_s h
    obtain ⟨hkZ15a, hkZ15b⟩ := grd_s hkZ15
    obtain ⟨yZ16, hyZ16, h⟩ := bind_s h
    obtain ⟨rZ17, hrZ17, h⟩ := bind_s h
    refine ZF (ZA cZ12 (ZA hkZ13a (ZA hkZ13b (ZA hyZ14 (ZA hkZ15a (ZA hkZ15b hyZ16)))))) ?_
    refine ZS (ZA cZ12 (ZA hkZ13a (ZA hkZ13b (ZA hyZ14 (ZA hkZ15a (ZA hkZ15b hyZ16)))))) (w_cmp_Less_int _ _ hrZ17) ?_
    refine ZG ?_
    obtain ⟨cZ18, h⟩ | ⟨cZ18, h⟩ := cond_s h
    · cases h
      exact ZL (ZA cZ12 (ZA hkZ13a (ZA hkZ13b (ZA hyZ14 (ZA hkZ15a (ZA hkZ15b (ZA hyZ16 cZ18))))))) (ZA S_slices_partitionEqualOrdered_intM1L2.eq_1 SX_slices_partitionEqualOrdered_intM1L2.eq_1)
    · cases h
      exact ZL (ZA cZ12 (ZA hkZ13a (ZA hkZ13b (ZA hyZ14 (ZA hkZ15a (ZA hkZ15b (ZA hyZ16 cZ18))))))) (ZA S_slices_partitionEqualOrdered_intM1L2.eq_1 SX_slices_partitionEqualOrdered_intM1L2.eq_1)
  · cases h
    exact ZL cZ12 (ZA S_slices_partitionEqualOrdered_intM1L2.eq_1 SX_slices_partitionEqualOrdered_intM1L2.eq_1)
def S_slices_partitionEqualOrdered_intM1L3 (aaZ0 : Nat) (abZ0 : Nat) (acZ0 : Int) (sZ10 : Int × Int × List Int) (oZ19 : Int) (v : Int) : St := ⟨[(0, .sl 1000000000 aaZ0 abZ0), (1, .i acZ0), (9, .i oZ19), (10, .i v)], [(1000000000, .arr 1 (sZ10.2.2.map AV.i))]⟩
def SX_slices_partitionEqualOrdered_intM1L3 (aaZ0 : Nat) (abZ0 : Nat) (acZ0 : Int) (sZ10 : Int × Int × List Int) (oZ19 : Int) (v : Int) : St := ⟨[(0, .sl 1000000000 aaZ0 abZ0), (1, .i acZ0), (9, .i oZ19), (10, .i v)], [(1000000000, .arr 1 (sZ10.2.2.map AV.i))]⟩
theorem w_slices_partitionEqualOrdered_intM1L3 (aaZ0 : Nat) (abZ0 : Nat) (acZ0 : Int) (sZ10 : Int × Int × List Int) (oZ19 : Int) (sZ20 : Int) (o : Int ⊕ Int) (h : M_slices_partitionEqualOrdered_intM1L3 aaZ0 abZ0 acZ0 sZ10 oZ19 sZ20 = some o) : AWP (OkS Try.prog) A134M1L3 (qL [0, 1, 9, 10] [1000000000] (S_slices_partitionEqualOrdered_intM1L3 aaZ0 abZ0 acZ0 sZ10 oZ19) (qX 4 [0, 1, 9, 10] [1000000000] (SX_slices_partitionEqualOrdered_intM1L3 aaZ0 abZ0 acZ0 sZ10 oZ19)) o) (S_slices_partitionEqualOrdered_intM1L3 aaZ0 abZ0 acZ0 sZ10 oZ19 sZ20) := by
  unfold M_slices_partitionEqualOrdered_intM1L3 at h
  simp only [ZC, S_slices_partitionEqualOrdered_intM1L3, A134M1L3]
  obtain ⟨cZ21, h⟩ | ⟨cZ21, h⟩ := cond_s h
  · obtain ⟨kZ22, hkZ22, h⟩ := bind_s h
    obtain ⟨hkZ22a, hkZ22b⟩ := grd_s hkZ22
    obtain ⟨yZ23, hyZ23, h⟩ := bind_s h
    obtain ⟨kZ24, hkZ24, h⟩ := bind_s h
    obtain ⟨hkZ24a, hkZ24b⟩ := grd_s hkZ24
    obtain ⟨yZ25, hyZ25, h⟩ := bind_s h
    obtain ⟨rZ26, hrZ26, h⟩ := bind_s h
    refine ZF (ZA cZ21 (ZA hkZ22a (ZA hkZ22b (ZA hyZ23 (ZA hkZ24a (ZA hkZ24b hyZ25)))))) ?_
    refine ZS (ZA cZ21 (ZA hkZ22a (ZA hkZ22b (ZA hyZ23 (ZA hkZ24a (ZA hkZ24b hyZ25)))))) (w_cmp_Less_int _ _ hrZ26) ?_
    refine ZG ?_
    obtain ⟨cZ27, h⟩ | ⟨cZ27, h⟩ := cond_s h
    · cases h
      exact ZL (ZA cZ21 (ZA hkZ22a (ZA hkZ22b (ZA hyZ23 (ZA hkZ24a (ZA hkZ24b (ZA hyZ25 cZ27))))))) (ZA S_slices_partitionEqualOrdered_intM1L3.eq_1 SX_slices_partitionEqualOrdered_intM1L3.eq_1)
    · cases h
      exact ZL (ZA cZ21 (ZA hkZ22a (ZA hkZ22b (ZA hyZ23 (ZA hkZ24a (ZA hkZ24b (ZA hyZ25 cZ27))))))) (ZA S_slices_partitionEqualOrdered_intM1L3.eq_1 SX_slices_partitionEqualOrdered_intM1L3.eq_1)
  · cases h
    exact ZL cZ21 (ZA S_slices_partitionEqualOrdered_intM1L3.eq_1 SX_slices_partitionEqualOrdered_intM1L3.eq_1)
def S_slices_partitionEqualOrdered_intM1L1 (aaZ0 : Nat) (abZ0 : Nat) (acZ0 : Int) (v : Int × Int × List Int) : St := ⟨[(0, .sl 1000000000 aaZ0 abZ0), (1, .i acZ0), (9, .i v.1), (10, .i v.2.1)], [(1000000000, .arr 1 (v.2.2.map AV.i))]⟩
def SX_slices_partitionEqualOrdered_intM1L1 (v : Int × List Int) : St := ⟨[(9, .i v.1)], [(1000000000, .arr 1 (v.2.map AV.i))]⟩
theorem w_slices_partitionEqualOrdered_intM1L1 (aaZ0 : Nat) (abZ0 : Nat) (acZ0 : Int) (sZ10 : Int × Int × List Int) (o : (Int × Int × List Int) ⊕ (Int × List Int)) (h : M_slices_partitionEqualOrdered_intM1L1 aaZ0 abZ0 acZ0 sZ10 = some o) : AWP (OkS Try.prog) A134M1L5 (qL [0, 1, 9, 10] [1000000000] (S_slices_partitionEqualOrdered_intM1L1 aaZ0 abZ0 acZ0) (qX 0 [9] [1000000000] (SX_slices_partitionEqualOrdered_intM1L1)) o) (S_slices_partitionEqualOrdered_intM1L1 aaZ0 abZ0 acZ0 sZ10) := by
  unfold M_slices_partitionEqualOrdered_intM1L1 at h
  simp only [ZC, S_slices_partitionEqualOrdered_intM1L1, A134M1L5]
  obtain ⟨oZ19, hoZ19, h⟩ := bind_s h
  try refine ZF trivial ?_
  refine join_rule0 (blk_rule0 (loop_rule (w_slices_partitionEqualOrdered_intM1L2 aaZ0 abZ0 acZ0 sZ10) hoZ19 ?_)) ?_
  · exact ZK (ZA S_slices_partitionEqualOrdered_intM1L2.eq_1 SX_slices_partitionEqualOrdered_intM1L2.eq_1)
  · simp only [ZC, SX_slices_partitionEqualOrdered_intM1L2, A134M1R2]
    obtain ⟨oZ28, hoZ28, h⟩ := bind_s h
    try refine ZF trivial ?_
    refine join_rule0 (blk_rule0 (loop_rule (w_slices_partitionEqualOrdered_intM1L3 aaZ0 abZ0 acZ0 sZ10 oZ19) hoZ28 ?_)) ?_
    · exact ZK (ZA S_slices_partitionEqualOrdered_intM1L3.eq_1 SX_slices_partitionEqualOrdered_intM1L3.eq_1)
    · simp only [ZC, SX_slices_partitionEqualOrdered_intM1L3, A134M1R4]
      obtain ⟨cZ29, h⟩ | ⟨cZ29, h⟩ := cond_s h
      · cases h
        exact ZL cZ29 (ZA S_slices_partitionEqualOrdered_intM1L1.eq_1 SX_slices_partitionEqualOrdered_intM1L1.eq_1)
      · obtain ⟨kZ30, hkZ30, h⟩ := bind_s h
        obtain ⟨hkZ30a, hkZ30b⟩ := grd_s hkZ30
        obtain ⟨yZ31, hyZ31, h⟩ := bind_s h
        obtain ⟨kZ32, hkZ32, h⟩ := bind_s h
        obtain ⟨hkZ32a, hkZ32b⟩ := grd_s hkZ32
        obtain ⟨yZ33, hyZ33, h⟩ := bind_s h
        obtain ⟨lZ34, hlZ34, h⟩ := bnd_s h
        have eZ35 : (sZ10.2.2.map AV.i).set (aaZ0 + (Int.toNat oZ19)) (.i yZ31) = lZ34.map AV.i := by rw [← hlZ34, List.map_set]
        obtain ⟨yZ36, hyZ36, h⟩ := bind_s h
        obtain ⟨lZ37, hlZ37, h⟩ := bnd_s h
        have eZ38 : (lZ34.map AV.i).set (aaZ0 + (Int.toNat oZ28)) (.i yZ33) = lZ37.map AV.i := by rw [← hlZ37, List.map_set]
        cases h
        exact ZL (ZA cZ29 (ZA hkZ30a (ZA hkZ30b (ZA hyZ31 (ZA hkZ32a (ZA hkZ32b (ZA hyZ33 (ZA eZ35 (ZA hyZ36 eZ38))))))))) (ZA S_slices_partitionEqualOrdered_intM1L1.eq_1 (ZA SX_slices_partitionEqualOrdered_intM1L1.eq_1 (ZA hlZ34.symm hlZ37.symm)))
theorem w_slices_partitionEqualOrdered_intM1 (aaZ0 : Nat) (abZ0 : Nat) (acZ0 : Int) (adZ0 : Int) (aeZ0 : Int) (afZ0 : List Int) {r : Int × List Int} (h : M_slices_partitionEqualOrdered_intM1 aaZ0 abZ0 acZ0 adZ0 aeZ0 afZ0 = some r) : OkM Try.prog 134 [.sl 1000000000 aaZ0 abZ0, .i acZ0, .i adZ0, .i aeZ0] [(1000000000, .arr 1 (afZ0.map AV.i))] ((fun (r : Int × List Int) => .i r.1) r) ((fun (r : Int × List Int) => [(1000000000, .arr 1 (r.2.map AV.i))]) r) := by
  refine okM_of_body (lr := [1000000000]) hmix m134M1 rfl rfl ?_
  unfold M_slices_partitionEqualOrdered_intM1 at h
  simp only [ZC, A134M1, V134M1]
  obtain ⟨kZ1, hkZ1, h⟩ := bind_s h
  obtain ⟨hkZ1a, hkZ1b⟩ := grd_s hkZ1
  obtain ⟨yZ2, hyZ2, h⟩ := bind_s h
  obtain ⟨kZ3, hkZ3, h⟩ := bind_s h
  obtain ⟨hkZ3a, hkZ3b⟩ := grd_s hkZ3
  obtain ⟨yZ4, hyZ4, h⟩ := bind_s h
  obtain ⟨lZ5, hlZ5, h⟩ := bnd_s h
  have eZ6 : (afZ0.map AV.i).set (aaZ0 + (Int.toNat acZ0)) (.i yZ2) = lZ5.map AV.i := by rw [← hlZ5, List.map_set]
  obtain ⟨yZ7, hyZ7, h⟩ := bind_s h
  obtain ⟨lZ8, hlZ8, h⟩ := bnd_s h
  have eZ9 : (lZ5.map AV.i).set (aaZ0 + (Int.toNat aeZ0)) (.i yZ4) = lZ8.map AV.i := by rw [← hlZ8, List.map_set]
  obtain ⟨oZ39, hoZ39, h⟩ := bind_s h
  try refine ZF (ZA hkZ1a (ZA hkZ1b (ZA hyZ2 (ZA hkZ3a (ZA hkZ3b (ZA hyZ4 (ZA eZ6 (ZA hyZ7 eZ9)))))))) ?_
  refine join_rule0 (blk_rule0 (loop_rule (w_slices_partitionEqualOrdered_intM1L1 aaZ0 abZ0 acZ0) hoZ39 ?_)) ?_
  · exact ZK (ZA S_slices_partitionEqualOrdered_intM1L1.eq_1 (ZA SX_slices_partitionEqualOrdered_intM1L1.eq_1 (ZA hlZ5.symm hlZ8.symm)))
  · simp only [ZC, SX_slices_partitionEqualOrdered_intM1L1, A134M1R6]
    cases h
    exact ZL (ZA hkZ1a (ZA hkZ1b (ZA hyZ2 (ZA hkZ3a (ZA hkZ3b (ZA hyZ4 (ZA eZ6 (ZA hyZ7 eZ9)))))))) V134M1.eq_1
def S_slices_partitionOrdered_intM1L1 (aaZ0 : Nat) (abZ0 : Nat) (acZ0 : Int) (adZ0 : Int) (lZ8 : List Int) (v : Int) : St := ⟨[(0, .sl 1000000000 aaZ0 abZ0), (1, .i acZ0), (10, .i v), (11, .i (IntKind.wrap .i64 (adZ0 - 1)))], [(1000000000, .arr 1 (lZ8.map AV.i))]⟩
def SX_slices_partitionOrdered_intM1L1 (aaZ0 : Nat) (abZ0 : Nat) (acZ0 : Int) (adZ0 : Int) (lZ8 : List Int) (v : Int) : St := ⟨[(0, .sl 1000000000 aaZ0 abZ0), (1, .i acZ0), (10, .i v), (11, .i (IntKind.wrap .i64 (adZ0 - 1)))], [(1000000000, .arr 1 (lZ8.map AV.i))]⟩
theorem w_slices_partitionOrdered_intM1L1 (aaZ0 : Nat) (abZ0 : Nat) (acZ0 : Int) (adZ0 : Int) (lZ8 : List Int) (sZ10 : Int) (o : Int ⊕ Int) (h : M_slices_partitionOrdered_intM1L1 aaZ0 abZ0 acZ0 adZ0 lZ8 sZ10 = some o) : AWP (OkS Try.prog) A135M1L1 (qL [0, 1, 10, 11] [1000000000] (S_slices_partitionOrdered_intM1L1 aaZ0 abZ0 acZ0 adZ0 lZ8) (qX 0 [0, 1, 10, 11] [1000000000] (SX_slices_partitionOrdered_intM1L1 aaZ0 abZ0 acZ0 adZ0 lZ8)) o) (S_slices_partitionOrdered_intM1L1 aaZ0 abZ0 acZ0 adZ0 lZ8 sZ10) := by
  unfold M_slices_partitionOrdered_intM1L1 at h
  simp only [ZC, S_slices_partitionOrdered_intM1L1, A135M1L1]
  obtain ⟨cZ11, h⟩ | ⟨cZ11, h⟩ := cond_s h
  · obtain ⟨kZ12, hkZ12, h⟩ := bind_s h
    obtain ⟨hkZ12a, hkZ12b⟩ := grd_s hkZ12
    obtain ⟨yZ13, hyZ13, h⟩ := bind_s h
    obtain ⟨kZ14, hkZ14, h⟩ := bind_s h
    obtain ⟨hkZ14a, hkZ14b⟩ := grd_s hkZ14
    obtain ⟨yZ15, hyZ15, h⟩ := bind_s h
    obtain ⟨rZ16, hrZ16, h⟩ := bind_s h
    refine ZF (ZA cZ11 (ZA hkZ12a (ZA hkZ12b (ZA hyZ13 (ZA hkZ14a (ZA hkZ14b hyZ15)))))) ?_
    refine ZS (ZA cZ11 (ZA hkZ12a (ZA hkZ12b (ZA hyZ13 (ZA hkZ14a (ZA hkZ14b hyZ15)))))) (w_cmp_Less_int _ _ hrZ16) ?_
    refine ZG ?_
    obtain ⟨cZ17, h⟩ | ⟨cZ17, h⟩ := cond_s h
    · cases h
      exact ZL (ZA cZ11 (ZA hkZ12a (ZA hkZ12b (ZA hyZ13 (ZA hkZ14a (ZA hkZ14b (ZA hyZ15 cZ17))))))) (ZA S_slices_partitionOrdered_intM1L1.eq_1 SX_slices_partitionOrdered_intM1L1.eq_1)
    · cases h
      exact ZL (ZA cZ11 (ZA hkZ12a (ZA hkZ12b (ZA hyZ13 (ZA hkZ14a (ZA hkZ14b (ZA hyZ15 cZ17))))))) (ZA S_slices_partitionOrdered_intM1L1.eq_1 SX_slices_partitionOrdered_intM1L1.eq_1)
  · cases h
    exact ZL cZ11 (ZA S_slices_partitionOrdered_intM1L1.eq_1 SX_slices_partitionOrdered_intM1L1.eq_1)
def S_slices_partitionOrdered_intM1L2 (aaZ0 : Nat) (abZ0 : Nat) (acZ0 : Int) (lZ8 : List Int) (oZ18 : Int) (v : Int) : St := ⟨[(0, .sl 1000000000 aaZ0 abZ0), (1, .i acZ0), (10, .i oZ18), (11, .i v)], [(1000000000, .arr 1 (lZ8.map AV.i))]⟩
def SX_slices_partitionOrdered_intM1L2 (aaZ0 : Nat) (abZ0 : Nat) (acZ0 : Int) (lZ8 : List Int) (oZ18 : Int) (v : Int) : St := ⟨[(0, .sl 1000000000 aaZ0 abZ0), (1, .i acZ0), (10, .i oZ18), (11, .i v)], [(1000000000, .arr 1 (lZ8.map AV.i))]⟩
theorem w_slices_partitionOrdered_intM1L2 (aaZ0 : Nat) (abZ0 : Nat) (acZ0 : Int) (lZ8 : List Int) (oZ18 : Int) (sZ19 : Int) (o : Int ⊕ Int) (h : M_slices_partitionOrdered_intM1L2 aaZ0 abZ0 acZ0 lZ8 oZ18 sZ19 = some o) : AWP (OkS Try.prog) A135M1L3 (qL [0, 1, 10, 11] [1000000000] (S_slices_partitionOrdered_intM1L2 aaZ0 abZ0 acZ0 lZ8 oZ18) (qX 2 [0, 1, 10, 11] [1000000000] (SX_slices_partitionOrdered_intM1L2 aaZ0 abZ0 acZ0 lZ8 oZ18)) o) (S_slices_partitionOrdered_intM1L2 aaZ0 abZ0 acZ0 lZ8 oZ18 sZ19) := by
  unfold M_slices_partitionOrdered_intM1L2 at h
  simp only [ZC, S_slices_partitionOrdered_intM1L2, A135M1L3]
  obtain ⟨cZ20, h⟩ | ⟨cZ20, h⟩ := cond_s h
  · obtain ⟨kZ21, hkZ21, h⟩ := bind_s h
    obtain ⟨hkZ21a, hkZ21b⟩ := grd_s hkZ21
    obtain ⟨yZ22, hyZ22, h⟩ := bind_s h
    obtain ⟨kZ23, hkZ23, h⟩ := bind_s h
    obtain ⟨hkZ23a, hkZ23b⟩ := grd_s hkZ23
    obtain ⟨yZ24, hyZ24, h⟩ := bind_s h
    obtain ⟨rZ25, hrZ25, h⟩ := bind_s h
    refine ZF (ZA cZ20 (ZA hkZ21a (ZA hkZ21b (ZA hyZ22 (ZA hkZ23a (ZA hkZ23b hyZ24)))))) ?_
    refine ZS (ZA cZ20 (ZA hkZ21a (ZA hkZ21b (ZA hyZ22 (ZA hkZ23a (ZA hkZ23b hyZ24)))))) (w_cmp_Less_int _ _ hrZ25) ?_
    refine ZG ?_
    obtain ⟨cZ26, h⟩ | ⟨cZ26, h⟩ := cond_s h
    · cases h
      exact ZL (ZA cZ20 (ZA hkZ21a (ZA hkZ21b (ZA hyZ22 (ZA hkZ23a (ZA hkZ23b (ZA hyZ24 cZ26))))))) (ZA S_slices_partitionOrdered_intM1L2.eq_1 SX_slices_partitionOrdered_intM1L2.eq_1)
    · cases h
      exact ZL (ZA cZ20 (ZA hkZ21a (ZA hkZ21b (ZA hyZ22 (ZA hkZ23a (ZA hkZ23b (ZA hyZ24 cZ26))))))) (ZA S_slices_partitionOrdered_intM1L2.eq_1 SX_slices_partitionOrdered_intM1L2.eq_1)
  · cases h
    exact ZL cZ20 (ZA S_slices_partitionOrdered_intM1L2.eq_1 SX_slices_partitionOrdered_intM1L2.eq_1)
def S_slices_partitionOrdered_intM1L4 (aaZ0 : Nat) (abZ0 : Nat) (acZ0 : Int) (sZ46 : Int × Int × List Int) (v : Int) : St := ⟨[(0, .sl 1000000000 aaZ0 abZ0), (1, .i acZ0), (10, .i v), (11, .i sZ46.2.1)], [(1000000000, .arr 1 (sZ46.2.2.map AV.i))]⟩
def SX_slices_partitionOrdered_intM1L4 (aaZ0 : Nat) (abZ0 : Nat) (acZ0 : Int) (sZ46 : Int × Int × List Int) (v : Int) : St := ⟨[(0, .sl 1000000000 aaZ0 abZ0), (1, .i acZ0), (10, .i v), (11, .i sZ46.2.1)], [(1000000000, .arr 1 (sZ46.2.2.map AV.i))]⟩
theorem w_slices_partitionOrdered_intM1L4 (aaZ0 : Nat) (abZ0 : Nat) (acZ0 : Int) (sZ46 : Int × Int × List Int) (sZ47 : Int) (o : Int ⊕ Int) (h : M_slices_partitionOrdered_intM1L4 aaZ0 abZ0 acZ0 sZ46 sZ47 = some o) : AWP (OkS Try.prog) A135M1L5 (qL [0, 1, 10, 11] [1000000000] (S_slices_partitionOrdered_intM1L4 aaZ0 abZ0 acZ0 sZ46) (qX 6 [0, 1, 10, 11] [1000000000] (SX_slices_partitionOrdered_intM1L4 aaZ0 abZ0 acZ0 sZ46)) o) (S_slices_partitionOrdered_intM1L4 aaZ0 abZ0 acZ0 sZ46 sZ47) := by
  unfold M_slices_partitionOrdered_intM1L4 at h
  simp only [ZC, S_slices_partitionOrdered_intM1L4, A135M1L5]
  obtain ⟨cZ48, h⟩ | ⟨cZ48, h⟩ := cond_s h
  · obtain ⟨kZ49, hkZ49, h⟩ := bind_s h
    obtain ⟨hkZ49a, hkZ49b⟩ := grd_s hkZ49
    obtain ⟨yZ50, hyZ50, h⟩ := bind_s h
    obtain ⟨kZ51, hkZ51, h⟩ := bind_s h
    obtain ⟨hkZ51a, hkZ51b⟩ := grd_s hkZ51
    obtain ⟨yZ52, hyZ52, h⟩ := bind_s h
    obtain ⟨rZ53, hrZ53, h⟩ := bind_s h
    refine ZF (ZA cZ48 (ZA hkZ49a (ZA hkZ49b (ZA hyZ50 (ZA hkZ51a (ZA hkZ51b hyZ52)))))) ?_
    refine ZS (ZA cZ48 (ZA hkZ49a (ZA hkZ49b (ZA hyZ50 (ZA hkZ51a (ZA hkZ51b hyZ52)))))) (w_cmp_Less_int _ _ hrZ53) ?_
    refine ZG ?_
    obtain ⟨cZ54, h⟩ | ⟨cZ54, h⟩ := cond_s h
    · cases h
      exact ZL (ZA cZ48 (ZA hkZ49a (ZA hkZ49b (ZA hyZ50 (ZA hkZ51a (ZA hkZ51b (ZA hyZ52 cZ54))))))) (ZA S_slices_partitionOrdered_intM1L4.eq_1 SX_slices_partitionOrdered_intM1L4.eq_1)
    · cases h
      exact ZL (ZA cZ48 (ZA hkZ49a (ZA hkZ49b (ZA hyZ50 (ZA hkZ51a (ZA hkZ51b (ZA hyZ52 cZ54))))))) (ZA S_slices_partitionOrdered_intM1L4.eq_1 SX_slices_partitionOrdered_intM1L4.eq_1)
  · cases h
    exact ZL cZ48 (ZA S_slices_partitionOrdered_intM1L4.eq_1 SX_slices_partitionOrdered_intM1L4.eq_1)
def S_slices_partitionOrdered_intM1L5 (aaZ0 : Nat) (abZ0 : Nat) (acZ0 : Int) (sZ46 : Int × Int × List Int) (oZ55 : Int) (v : Int) : St := ⟨[(0, .sl 1000000000 aaZ0 abZ0), (1, .i acZ0), (10, .i oZ55), (11, .i v)], [(1000000000, .arr 1 (sZ46.2.2.map AV.i))]⟩
def SX_slices_partitionOrdered_intM1L5 (aaZ0 : Nat) (abZ0 : Nat) (acZ0 : Int) (sZ46 : Int × Int × List Int) (oZ55 : Int) (v : Int) : St := ⟨[(0, .sl 1000000000 aaZ0 abZ0), (1, .i acZ0), (10, .i oZ55), (11, .i v)], [(1000000000, .arr 1 (sZ46.2.2.map AV.i))]⟩
theorem w_slices_partitionOrdered_intM1L5 (aaZ0 : Nat) (abZ0 : Nat) (acZ0 : Int) (sZ46 : Int × Int × List Int) (oZ55 : Int) (sZ56 : Int) (o : Int ⊕ Int) (h : M_slices_partitionOrdered_intM1L5 aaZ0 abZ0 acZ0 sZ46 oZ55 sZ56 = some o) : AWP (OkS Try.prog) A135M1L7 (qL [0, 1, 10, 11] [1000000000] (S_slices_partitionOrdered_intM1L5 aaZ0 abZ0 acZ0 sZ46 oZ55) (qX 8 [0, 1, 10, 11] [1000000000] (SX_slices_partitionOrdered_intM1L5 aaZ0 abZ0 acZ0 sZ46 oZ55)) o) (S_slices_partitionOrdered_intM1L5 aaZ0 abZ0 acZ0 sZ46 oZ55 sZ56) := by
  unfold M_slices_partitionOrdered_intM1L5 at h
  simp only [ZC, S_slices_partitionOrdered_intM1L5, A135M1L7]
  obtain ⟨cZ57, h⟩ | ⟨cZ57, h⟩ := cond_s h
  · obtain ⟨kZ58, hkZ58, h⟩ := bind_s h
    obtain ⟨hkZ58a, hkZ58b⟩ := grd_s hkZ58
    obtain ⟨yZ59, hyZ59, h⟩ := bind_s h
    obtain ⟨kZ60, hkZ60, h⟩ := bind_s h
    obtain ⟨hkZ60a, hkZ60b⟩ := grd_s hkZ60
    obtain ⟨yZ61, hyZ61, h⟩ := bind_s h
    obtain ⟨rZ62, hrZ62, h⟩ := bind_s h
    refine ZF (ZA cZ57 (ZA hkZ58a (ZA hkZ58b (ZA hyZ59 (ZA hkZ60a (ZA hkZ60b hyZ61)))))) ?_
    refine ZS (ZA cZ57 (ZA hkZ58a (ZA hkZ58b (ZA hyZ59 (ZA hkZ60a (ZA hkZ60b hyZ61)))))) (w_cmp_Less_int _ _ hrZ62) ?_
    refine ZG ?_
    obtain ⟨cZ63, h⟩ | ⟨cZ63, h⟩ := cond_s h
    · cases h
      exact ZL (ZA cZ57 (ZA hkZ58a (ZA hkZ58b (ZA hyZ59 (ZA hkZ60a (ZA hkZ60b (ZA hyZ61 cZ63))))))) (ZA S_slices_partitionOrdered_intM1L5.eq_1 SX_slices_partitionOrdered_intM1L5.eq_1)
    · cases h
      exact ZL (ZA cZ57 (ZA hkZ58a (ZA hkZ58b (ZA hyZ59 (ZA hkZ60a (ZA hkZ60b (ZA hyZ61 cZ63))))))) (ZA S_slices_partitionOrdered_intM1L5.eq_1 SX_slices_partitionOrdered_intM1L5.eq_1)
  · cases h
    exact ZL cZ57 (ZA S_slices_partitionOrdered_intM1L5.eq_1 SX_slices_partitionOrdered_intM1L5.eq_1)
def S_slices_partitionOrdered_intM1L3 (aaZ0 : Nat) (abZ0 : Nat) (acZ0 : Int) (v : Int × Int × List Int) : St := ⟨[(0, .sl 1000000000 aaZ0 abZ0), (1, .i acZ0), (10, .i v.1), (11, .i v.2.1)], [(1000000000, .arr 1 (v.2.2.map AV.i))]⟩
def SX_slices_partitionOrdered_intM1L3 (aaZ0 : Nat) (abZ0 : Nat) (acZ0 : Int) (v : Int × List Int) : St := ⟨[(0, .sl 1000000000 aaZ0 abZ0), (1, .i acZ0), (11, .i v.1)], [(1000000000, .arr 1 (v.2.map AV.i))]⟩
theorem w_slices_partitionOrdered_intM1L3 (aaZ0 : Nat) (abZ0 : Nat) (acZ0 : Int) (sZ46 : Int × Int × List Int) (o : (Int × Int × List Int) ⊕ (Int × List Int)) (h : M_slices_partitionOrdered_intM1L3 aaZ0 abZ0 acZ0 sZ46 = some o) : AWP (OkS Try.prog) A135M1L9 (qL [0, 1, 10, 11] [1000000000] (S_slices_partitionOrdered_intM1L3 aaZ0 abZ0 acZ0) (qX 4 [0, 1, 11] [1000000000] (SX_slices_partitionOrdered_intM1L3 aaZ0 abZ0 acZ0)) o) (S_slices_partitionOrdered_intM1L3 aaZ0 abZ0 acZ0 sZ46) := by
  unfold M_slices_partitionOrdered_intM1L3 at h
  simp only [ZC, S_slices_partitionOrdered_intM1L3, A135M1L9]
  obtain ⟨oZ55, hoZ55, h⟩ := bind_s h
  try refine ZF trivial ?_
  refine join_rule0 (blk_rule0 (loop_rule (w_slices_partitionOrdered_intM1L4 aaZ0 abZ0 acZ0 sZ46) hoZ55 ?_)) ?_
  · exact ZK (ZA S_slices_partitionOrdered_intM1L4.eq_1 SX_slices_partitionOrdered_intM1L4.eq_1)
  · simp only [ZC, SX_slices_partitionOrdered_intM1L4, A135M1R6]
    obtain ⟨oZ64, hoZ64, h⟩ := bind_s h
    try refine ZF trivial ?_
    refine join_rule0 (blk_rule0 (loop_rule (w_slices_partitionOrdered_intM1L5 aaZ0 abZ0 acZ0 sZ46 oZ55) hoZ64 ?_)) ?_
    · exact ZK (ZA S_slices_partitionOrdered_intM1L5.eq_1 SX_slices_partitionOrdered_intM1L5.eq_1)
    · simp only [ZC, SX_slices_partitionOrdered_intM1L5, A135M1R8]
      obtain ⟨cZ65, h⟩ | ⟨cZ65, h⟩ := cond_s h
      · cases h
        exact ZL cZ65 (ZA S_slices_partitionOrdered_intM1L3.eq_1 SX_slices_partitionOrdered_intM1L3.eq_1)
      · obtain ⟨kZ66, hkZ66, h⟩ := bind_s h
        obtain ⟨hkZ66a, hkZ66b⟩ := grd_s hkZ66
        obtain ⟨yZ67, hyZ67, h⟩ := bind_s h
        obtain ⟨kZ68, hkZ68, h⟩ := bind_s h
        obtain ⟨hkZ68a, hkZ68b⟩ := grd_s hkZ68
        obtain ⟨yZ69, hyZ69, h⟩ := bind_s h
        obtain ⟨lZ70, hlZ70, h⟩ := bnd_s h
        have eZ71 : (sZ46.2.2.map AV.i).set (aaZ0 + (Int.toNat oZ55)) (.i yZ67) = lZ70.map AV.i := by rw [← hlZ70, List.map_set]
        obtain ⟨yZ72, hyZ72, h⟩ := bind_s h
        obtain ⟨lZ73, hlZ73, h⟩ := bnd_s h
        have eZ74 : (lZ70.map AV.i).set (aaZ0 + (Int.toNat oZ64)) (.i yZ69) = lZ73.map AV.i := by rw [← hlZ73, List.map_set]
        cases h
        exact ZL (ZA cZ65 (ZA hkZ66a (ZA hkZ66b (ZA hyZ67 (ZA hkZ68a (ZA hkZ68b (ZA hyZ69 (ZA eZ71 (ZA hyZ72 eZ74))))))))) (ZA S_slices_partitionOrdered_intM1L3.eq_1 (ZA SX_slices_partitionOrdered_intM1L3.eq_1 (ZA hlZ70.symm hlZ73.symm)))
theorem w_slices_partitionOrdered_intM1 (aaZ0 : Nat) (abZ0 : Nat) (acZ0 : Int) (adZ0 : Int) (aeZ0 : Int) (afZ0 : List Int) {r : Int × Bool × List Int} (h : M_slices_partitionOrdered_intM1 aaZ0 abZ0 acZ0 adZ0 aeZ0 afZ0 = some r) : OkM Try.prog 135 [.sl 1000000000 aaZ0 abZ0, .i acZ0, .i adZ0, .i aeZ0] [(1000000000, .arr 1 (afZ0.map AV.i))] ((fun (r : Int × Bool × List Int) => .tup [.i r.1, .b r.2.1]) r) ((fun (r : Int × Bool × List Int) => [(1000000000, .arr 1 (r.2.2.map AV.i))]) r) := by
  refine okM_of_body (lr := [1000000000]) hmix m135M1 rfl rfl ?_
  unfold M_slices_partitionOrdered_intM1 at h
  simp only [ZC, A135M1, V135M1]
  obtain ⟨kZ1, hkZ1, h⟩ := bind_s h
  obtain ⟨hkZ1a, hkZ1b⟩ := grd_s hkZ1
  obtain ⟨yZ2, hyZ2, h⟩ := bind_s h
  obtain ⟨kZ3, hkZ3, h⟩ := bind_s h
  obtain ⟨hkZ3a, hkZ3b⟩ := grd_s hkZ3
  obtain ⟨yZ4, hyZ4, h⟩ := bind_s h
  obtain ⟨lZ5, hlZ5, h⟩ := bnd_s h
  have eZ6 : (afZ0.map AV.i).set (aaZ0 + (Int.toNat acZ0)) (.i yZ2) = lZ5.map AV.i := by rw [← hlZ5, List.map_set]
  obtain ⟨yZ7, hyZ7, h⟩ := bind_s h
  obtain ⟨lZ8, hlZ8, h⟩ := bnd_s h
  have eZ9 : (lZ5.map AV.i).set (aaZ0 + (Int.toNat aeZ0)) (.i yZ4) = lZ8.map AV.i := by rw [← hlZ8, List.map_set]
  obtain ⟨oZ18, hoZ18, h⟩ := bind_s h
  try refine ZF (ZA hkZ1a (ZA hkZ1b (ZA hyZ2 (ZA hkZ3a (ZA hkZ3b (ZA hyZ4 (ZA eZ6 (ZA hyZ7 eZ9)))))))) ?_
  refine join_rule0 (blk_rule0 (loop_rule (w_slices_partitionOrdered_intM1L1 aaZ0 abZ0 acZ0 adZ0 lZ8) hoZ18 ?_)) ?_
  · exact ZK (ZA S_slices_partitionOrdered_intM1L1.eq_1 (ZA SX_slices_partitionOrdered_intM1L1.eq_1 (ZA hlZ5.symm hlZ8.symm)))
  · simp only [ZC, SX_slices_partitionOrdered_intM1L1, A135M1R2]
    obtain ⟨oZ27, hoZ27, h⟩ := bind_s h
    try refine ZF (ZA hkZ1a (ZA hkZ1b (ZA hyZ2 (ZA hkZ3a (ZA hkZ3b (ZA hyZ4 (ZA eZ6 (ZA hyZ7 eZ9)))))))) ?_
    refine join_rule0 (blk_rule0 (loop_rule (w_slices_partitionOrdered_intM1L2 aaZ0 abZ0 acZ0 lZ8 oZ18) hoZ27 ?_)) ?_
    · exact ZK (ZA S_slices_partitionOrdered_intM1L2.eq_1 SX_slices_partitionOrdered_intM1L2.eq_1)
    · simp only [ZC, SX_slices_partitionOrdered_intM1L2, A135M1R4]
      obtain ⟨cZ28, h⟩ | ⟨cZ28, h⟩ := cond_s h
      · obtain ⟨yZ29, hyZ29, h⟩ := bind_s h
        obtain ⟨kZ30, hkZ30, h⟩ := bind_s h
        obtain ⟨hkZ30a, hkZ30b⟩ := grd_s hkZ30
        obtain ⟨yZ31, hyZ31, h⟩ := bind_s h
        obtain ⟨lZ32, hlZ32, h⟩ := bnd_s h
        have eZ33 : (lZ8.map AV.i).set (aaZ0 + (Int.toNat oZ27)) (.i yZ29) = lZ32.map AV.i := by rw [← hlZ32, List.map_set]
        obtain ⟨yZ34, hyZ34, h⟩ := bind_s h
        obtain ⟨lZ35, hlZ35, h⟩ := bnd_s h
        have eZ36 : (lZ32.map AV.i).set (aaZ0 + (Int.toNat acZ0)) (.i yZ31) = lZ35.map AV.i := by rw [← hlZ35, List.map_set]
        cases h
        exact ZL (ZA hkZ1a (ZA hkZ1b (ZA hyZ2 (ZA hkZ3a (ZA hkZ3b (ZA hyZ4 (ZA eZ6 (ZA hyZ7 (ZA eZ9 (ZA cZ28 (ZA hyZ29 (ZA hkZ30a (ZA hkZ30b (ZA hyZ31 (ZA eZ33 (ZA hyZ34 eZ36)))))))))))))))) (ZA V135M1.eq_1 (ZA hlZ32.symm hlZ35.symm))
      · obtain ⟨kZ37, hkZ37, h⟩ := bind_s h
        obtain ⟨hkZ37a, hkZ37b⟩ := grd_s hkZ37
        obtain ⟨yZ38, hyZ38, h⟩ := bind_s h
        obtain ⟨kZ39, hkZ39, h⟩ := bind_s h
        obtain ⟨hkZ39a, hkZ39b⟩ := grd_s hkZ39
        obtain ⟨yZ40, hyZ40, h⟩ := bind_s h
        obtain ⟨lZ41, hlZ41, h⟩ := bnd_s h
        have eZ42 : (lZ8.map AV.i).set (aaZ0 + (Int.toNat oZ18)) (.i yZ38) = lZ41.map AV.i := by rw [← hlZ41, List.map_set]
        obtain ⟨yZ43, hyZ43, h⟩ := bind_s h
        obtain ⟨lZ44, hlZ44, h⟩ := bnd_s h
        have eZ45 : (lZ41.map AV.i).set (aaZ0 + (Int.toNat oZ27)) (.i yZ40) = lZ44.map AV.i := by rw [← hlZ44, List.map_set]
        obtain ⟨oZ75, hoZ75, h⟩ := bind_s h
        try refine ZF (ZA hkZ1a (ZA hkZ1b (ZA hyZ2 (ZA hkZ3a (ZA hkZ3b (ZA hyZ4 (ZA eZ6 (ZA hyZ7 (ZA eZ9 (ZA cZ28 (ZA hkZ37a (ZA hkZ37b (ZA hyZ38 (ZA hkZ39a (ZA hkZ39b (ZA hyZ40 (ZA eZ42 (ZA hyZ43 eZ45)))))))))))))))))) ?_
        refine join_rule0 (blk_rule0 (loop_rule (w_slices_partitionOrdered_intM1L3 aaZ0 abZ0 acZ0) hoZ75 ?_)) ?_
        · exact ZK (ZA S_slices_partitionOrdered_intM1L3.eq_1 (ZA SX_slices_partitionOrdered_intM1L3.eq_1 (ZA hlZ41.symm hlZ44.symm)))
        · simp only [ZC, SX_slices_partitionOrdered_intM1L3, A135M1R10]
          obtain ⟨yZ76, hyZ76, h⟩ := bind_s h
          obtain ⟨kZ77, hkZ77, h⟩ := bind_s h
          obtain ⟨hkZ77a, hkZ77b⟩ := grd_s hkZ77
          obtain ⟨yZ78, hyZ78, h⟩ := bind_s h
          obtain ⟨lZ79, hlZ79, h⟩ := bnd_s h
          have eZ80 : (oZ75.2.map AV.i).set (aaZ0 + (Int.toNat oZ75.1)) (.i yZ76) = lZ79.map AV.i := by rw [← hlZ79, List.map_set]
          obtain ⟨yZ81, hyZ81, h⟩ := bind_s h
          obtain ⟨lZ82, hlZ82, h⟩ := bnd_s h
          have eZ83 : (lZ79.map AV.i).set (aaZ0 + (Int.toNat acZ0)) (.i yZ78) = lZ82.map AV.i := by rw [← hlZ82, List.map_set]
          cases h
          exact ZL (ZA hkZ1a (ZA hkZ1b (ZA hyZ2 (ZA hkZ3a (ZA hkZ3b (ZA hyZ4 (ZA eZ6 (ZA hyZ7 (ZA eZ9 (ZA cZ28 (ZA hkZ37a (ZA hkZ37b (ZA hyZ38 (ZA hkZ39a (ZA hkZ39b (ZA hyZ40 (ZA eZ42 (ZA hyZ43 (ZA eZ45 (ZA hyZ76 (ZA hkZ77a (ZA hkZ77b (ZA hyZ78 (ZA eZ80 (ZA hyZ81 eZ83))))))))))))))))))))))))) (ZA V135M1.eq_1 (ZA hlZ79.symm hlZ82.symm))
def S_slices_insertionSortOrdered_intM2L2 (aaZ0 : Nat) (abZ0 : Nat) (acZ0 : Int) (adZ0 : Int) (sZ1 : Int × List Int) (v : Int × List Int) : St := ⟨[(0, .sl 1000000000 aaZ0 abZ0), (1, .i acZ0), (2, .i adZ0), (6, .i sZ1.1), (7, .i v.1)], [(1000000000, .arr 1 (v.2.map AV.i))]⟩
def SX_slices_insertionSortOrdered_intM2L2 (aaZ0 : Nat) (abZ0 : Nat) (acZ0 : Int) (adZ0 : Int) (sZ1 : Int × List Int) (v : List Int) : St := ⟨[(0, .sl 1000000000 aaZ0 abZ0), (1, .i acZ0), (2, .i adZ0), (6, .i sZ1.1)], [(1000000000, .arr 1 (v.map AV.i))]⟩
theorem w_slices_insertionSortOrdered_intM2L2 (aaZ0 : Nat) (abZ0 : Nat) (acZ0 : Int) (adZ0 : Int) (sZ1 : Int × List Int) (sZ3 : Int × List Int) (o : (Int × List Int) ⊕ (List Int)) (h : M_slices_insertionSortOrdered_intM2L2 aaZ0 abZ0 acZ0 sZ3 = some o) : AWP (OkS Try.prog) A127M2L2 (qL [0, 1, 2, 6, 7] [1000000000] (S_slices_insertionSortOrdered_intM2L2 aaZ0 abZ0 acZ0 adZ0 sZ1) (qX 2 [0, 1, 2, 6] [1000000000] (SX_slices_insertionSortOrdered_intM2L2 aaZ0 abZ0 acZ0 adZ0 sZ1)) o) (S_slices_insertionSortOrdered_intM2L2 aaZ0 abZ0 acZ0 adZ0 sZ1 sZ3) := by
  unfold M_slices_insertionSortOrdered_intM2L2 at h
  simp only [ZC, S_slices_insertionSortOrdered_intM2L2, A127M2L2]
  obtain ⟨oZ10, hoZ10, h⟩ := bind_s h
  try refine ZF trivial ?_
  refine join_rule0 (sh := (fun v => ⟨[(0, .sl 1000000000 aaZ0 abZ0), (1, .i acZ0), (2, .i adZ0), (6, .i sZ1.1), (7, .i sZ3.1), (30, .b v)], [(1000000000, .arr 1 (sZ3.2.map AV.i))]⟩)) (s := oZ10) ?_ ?_
  · replace h := hoZ10
    obtain ⟨cZ4, h⟩ | ⟨cZ4, h⟩ := cond_s h
    · obtain ⟨kZ5, hkZ5, h⟩ := bind_s h
      obtain ⟨hkZ5a, hkZ5b⟩ := grd_s hkZ5
      obtain ⟨yZ6, hyZ6, h⟩ := bind_s h
      obtain ⟨kZ7, hkZ7, h⟩ := bind_s h
      obtain ⟨hkZ7a, hkZ7b⟩ := grd_s hkZ7
      obtain ⟨yZ8, hyZ8, h⟩ := bind_s h
      obtain ⟨rZ9, hrZ9, h⟩ := bind_s h
      refine ZF (ZA cZ4 (ZA hkZ5a (ZA hkZ5b (ZA hyZ6 (ZA hkZ7a (ZA hkZ7b hyZ8)))))) ?_
      refine ZS (ZA cZ4 (ZA hkZ5a (ZA hkZ5b (ZA hyZ6 (ZA hkZ7a (ZA hkZ7b hyZ8)))))) (w_cmp_Less_int _ _ hrZ9) ?_
      refine ZG ?_
      cases h
      exact ZL (ZA cZ4 (ZA hkZ5a (ZA hkZ5b (ZA hyZ6 (ZA hkZ7a (ZA hkZ7b hyZ8)))))) trivial
    · cases h
      exact ZL cZ4 trivial
  · simp only [ZC, A127M2R1]
    obtain ⟨cZ11, h⟩ | ⟨cZ11, h⟩ := cond_s h
    · obtain ⟨kZ12, hkZ12, h⟩ := bind_s h
      obtain ⟨hkZ12a, hkZ12b⟩ := grd_s hkZ12
      obtain ⟨yZ13, hyZ13, h⟩ := bind_s h
      obtain ⟨kZ14, hkZ14, h⟩ := bind_s h
      obtain ⟨hkZ14a, hkZ14b⟩ := grd_s hkZ14
      obtain ⟨yZ15, hyZ15, h⟩ := bind_s h
      obtain ⟨lZ16, hlZ16, h⟩ := bnd_s h
      have eZ17 : (sZ3.2.map AV.i).set (aaZ0 + (Int.toNat sZ3.1)) (.i yZ13) = lZ16.map AV.i := by rw [← hlZ16, List.map_set]
      obtain ⟨yZ18, hyZ18, h⟩ := bind_s h
      obtain ⟨lZ19, hlZ19, h⟩ := bnd_s h
      have eZ20 : (lZ16.map AV.i).set (aaZ0 + (Int.toNat (IntKind.wrap .i64 (sZ3.1 - 1)))) (.i yZ15) = lZ19.map AV.i := by rw [← hlZ19, List.map_set]
      cases h
      exact ZL (ZA cZ11 (ZA hkZ12a (ZA hkZ12b (ZA hyZ13 (ZA hkZ14a (ZA hkZ14b (ZA hyZ15 (ZA eZ17 (ZA hyZ18 eZ20))))))))) (ZA S_slices_insertionSortOrdered_intM2L2.eq_1 (ZA SX_slices_insertionSortOrdered_intM2L2.eq_1 (ZA hlZ16.symm hlZ19.symm)))
    · cases h
      exact ZL cZ11 (ZA S_slices_insertionSortOrdered_intM2L2.eq_1 SX_slices_insertionSortOrdered_intM2L2.eq_1)
def S_slices_insertionSortOrdered_intM2L1 (aaZ0 : Nat) (abZ0 : Nat) (acZ0 : Int) (adZ0 : Int) (v : Int × List Int) : St := ⟨[(0, .sl 1000000000 aaZ0 abZ0), (1, .i acZ0), (2, .i adZ0), (6, .i v.1)], [(1000000000, .arr 1 (v.2.map AV.i))]⟩
def SX_slices_insertionSortOrdered_intM2L1 (v : List Int) : St := ⟨[], [(1000000000, .arr 1 (v.map AV.i))]⟩
theorem w_slices_insertionSortOrdered_intM2L1 (aaZ0 : Nat) (abZ0 : Nat) (acZ0 : Int) (adZ0 : Int) (sZ1 : Int × List Int) (o : (Int × List Int) ⊕ (List Int)) (h : M_slices_insertionSortOrdered_intM2L1 aaZ0 abZ0 acZ0 adZ0 sZ1 = some o) : AWP (OkS Try.prog) A127M2L4 (qL [0, 1, 2, 6] [1000000000] (S_slices_insertionSortOrdered_intM2L1 aaZ0 abZ0 acZ0 adZ0) (qX 0 [] [1000000000] (SX_slices_insertionSortOrdered_intM2L1)) o) (S_slices_insertionSortOrdered_intM2L1 aaZ0 abZ0 acZ0 adZ0 sZ1) := by
  unfold M_slices_insertionSortOrdered_intM2L1 at h
  simp only [ZC, S_slices_insertionSortOrdered_intM2L1, A127M2L4]
  obtain ⟨cZ2, h⟩ | ⟨cZ2, h⟩ := cond_s h
  · obtain ⟨oZ23, hoZ23, h⟩ := bind_s h
    try refine ZF cZ2 ?_
    refine join_rule0 (sh := (fun v => ⟨[(0, .sl 1000000000 aaZ0 abZ0), (1, .i acZ0), (2, .i adZ0), (6, .i sZ1.1)], [(1000000000, .arr 1 (v.map AV.i))]⟩)) (s := oZ23) ?_ ?_
    · replace h := hoZ23
      obtain ⟨oZ21, hoZ21, h⟩ := bind_s h
      try refine ZF cZ2 ?_
      first | refine tail_rule0 (blk_rule0 (loop_rule (w_slices_insertionSortOrdered_intM2L2 aaZ0 abZ0 acZ0 adZ0 sZ1) hoZ21 ?_)) (fun τ qZ22 => ?_) | refine tail_blk0 (loop_rule (w_slices_insertionSortOrdered_intM2L2 aaZ0 abZ0 acZ0 adZ0 sZ1) hoZ21 ?_) (fun τ qZ22 => ?_)
      · exact ZK (ZA S_slices_insertionSortOrdered_intM2L2.eq_1 SX_slices_insertionSortOrdered_intM2L2.eq_1)
      · cases h
        try refine ZF trivial ?_
        refine ⟨rfl, Shp.sub qZ22 (by decide) (by decide) ?_⟩
        exact ZK SX_slices_insertionSortOrdered_intM2L2.eq_1
    · simp only [ZC, A127M2R3]
      cases h
      exact ZL cZ2 (ZA S_slices_insertionSortOrdered_intM2L1.eq_1 SX_slices_insertionSortOrdered_intM2L1.eq_1)
  · cases h
    exact ZL cZ2 (ZA S_slices_insertionSortOrdered_intM2L1.eq_1 SX_slices_insertionSortOrdered_intM2L1.eq_1)
theorem w_slices_insertionSortOrdered_intM2 (aaZ0 : Nat) (abZ0 : Nat) (acZ0 : Int) (adZ0 : Int) (aeZ0 : List Int) {r : List Int} (h : M_slices_insertionSortOrdered_intM2 aaZ0 abZ0 acZ0 adZ0 aeZ0 = some r) : OkM Try.prog 127 [.sl 1000000000 aaZ0 abZ0, .i acZ0, .i adZ0] [(1000000000, .arr 1 (aeZ0.map AV.i))] ((fun (r : List Int) => .tup []) r) ((fun (r : List Int) => [(1000000000, .arr 1 (r.map AV.i))]) r) := by
  refine okM_of_body (lr := [1000000000]) hmix m127M2 rfl rfl ?_
  unfold M_slices_insertionSortOrdered_intM2 at h
  simp only [ZC, A127M2, V127M2]
  obtain ⟨oZ24, hoZ24, h⟩ := bind_s h
  try refine ZF trivial ?_
  first | refine tail_rule0 (blk_rule0 (loop_rule (w_slices_insertionSortOrdered_intM2L1 aaZ0 abZ0 acZ0 adZ0) hoZ24 ?_)) (fun τ qZ25 => ?_) | refine tail_blk0 (loop_rule (w_slices_insertionSortOrdered_intM2L1 aaZ0 abZ0 acZ0 adZ0) hoZ24 ?_) (fun τ qZ25 => ?_)
  · exact ZK (ZA S_slices_insertionSortOrdered_intM2L1.eq_1 SX_slices_insertionSortOrdered_intM2L1.eq_1)
  · cases h
    refine finM_shp qZ25 (by decide) ?_ rfl
    exact ZK (ZA V127M2.eq_1 SX_slices_insertionSortOrdered_intM2L1.eq_1)
def S_slices_heapSortOrdered_intM2L1 (aaZ0 : Nat) (abZ0 : Nat) (acZ0 : Int) (adZ0 : Int) (v : Int × List Int) : St := ⟨[(0, .sl 1000000000 aaZ0 abZ0), (6, .i acZ0), (7, .i 0), (8, .i (IntKind.wrap .i64 (adZ0 - acZ0))), (9, .i v.1)], [(1000000000, .arr 1 (v.2.map AV.i))]⟩
def SX_slices_heapSortOrdered_intM2L1 (aaZ0 : Nat) (abZ0 : Nat) (acZ0 : Int) (adZ0 : Int) (v : List Int) : St := ⟨[(0, .sl 1000000000 aaZ0 abZ0), (6, .i acZ0), (7, .i 0), (8, .i (IntKind.wrap .i64 (adZ0 - acZ0)))], [(1000000000, .arr 1 (v.map AV.i))]⟩
theorem w_slices_heapSortOrdered_intM2L1 (aaZ0 : Nat) (abZ0 : Nat) (acZ0 : Int) (adZ0 : Int) (sZ2 : Int × List Int) (o : (Int × List Int) ⊕ (List Int)) (h : M_slices_heapSortOrdered_intM2L1 aaZ0 abZ0 acZ0 adZ0 sZ2 = some o) : AWP (OkS Try.prog) A128M2L1 (qL [0, 6, 7, 8, 9] [1000000000] (S_slices_heapSortOrdered_intM2L1 aaZ0 abZ0 acZ0 adZ0) (qX 0 [0, 6, 7, 8] [1000000000] (SX_slices_heapSortOrdered_intM2L1 aaZ0 abZ0 acZ0 adZ0)) o) (S_slices_heapSortOrdered_intM2L1 aaZ0 abZ0 acZ0 adZ0 sZ2) := by
  unfold M_slices_heapSortOrdered_intM2L1 at h
  simp only [ZC, S_slices_heapSortOrdered_intM2L1, A128M2L1]
  obtain ⟨cZ3, h⟩ | ⟨cZ3, h⟩ := cond_s h
  · obtain ⟨rZ4, hrZ4, h⟩ := bind_s h
    refine ZF cZ3 ?_
    refine ZW cZ3 (w_slices_siftDownOrdered_intM2 _ _ _ _ _ _ hrZ4) (h2 := by first | exact nm_ok [1000000000] rfl (by decide +kernel) | exact nm_ok2 [1000000000] [] rfl (by decide +kernel) ZQ | exact ZQ) (hk := ?_)
    refine ZG ?_
    cases h
    exact ZL cZ3 (ZA S_slices_heapSortOrdered_intM2L1.eq_1 SX_slices_heapSortOrdered_intM2L1.eq_1)
  · cases h
    exact ZL cZ3 (ZA S_slices_heapSortOrdered_intM2L1.eq_1 SX_slices_heapSortOrdered_intM2L1.eq_1)
def S_slices_heapSortOrdered_intM2L2 (aaZ0 : Nat) (abZ0 : Nat) (acZ0 : Int) (v : Int × List Int) : St := ⟨[(0, .sl 1000000000 aaZ0 abZ0), (6, .i acZ0), (7, .i 0), (10, .i v.1)], [(1000000000, .arr 1 (v.2.map AV.i))]⟩
def SX_slices_heapSortOrdered_intM2L2 (v : List Int) : St := ⟨[], [(1000000000, .arr 1 (v.map AV.i))]⟩
theorem w_slices_heapSortOrdered_intM2L2 (aaZ0 : Nat) (abZ0 : Nat) (acZ0 : Int) (sZ6 : Int × List Int) (o : (Int × List Int) ⊕ (List Int)) (h : M_slices_heapSortOrdered_intM2L2 aaZ0 abZ0 acZ0 sZ6 = some o) : AWP (OkS Try.prog) A128M2L3 (qL [0, 6, 7, 10] [1000000000] (S_slices_heapSortOrdered_intM2L2 aaZ0 abZ0 acZ0) (qX 2 [] [1000000000] (SX_slices_heapSortOrdered_intM2L2)) o) (S_slices_heapSortOrdered_intM2L2 aaZ0 abZ0 acZ0 sZ6) := by
  unfold M_slices_heapSortOrdered_intM2L2 at h
  simp only [ZC, S_slices_heapSortOrdered_intM2L2, A128M2L3]
  obtain ⟨cZ7, h⟩ | ⟨cZ7, h⟩ := cond_s h
  · obtain ⟨kZ8, hkZ8, h⟩ := bind_s h
    obtain ⟨hkZ8a, hkZ8b⟩ := grd_s hkZ8
    obtain ⟨yZ9, hyZ9, h⟩ := bind_s h
    obtain ⟨kZ10, hkZ10, h⟩ := bind_s h
    obtain ⟨hkZ10a, hkZ10b⟩ := grd_s hkZ10
    obtain ⟨yZ11, hyZ11, h⟩ := bind_s h
    obtain ⟨lZ12, hlZ12, h⟩ := bnd_s h
    have eZ13 : (sZ6.2.map AV.i).set (aaZ0 + (Int.toNat acZ0)) (.i yZ9) = lZ12.map AV.i := by rw [← hlZ12, List.map_set]
    obtain ⟨yZ14, hyZ14, h⟩ := bind_s h
    obtain ⟨lZ15, hlZ15, h⟩ := bnd_s h
    have eZ16 : (lZ12.map AV.i).set (aaZ0 + (Int.toNat (IntKind.wrap .i64 (acZ0 + sZ6.1)))) (.i yZ11) = lZ15.map AV.i := by rw [← hlZ15, List.map_set]
    obtain ⟨rZ17, hrZ17, h⟩ := bind_s h
    refine ZF (ZA cZ7 (ZA hkZ8a (ZA hkZ8b (ZA hyZ9 (ZA hkZ10a (ZA hkZ10b (ZA hyZ11 (ZA eZ13 (ZA hyZ14 eZ16))))))))) ?_
    refine ZW (ZA cZ7 (ZA hkZ8a (ZA hkZ8b (ZA hyZ9 (ZA hkZ10a (ZA hkZ10b (ZA hyZ11 (ZA eZ13 (ZA hyZ14 eZ16))))))))) (w_slices_siftDownOrdered_intM2 _ _ _ _ _ _ hrZ17) (h2 := by first | exact nm_ok [1000000000] rfl (by decide +kernel) | exact nm_ok2 [1000000000] [] rfl (by decide +kernel) ZQ | exact ZQ) (hk := ?_)
    refine ZG ?_
    cases h
    exact ZL (ZA cZ7 (ZA hkZ8a (ZA hkZ8b (ZA hyZ9 (ZA hkZ10a (ZA hkZ10b (ZA hyZ11 (ZA eZ13 (ZA hyZ14 eZ16))))))))) (ZA S_slices_heapSortOrdered_intM2L2.eq_1 (ZA SX_slices_heapSortOrdered_intM2L2.eq_1 (ZA hlZ12.symm hlZ15.symm)))
  · cases h
    exact ZL cZ7 (ZA S_slices_heapSortOrdered_intM2L2.eq_1 SX_slices_heapSortOrdered_intM2L2.eq_1)
theorem w_slices_heapSortOrdered_intM2 (aaZ0 : Nat) (abZ0 : Nat) (acZ0 : Int) (adZ0 : Int) (aeZ0 : List Int) {r : List Int} (h : M_slices_heapSortOrdered_intM2 aaZ0 abZ0 acZ0 adZ0 aeZ0 = some r) : OkM Try.prog 128 [.sl 1000000000 aaZ0 abZ0, .i acZ0, .i adZ0] [(1000000000, .arr 1 (aeZ0.map AV.i))] ((fun (r : List Int) => .tup []) r) ((fun (r : List Int) => [(1000000000, .arr 1 (r.map AV.i))]) r) := by
  refine okM_of_body (lr := [1000000000]) hmix m128M2 rfl rfl ?_
  unfold M_slices_heapSortOrdered_intM2 at h
  simp only [ZC, A128M2, V128M2]
  obtain ⟨uZ1, huZ1, h⟩ := bind_s h
  have huZ1g := grd_s huZ1
  obtain ⟨oZ5, hoZ5, h⟩ := bind_s h
  try refine ZF huZ1g ?_
  refine join_rule0 (blk_rule0 (loop_rule (w_slices_heapSortOrdered_intM2L1 aaZ0 abZ0 acZ0 adZ0) hoZ5 ?_)) ?_
  · exact ZK (ZA S_slices_heapSortOrdered_intM2L1.eq_1 SX_slices_heapSortOrdered_intM2L1.eq_1)
  · simp only [ZC, SX_slices_heapSortOrdered_intM2L1, A128M2R2]
    obtain ⟨oZ18, hoZ18, h⟩ := bind_s h
    try refine ZF huZ1g ?_
    first | refine tail_rule0 (blk_rule0 (loop_rule (w_slices_heapSortOrdered_intM2L2 aaZ0 abZ0 acZ0) hoZ18 ?_)) (fun τ qZ19 => ?_) | refine tail_blk0 (loop_rule (w_slices_heapSortOrdered_intM2L2 aaZ0 abZ0 acZ0) hoZ18 ?_) (fun τ qZ19 => ?_)
    · exact ZK (ZA S_slices_heapSortOrdered_intM2L2.eq_1 SX_slices_heapSortOrdered_intM2L2.eq_1)
    · cases h
      refine finM_shp qZ19 (by decide) ?_ rfl
      exact ZK (ZA V128M2.eq_1 SX_slices_heapSortOrdered_intM2L2.eq_1)
def S_slices_reverseRangeOrdered_intM2L1 (aaZ0 : Nat) (abZ0 : Nat) (v : Int × Int × List Int) : St := ⟨[(0, .sl 1000000000 aaZ0 abZ0), (6, .i v.1), (7, .i v.2.1)], [(1000000000, .arr 1 (v.2.2.map AV.i))]⟩
def SX_slices_reverseRangeOrdered_intM2L1 (v : List Int) : St := ⟨[], [(1000000000, .arr 1 (v.map AV.i))]⟩
theorem w_slices_reverseRangeOrdered_intM2L1 (aaZ0 : Nat) (abZ0 : Nat) (sZ1 : Int × Int × List Int) (o : (Int × Int × List Int) ⊕ (List Int)) (h : M_slices_reverseRangeOrdered_intM2L1 aaZ0 abZ0 sZ1 = some o) : AWP (OkS Try.prog) A131M2L1 (qL [0, 6, 7] [1000000000] (S_slices_reverseRangeOrdered_intM2L1 aaZ0 abZ0) (qX 0 [] [1000000000] (SX_slices_reverseRangeOrdered_intM2L1)) o) (S_slices_reverseRangeOrdered_intM2L1 aaZ0 abZ0 sZ1) := by
  unfold M_slices_reverseRangeOrdered_intM2L1 at h
  simp only [ZC, S_slices_reverseRangeOrdered_intM2L1, A131M2L1]
  obtain ⟨cZ2, h⟩ | ⟨cZ2, h⟩ := cond_s h
  · obtain ⟨kZ3, hkZ3, h⟩ := bind_s h
    obtain ⟨hkZ3a, hkZ3b⟩ := grd_s hkZ3
    obtain ⟨yZ4, hyZ4, h⟩ := bind_s h
    obtain ⟨kZ5, hkZ5, h⟩ := bind_s h
    obtain ⟨hkZ5a, hkZ5b⟩ := grd_s hkZ5
    obtain ⟨yZ6, hyZ6, h⟩ := bind_s h
    obtain ⟨lZ7, hlZ7, h⟩ := bnd_s h
    have eZ8 : (sZ1.2.2.map AV.i).set (aaZ0 + (Int.toNat sZ1.1)) (.i yZ4) = lZ7.map AV.i := by rw [← hlZ7, List.map_set]
    obtain ⟨yZ9, hyZ9, h⟩ := bind_s h
    obtain ⟨lZ10, hlZ10, h⟩ := bnd_s h
    have eZ11 : (lZ7.map AV.i).set (aaZ0 + (Int.toNat sZ1.2.1)) (.i yZ6) = lZ10.map AV.i := by rw [← hlZ10, List.map_set]
    cases h
    exact ZL (ZA cZ2 (ZA hkZ3a (ZA hkZ3b (ZA hyZ4 (ZA hkZ5a (ZA hkZ5b (ZA hyZ6 (ZA eZ8 (ZA hyZ9 eZ11))))))))) (ZA S_slices_reverseRangeOrdered_intM2L1.eq_1 (ZA SX_slices_reverseRangeOrdered_intM2L1.eq_1 (ZA hlZ7.symm hlZ10.symm)))
  · cases h
    exact ZL cZ2 (ZA S_slices_reverseRangeOrdered_intM2L1.eq_1 SX_slices_reverseRangeOrdered_intM2L1.eq_1)
theorem w_slices_reverseRangeOrdered_intM2 (aaZ0 : Nat) (abZ0 : Nat) (acZ0 : Int) (adZ0 : Int) (aeZ0 : List Int) {r : List Int} (h : M_slices_reverseRangeOrdered_intM2 aaZ0 abZ0 acZ0 adZ0 aeZ0 = some r) : OkM Try.prog 131 [.sl 1000000000 aaZ0 abZ0, .i acZ0, .i adZ0] [(1000000000, .arr 1 (aeZ0.map AV.i))] ((fun (r : List Int) => .tup []) r) ((fun (r : List Int) => [(1000000000, .arr 1 (r.map AV.i))]) r) := by
  refine okM_of_body (lr := [1000000000]) hmix m131M2 rfl rfl ?_
  unfold M_slices_reverseRangeOrdered_intM2 at h
  simp only [ZC, A131M2, V131M2]
  obtain ⟨oZ12, hoZ12, h⟩ := bind_s h
  try refine ZF trivial ?_
  first | refine tail_rule0 (blk_rule0 (loop_rule (w_slices_reverseRangeOrdered_intM2L1 aaZ0 abZ0) hoZ12 ?_)) (fun τ qZ13 => ?_) | refine tail_blk0 (loop_rule (w_slices_reverseRangeOrdered_intM2L1 aaZ0 abZ0) hoZ12 ?_) (fun τ qZ13 => ?_)
  · exact ZK (ZA S_slices_reverseRangeOrdered_intM2L1.eq_1 SX_slices_reverseRangeOrdered_intM2L1.eq_1)
  · cases h
    refine finM_shp qZ13 (by decide) ?_ rfl
    exact ZK (ZA V131M2.eq_1 SX_slices_reverseRangeOrdered_intM2L1.eq_1)
theorem w_slices_nextPowerOfTwo (lengthZ0 : Int) {r : Int} (h : M_slices_nextPowerOfTwo lengthZ0 = some r) : Ok Try.prog 145 [.i lengthZ0] ((fun r => .sc (.int .u64 r)) r) := by
  refine ok_of_body hmix m145 rfl ?_
  unfold M_slices_nextPowerOfTwo at h
  simp only [ZC, A145, V145, body_eq]
  obtain ⟨rZ1, hrZ1, h⟩ := bind_s h
  refine ZF trivial ?_
  refine ZS trivial (w_math_bits_Len _ hrZ1) ?_
  refine ZG ?_
  obtain ⟨uZ2, huZ2, h⟩ := bind_s h
  have huZ2g := grd_s huZ2
  cases h
  exact ZL huZ2g V145.eq_1
theorem w_slices_xorshift_NextM1 (aaZ0 : Int) {r : Int × Int} (h : M_slices_xorshift_NextM1 aaZ0 = some r) : OkM Try.prog 146 [.pt 1000000000 0 0] [(1000000000, .var (.sc (.int .u64 aaZ0)))] ((fun (r : Int × Int) => .sc (.int .u64 r.1)) r) ((fun (r : Int × Int) => [(1000000000, .var (.sc (.int .u64 r.2)))]) r) := by
  refine okM_of_body (lr := [1000000000]) hmix m146M1 rfl rfl ?_
  unfold M_slices_xorshift_NextM1 at h
  simp only [ZC, A146M1, V146M1]
  cases h
  exact ZL trivial V146M1.eq_1
def S_slices_breakPatternsOrdered_intM1L1 (aaZ0 : Nat) (abZ0 : Nat) (acZ0 : Int) (adZ0 : Int) (rZ2 : Int) (v : Int × Int × List Int) : St := ⟨[(0, .sl 1000000000 aaZ0 abZ0), (1, .i acZ0), (6, .i (IntKind.wrap .i64 (adZ0 - acZ0))), (7, .pt 7 0 0), (8, .sc (.int .u64 rZ2)), (9, .i v.1)], [(7, .var (.sc (.int .u64 v.2.1))), (1000000000, .arr 1 (v.2.2.map AV.i))]⟩
def SX_slices_breakPatternsOrdered_intM1L1 (v : List Int) : St := ⟨[], [(1000000000, .arr 1 (v.map AV.i))]⟩
theorem w_slices_breakPatternsOrdered_intM1L1 (aaZ0 : Nat) (abZ0 : Nat) (acZ0 : Int) (adZ0 : Int) (rZ2 : Int) (sZ4 : Int × Int × List Int) (o : (Int × Int × List Int) ⊕ (List Int)) (h : M_slices_breakPatternsOrdered_intM1L1 aaZ0 abZ0 acZ0 adZ0 rZ2 sZ4 = some o) : AWP (OkS Try.prog) A129M1L2 (qL [0, 1, 6, 7, 8, 9] [7, 1000000000] (S_slices_breakPatternsOrdered_intM1L1 aaZ0 abZ0 acZ0 adZ0 rZ2) (qX 0 [] [1000000000] (SX_slices_breakPatternsOrdered_intM1L1)) o) (S_slices_breakPatternsOrdered_intM1L1 aaZ0 abZ0 acZ0 adZ0 rZ2 sZ4) := by
  unfold M_slices_breakPatternsOrdered_intM1L1 at h
  simp only [ZC, S_slices_breakPatternsOrdered_intM1L1, A129M1L2]
  obtain ⟨uZ5, huZ5, h⟩ := bind_s h
  have huZ5g := grd_s huZ5
  obtain ⟨cZ6, h⟩ | ⟨cZ6, h⟩ := cond_s h
  · obtain ⟨rZ7, hrZ7, h⟩ := bind_s h
    refine ZF (ZA huZ5g cZ6) ?_
    refine ZW (ZA huZ5g cZ6) (w_slices_xorshift_NextM1 _ hrZ7) (h2 := by first | exact nm_ok [1000000000] rfl (by decide +kernel) | exact nm_ok2 [1000000000] [] rfl (by decide +kernel) ZQ | exact ZQ) (hk := ?_)
    refine ZG ?_
    obtain ⟨oZ9, hoZ9, h⟩ := bind_s h
    try refine ZF (ZA huZ5g cZ6) ?_
    refine join_rule0 (sh := (fun v => ⟨[(0, .sl 1000000000 aaZ0 abZ0), (1, .i acZ0), (6, .i (IntKind.wrap .i64 (adZ0 - acZ0))), (7, .pt 7 0 0), (8, .sc (.int .u64 rZ2)), (9, .i sZ4.1), (10, .i v)], [(7, .var (.sc (.int .u64 rZ7.2))), (1000000000, .arr 1 (sZ4.2.2.map AV.i))]⟩)) (s := oZ9) ?_ ?_
    · replace h := hoZ9
      obtain ⟨cZ8, h⟩ | ⟨cZ8, h⟩ := cond_s h
      · cases h
        exact ZL (ZA huZ5g (ZA cZ6 cZ8)) trivial
      · cases h
        exact ZL (ZA huZ5g (ZA cZ6 cZ8)) trivial
    · simp only [ZC, A129M1R1]
      obtain ⟨kZ10, hkZ10, h⟩ := bind_s h
      obtain ⟨hkZ10a, hkZ10b⟩ := grd_s hkZ10
      obtain ⟨yZ11, hyZ11, h⟩ := bind_s h
      obtain ⟨kZ12, hkZ12, h⟩ := bind_s h
      obtain ⟨hkZ12a, hkZ12b⟩ := grd_s hkZ12
      obtain ⟨yZ13, hyZ13, h⟩ := bind_s h
      obtain ⟨lZ14, hlZ14, h⟩ := bnd_s h
      have eZ15 : (sZ4.2.2.map AV.i).set (aaZ0 + (Int.toNat sZ4.1)) (.i yZ11) = lZ14.map AV.i := by rw [← hlZ14, List.map_set]
      obtain ⟨yZ16, hyZ16, h⟩ := bind_s h
      obtain ⟨lZ17, hlZ17, h⟩ := bnd_s h
      have eZ18 : (lZ14.map AV.i).set (aaZ0 + (Int.toNat (IntKind.wrap .i64 (acZ0 + oZ9)))) (.i yZ13) = lZ17.map AV.i := by rw [← hlZ17, List.map_set]
      cases h
      exact ZL (ZA huZ5g (ZA cZ6 (ZA hkZ10a (ZA hkZ10b (ZA hyZ11 (ZA hkZ12a (ZA hkZ12b (ZA hyZ13 (ZA eZ15 (ZA hyZ16 eZ18)))))))))) (ZA S_slices_breakPatternsOrdered_intM1L1.eq_1 (ZA SX_slices_breakPatternsOrdered_intM1L1.eq_1 (ZA hlZ14.symm hlZ17.symm)))
  · cases h
    exact ZL (ZA huZ5g cZ6) (ZA S_slices_breakPatternsOrdered_intM1L1.eq_1 SX_slices_breakPatternsOrdered_intM1L1.eq_1)
theorem w_slices_breakPatternsOrdered_intM1 (aaZ0 : Nat) (abZ0 : Nat) (acZ0 : Int) (adZ0 : Int) (aeZ0 : List Int) {r : List Int} (h : M_slices_breakPatternsOrdered_intM1 aaZ0 abZ0 acZ0 adZ0 aeZ0 = some r) : OkM Try.prog 129 [.sl 1000000000 aaZ0 abZ0, .i acZ0, .i adZ0] [(1000000000, .arr 1 (aeZ0.map AV.i))] ((fun (r : List Int) => .tup []) r) ((fun (r : List Int) => [(1000000000, .arr 1 (r.map AV.i))]) r) := by
  refine okM_of_body (lr := [1000000000]) hmix m129M1 rfl rfl ?_
  unfold M_slices_breakPatternsOrdered_intM1 at h
  simp only [ZC, A129M1, V129M1]
  obtain ⟨cZ1, h⟩ | ⟨cZ1, h⟩ := cond_s h
  · obtain ⟨rZ2, hrZ2, h⟩ := bind_s h
    refine ZF cZ1 ?_
    refine ZS cZ1 (w_slices_nextPowerOfTwo _ hrZ2) ?_
    refine ZG ?_
    obtain ⟨uZ3, huZ3, h⟩ := bind_s h
    have huZ3g := grd_s huZ3
    obtain ⟨oZ19, hoZ19, h⟩ := bind_s h
    try refine ZF (ZA cZ1 huZ3g) ?_
    first | refine tail_rule0 (blk_rule0 (loop_rule (w_slices_breakPatternsOrdered_intM1L1 aaZ0 abZ0 acZ0 adZ0 rZ2) hoZ19 ?_)) (fun τ qZ20 => ?_) | refine tail_blk0 (loop_rule (w_slices_breakPatternsOrdered_intM1L1 aaZ0 abZ0 acZ0 adZ0 rZ2) hoZ19 ?_) (fun τ qZ20 => ?_)
    · exact ZK (ZA S_slices_breakPatternsOrdered_intM1L1.eq_1 SX_slices_breakPatternsOrdered_intM1L1.eq_1)
    · cases h
      refine finM_shp qZ20 (by decide) ?_ rfl
      exact ZK (ZA V129M1.eq_1 SX_slices_breakPatternsOrdered_intM1L1.eq_1)
  · cases h
    exact ZL cZ1 V129M1.eq_1
def S_slices_pdqsortOrdered_intM2L1 (aaZ0 : Nat) (abZ0 : Nat) (v : Int × Int × Int × Bool × Bool × List Int) : St := ⟨[(0, .sl 1000000000 aaZ0 abZ0), (1, .i v.1), (2, .i v.2.1), (3, .i v.2.2.1), (8, .b v.2.2.2.1), (9, .b v.2.2.2.2.1)], [(1000000000, .arr 1 (v.2.2.2.2.2.map AV.i))]⟩
def SX_slices_pdqsortOrdered_intM2L1 (v : Empty) : St := ⟨[], []⟩
theorem w_slices_pdqsortOrdered_intM2L1 (aaZ0 : Nat) (abZ0 : Nat) (acZ0 : Int) (adZ0 : Int) (aeZ0 : Int) (afZ0 : List Int) (rcZ0 : Nat → Nat → Int → Int → Int → List Int → Option (List Int)) (ihZ0 : ∀ (aaZ0 : Nat) (abZ0 : Nat) (acZ0 : Int) (adZ0 : Int) (aeZ0 : Int) (afZ0 : List Int) {r : List Int}, rcZ0 aaZ0 abZ0 acZ0 adZ0 aeZ0 afZ0 = some r → OkM Try.prog 110 [.sl 1000000000 aaZ0 abZ0, .i acZ0, .i adZ0, .i aeZ0] [(1000000000, .arr 1 (afZ0.map AV.i))] ((fun (r : List Int) => .tup []) r) ((fun (r : List Int) => [(1000000000, .arr 1 (r.map AV.i))]) r)) (sZ1 : Int × Int × Int × Bool × Bool × List Int) (o : (Int × Int × Int × Bool × Bool × List Int) ⊕ (Empty ⊕ (List Int))) (h : M_slices_pdqsortOrdered_intM2L1 aaZ0 abZ0 rcZ0 sZ1 = some o) : AWP (OkS Try.prog) A110M2L6 (qL [0, 1, 2, 3, 8, 9] [1000000000] (S_slices_pdqsortOrdered_intM2L1 aaZ0 abZ0) (qS (qX 0 [] [] (SX_slices_pdqsortOrdered_intM2L1)) (qM V110M2 [1000000000] (fun (r : List Int) => .tup []) (fun (r : List Int) => [(1000000000, .arr 1 (r.map AV.i))]))) o) (S_slices_pdqsortOrdered_intM2L1 aaZ0 abZ0 sZ1) := by
  unfold M_slices_pdqsortOrdered_intM2L1 at h
  simp only [ZC, S_slices_pdqsortOrdered_intM2L1, A110M2L6]
  obtain ⟨cZ2, h⟩ | ⟨cZ2, h⟩ := cond_s h
  · obtain ⟨rZ3, hrZ3, h⟩ := bind_s h
    refine ZF cZ2 ?_
    refine ZW cZ2 (w_slices_insertionSortOrdered_intM2 _ _ _ _ _ hrZ3) (h2 := by first | exact nm_ok [1000000000] rfl (by decide +kernel) | exact nm_ok2 [1000000000] [] rfl (by decide +kernel) ZQ | exact ZQ) (hk := ?_)
    refine ZG ?_
    cases h
    exact ZL cZ2 V110M2.eq_1
  · obtain ⟨cZ4, h⟩ | ⟨cZ4, h⟩ := cond_s h
    · obtain ⟨rZ5, hrZ5, h⟩ := bind_s h
      refine ZF (ZA cZ2 cZ4) ?_
      refine ZW (ZA cZ2 cZ4) (w_slices_heapSortOrdered_intM2 _ _ _ _ _ hrZ5) (h2 := by first | exact nm_ok [1000000000] rfl (by decide +kernel) | exact nm_ok2 [1000000000] [] rfl (by decide +kernel) ZQ | exact ZQ) (hk := ?_)
      refine ZG ?_
      cases h
      exact ZL (ZA cZ2 cZ4) V110M2.eq_1
    · obtain ⟨oZ8, hoZ8, h⟩ := bind_s h
      try refine ZF (ZA cZ2 cZ4) ?_
      refine join_rule0 (sh := (fun v => ⟨[(0, .sl 1000000000 aaZ0 abZ0), (1, .i sZ1.1), (2, .i sZ1.2.1), (3, .i v.1), (8, .b sZ1.2.2.2.1), (9, .b sZ1.2.2.2.2.1), (10, .i (IntKind.wrap .i64 (sZ1.2.1 - sZ1.1)))], [(1000000000, .arr 1 (v.2.map AV.i))]⟩)) (s := oZ8) ?_ ?_
      · replace h := hoZ8
        obtain ⟨cZ6, h⟩ | ⟨cZ6, h⟩ := cond_s h
        · obtain ⟨rZ7, hrZ7, h⟩ := bind_s h
          refine ZF (ZA cZ2 (ZA cZ4 cZ6)) ?_
          refine ZW (ZA cZ2 (ZA cZ4 cZ6)) (w_slices_breakPatternsOrdered_intM1 _ _ _ _ _ hrZ7) (h2 := by first | exact nm_ok [1000000000] rfl (by decide +kernel) | exact nm_ok2 [1000000000] [] rfl (by decide +kernel) ZQ | exact ZQ) (hk := ?_)
          refine ZG ?_
          cases h
          exact ZL (ZA cZ2 (ZA cZ4 cZ6)) trivial
        · cases h
          exact ZL (ZA cZ2 (ZA cZ4 cZ6)) trivial
      · simp only [ZC, A110M2R4]
        obtain ⟨lZ9, hlZ9, h⟩ := bnd_s h
        have eZ10 : sub (oZ8.2.map AV.i) aaZ0 abZ0 = lZ9.map AV.i := by rw [sub_mapT, hlZ9]
        obtain ⟨rZ11, hrZ11, h⟩ := bind_s h
        refine ZF (ZA cZ2 (ZA cZ4 eZ10)) ?_
        refine ZU (ZA cZ2 (ZA cZ4 eZ10)) (w_slices_choosePivotOrdered_int _ _ _ hrZ11) ?_
        refine ZG ?_
        obtain ⟨oZ14, hoZ14, h⟩ := bind_s h
        try refine ZF (ZA cZ2 (ZA cZ4 eZ10)) ?_
        refine join_rule0 (sh := (fun v => ⟨[(0, .sl 1000000000 aaZ0 abZ0), (1, .i sZ1.1), (2, .i sZ1.2.1), (3, .i oZ8.1), (8, .b sZ1.2.2.2.1), (9, .b sZ1.2.2.2.2.1), (10, .i (IntKind.wrap .i64 (sZ1.2.1 - sZ1.1))), (11, .i v.1), (12, .i v.2.1)], [(1000000000, .arr 1 (v.2.2.map AV.i))]⟩)) (s := oZ14) ?_ ?_
        · replace h := hoZ14
          obtain ⟨cZ12, h⟩ | ⟨cZ12, h⟩ := cond_s h
          · obtain ⟨rZ13, hrZ13, h⟩ := bind_s h
            refine ZF (ZA cZ2 (ZA cZ4 (ZA eZ10 cZ12))) ?_
            refine ZW (ZA cZ2 (ZA cZ4 (ZA eZ10 cZ12))) (w_slices_reverseRangeOrdered_intM2 _ _ _ _ _ hrZ13) (h2 := by first | exact nm_ok [1000000000] rfl (by decide +kernel) | exact nm_ok2 [1000000000] [] rfl (by decide +kernel) ZQ | exact ZQ) (hk := ?_)
            refine ZG ?_
            cases h
            exact ZL (ZA cZ2 (ZA cZ4 (ZA eZ10 cZ12))) trivial
          · cases h
            exact ZL (ZA cZ2 (ZA cZ4 (ZA eZ10 cZ12))) trivial
        · simp only [ZC, A110M2R1]
          obtain ⟨oZ21, hoZ21, h⟩ := bind_s h
          try refine ZF (ZA cZ2 (ZA cZ4 eZ10)) ?_
          refine join_rule (sh := (fun v => ⟨[(0, .sl 1000000000 aaZ0 abZ0), (1, .i sZ1.1), (2, .i sZ1.2.1), (3, .i oZ8.1), (8, .b sZ1.2.2.2.1), (9, .b sZ1.2.2.2.2.1), (10, .i (IntKind.wrap .i64 (sZ1.2.1 - sZ1.1))), (11, .i oZ14.1)], [(1000000000, .arr 1 (v.map AV.i))]⟩)) (q := (qM V110M2 [1000000000] (fun (r : List Int) => .tup []) (fun (r : List Int) => [(1000000000, .arr 1 (r.map AV.i))]))) (o := oZ21) ?_ (fun vZ22 hv => ?_) (fun xZ23 hv e τ hne hq => ?_)
          · replace h := hoZ21
            obtain ⟨oZ17, hoZ17, h⟩ := bind_s h
            try refine ZF (ZA cZ2 (ZA cZ4 eZ10)) ?_
            refine join_rule0 (sh := (fun v => ⟨[(0, .sl 1000000000 aaZ0 abZ0), (1, .i sZ1.1), (2, .i sZ1.2.1), (3, .i oZ8.1), (8, .b sZ1.2.2.2.1), (9, .b sZ1.2.2.2.2.1), (10, .i (IntKind.wrap .i64 (sZ1.2.1 - sZ1.1))), (11, .i oZ14.1), (68, .b v)], [(1000000000, .arr 1 (oZ14.2.2.map AV.i))]⟩)) (s := oZ17) ?_ ?_
            · replace h := hoZ17
              obtain ⟨cZ15, h⟩ | ⟨cZ15, h⟩ := cond_s h
              · obtain ⟨cZ16, h⟩ | ⟨cZ16, h⟩ := cond_s h
                · cases h
                  exact ZL (ZA cZ2 (ZA cZ4 (ZA eZ10 (ZA cZ15 cZ16)))) trivial
                · cases h
                  exact ZL (ZA cZ2 (ZA cZ4 (ZA eZ10 (ZA cZ15 cZ16)))) trivial
              · cases h
                exact ZL (ZA cZ2 (ZA cZ4 (ZA eZ10 cZ15))) trivial
            · simp only [ZC, A110M2R5]
              obtain ⟨cZ18, h⟩ | ⟨cZ18, h⟩ := cond_s h
              · obtain ⟨rZ19, hrZ19, h⟩ := bind_s h
                refine ZF (ZA cZ2 (ZA cZ4 (ZA eZ10 cZ18))) ?_
                refine ZW (ZA cZ2 (ZA cZ4 (ZA eZ10 cZ18))) (w_slices_partialInsertionSortOrdered_intM1 _ _ _ _ _ hrZ19) (h2 := by first | exact nm_ok [1000000000] rfl (by decide +kernel) | exact nm_ok2 [1000000000] [] rfl (by decide +kernel) ZQ | exact ZQ) (hk := ?_)
                refine ZG ?_
                obtain ⟨cZ20, h⟩ | ⟨cZ20, h⟩ := cond_s h
                · cases h
                  exact ZL (ZA cZ2 (ZA cZ4 (ZA eZ10 (ZA cZ18 cZ20)))) V110M2.eq_1
                · cases h
                  exact ZL (ZA cZ2 (ZA cZ4 (ZA eZ10 (ZA cZ18 cZ20)))) trivial
              · cases h
                exact ZL (ZA cZ2 (ZA cZ4 (ZA eZ10 cZ18))) trivial
          · subst hv
            simp only [] at h
            simp only [ZC, A110M2R2]
            obtain ⟨oZ30, hoZ30, h⟩ := bind_s h
            try refine ZF (ZA cZ2 (ZA cZ4 eZ10)) ?_
            refine join_rule0 (sh := (fun v => ⟨[(0, .sl 1000000000 aaZ0 abZ0), (1, .i sZ1.1), (2, .i sZ1.2.1), (3, .i oZ8.1), (8, .b sZ1.2.2.2.1), (9, .b sZ1.2.2.2.2.1), (10, .i (IntKind.wrap .i64 (sZ1.2.1 - sZ1.1))), (11, .i oZ14.1), (87, .b v)], [(1000000000, .arr 1 (vZ22.map AV.i))]⟩)) (s := oZ30) ?_ ?_
            · replace h := hoZ30
              obtain ⟨cZ24, h⟩ | ⟨cZ24, h⟩ := cond_s h
              · obtain ⟨kZ25, hkZ25, h⟩ := bind_s h
                obtain ⟨hkZ25a, hkZ25b⟩ := grd_s hkZ25
                obtain ⟨yZ26, hyZ26, h⟩ := bind_s h
                obtain ⟨kZ27, hkZ27, h⟩ := bind_s h
                obtain ⟨hkZ27a, hkZ27b⟩ := grd_s hkZ27
                obtain ⟨yZ28, hyZ28, h⟩ := bind_s h
                obtain ⟨rZ29, hrZ29, h⟩ := bind_s h
                refine ZF (ZA cZ2 (ZA cZ4 (ZA eZ10 (ZA cZ24 (ZA hkZ25a (ZA hkZ25b (ZA hyZ26 (ZA hkZ27a (ZA hkZ27b hyZ28))))))))) ?_
                refine ZS (ZA cZ2 (ZA cZ4 (ZA eZ10 (ZA cZ24 (ZA hkZ25a (ZA hkZ25b (ZA hyZ26 (ZA hkZ27a (ZA hkZ27b hyZ28))))))))) (w_cmp_Less_int _ _ hrZ29) ?_
                refine ZG ?_
                cases h
                exact ZL (ZA cZ2 (ZA cZ4 (ZA eZ10 (ZA cZ24 (ZA hkZ25a (ZA hkZ25b (ZA hyZ26 (ZA hkZ27a (ZA hkZ27b hyZ28))))))))) trivial
              · cases h
                exact ZL (ZA cZ2 (ZA cZ4 (ZA eZ10 cZ24))) trivial
            · simp only [ZC, A110M2R3]
              obtain ⟨cZ31, h⟩ | ⟨cZ31, h⟩ := cond_s h
              · obtain ⟨rZ32, hrZ32, h⟩ := bind_s h
                refine ZF (ZA cZ2 (ZA cZ4 (ZA eZ10 cZ31))) ?_
                refine ZW (ZA cZ2 (ZA cZ4 (ZA eZ10 cZ31))) (w_slices_partitionEqualOrdered_intM1 _ _ _ _ _ _ hrZ32) (h2 := by first | exact nm_ok [1000000000] rfl (by decide +kernel) | exact nm_ok2 [1000000000] [] rfl (by decide +kernel) ZQ | exact ZQ) (hk := ?_)
                refine ZG ?_
                cases h
                exact ZL (ZA cZ2 (ZA cZ4 (ZA eZ10 cZ31))) (ZA S_slices_pdqsortOrdered_intM2L1.eq_1 SX_slices_pdqsortOrdered_intM2L1.eq_1)
              · obtain ⟨rZ33, hrZ33, h⟩ := bind_s h
                refine ZF (ZA cZ2 (ZA cZ4 (ZA eZ10 cZ31))) ?_
                refine ZW (ZA cZ2 (ZA cZ4 (ZA eZ10 cZ31))) (w_slices_partitionOrdered_intM1 _ _ _ _ _ _ hrZ33) (h2 := by first | exact nm_ok [1000000000] rfl (by decide +kernel) | exact nm_ok2 [1000000000] [] rfl (by decide +kernel) ZQ | exact ZQ) (hk := ?_)
                refine ZG ?_
                obtain ⟨uZ34, huZ34, h⟩ := bind_s h
                have huZ34g := grd_s huZ34
                obtain ⟨cZ35, h⟩ | ⟨cZ35, h⟩ := cond_s h
                · obtain ⟨rZ36, hrZ36, h⟩ := bind_s h
                  refine ZF (ZA cZ2 (ZA cZ4 (ZA eZ10 (ZA cZ31 (ZA huZ34g cZ35))))) ?_
                  refine ZW (ZA cZ2 (ZA cZ4 (ZA eZ10 (ZA cZ31 (ZA huZ34g cZ35))))) (ihZ0 _ _ _ _ _ _ hrZ36) (h2 := by first | exact nm_ok [1000000000] rfl (by decide +kernel) | exact nm_ok2 [1000000000] [] rfl (by decide +kernel) ZQ | exact ZQ) (hk := ?_)
                  refine ZG ?_
                  cases h
                  exact ZL (ZA cZ2 (ZA cZ4 (ZA eZ10 (ZA cZ31 (ZA huZ34g cZ35))))) (ZA S_slices_pdqsortOrdered_intM2L1.eq_1 SX_slices_pdqsortOrdered_intM2L1.eq_1)
                · obtain ⟨rZ37, hrZ37, h⟩ := bind_s h
                  refine ZF (ZA cZ2 (ZA cZ4 (ZA eZ10 (ZA cZ31 (ZA huZ34g cZ35))))) ?_
                  refine ZW (ZA cZ2 (ZA cZ4 (ZA eZ10 (ZA cZ31 (ZA huZ34g cZ35))))) (ihZ0 _ _ _ _ _ _ hrZ37) (h2 := by first | exact nm_ok [1000000000] rfl (by decide +kernel) | exact nm_ok2 [1000000000] [] rfl (by decide +kernel) ZQ | exact ZQ) (hk := ?_)
                  refine ZG ?_
                  cases h
                  exact ZL (ZA cZ2 (ZA cZ4 (ZA eZ10 (ZA cZ31 (ZA huZ34g cZ35))))) (ZA S_slices_pdqsortOrdered_intM2L1.eq_1 SX_slices_pdqsortOrdered_intM2L1.eq_1)
          · subst hv
            simp only [] at h
            obtain ⟨rfl, qZ38⟩ := hq
            cases h
            try refine ZF trivial ?_
            first | exact ⟨by simp, qZ38⟩ | exact ⟨by simp, rfl, qZ38⟩
theorem wB_slices_pdqsortOrdered_intM2 (rcZ0 : Nat → Nat → Int → Int → Int → List Int → Option (List Int)) (ihZ0 : ∀ (aaZ0 : Nat) (abZ0 : Nat) (acZ0 : Int) (adZ0 : Int) (aeZ0 : Int) (afZ0 : List Int) {r : List Int}, rcZ0 aaZ0 abZ0 acZ0 adZ0 aeZ0 afZ0 = some r → OkM Try.prog 110 [.sl 1000000000 aaZ0 abZ0, .i acZ0, .i adZ0, .i aeZ0] [(1000000000, .arr 1 (afZ0.map AV.i))] ((fun (r : List Int) => .tup []) r) ((fun (r : List Int) => [(1000000000, .arr 1 (r.map AV.i))]) r)) (aaZ0 : Nat) (abZ0 : Nat) (acZ0 : Int) (adZ0 : Int) (aeZ0 : Int) (afZ0 : List Int) {r : List Int} (h : M_slices_pdqsortOrdered_intM2_B rcZ0 aaZ0 abZ0 acZ0 adZ0 aeZ0 afZ0 = some r) : OkM Try.prog 110 [.sl 1000000000 aaZ0 abZ0, .i acZ0, .i adZ0, .i aeZ0] [(1000000000, .arr 1 (afZ0.map AV.i))] ((fun (r : List Int) => .tup []) r) ((fun (r : List Int) => [(1000000000, .arr 1 (r.map AV.i))]) r) := by
  refine okM_of_body (lr := [1000000000]) hmix m110M2 rfl rfl ?_
  unfold M_slices_pdqsortOrdered_intM2_B at h
  simp only [ZC, A110M2, V110M2]
  obtain ⟨oZ39, hoZ39, h⟩ := bind_s h
  try refine ZF trivial ?_
  first | refine tail_rule (o := oZ39) (blk_rule sideM (loop_rule (w_slices_pdqsortOrdered_intM2L1 aaZ0 abZ0 acZ0 adZ0 aeZ0 afZ0 rcZ0 ihZ0) hoZ39 ?_)) (fun vZ40 hv τ qZ42 => ?_) (fun xZ41 hv e τ hne hq => ?_) | refine tail_blk (o := oZ39) sideM (loop_rule (w_slices_pdqsortOrdered_intM2L1 aaZ0 abZ0 acZ0 adZ0 aeZ0 afZ0 rcZ0 ihZ0) hoZ39 ?_) (fun vZ40 hv τ qZ42 => ?_) (fun xZ41 hv e τ hne hq => ?_)
  · exact ZK (ZA S_slices_pdqsortOrdered_intM2L1.eq_1 SX_slices_pdqsortOrdered_intM2L1.eq_1)
  · exact vZ40.elim
  · subst hv
    simp only [] at h
    obtain ⟨rfl, qZ43⟩ := hq
    cases h
    exact qZ43
theorem w_slices_pdqsortOrdered_intM2 : ∀ (n : Nat) (aaZ0 : Nat) (abZ0 : Nat) (acZ0 : Int) (adZ0 : Int) (aeZ0 : Int) (afZ0 : List Int) {r : List Int} (_ : M_slices_pdqsortOrdered_intM2 n aaZ0 abZ0 acZ0 adZ0 aeZ0 afZ0 = some r), OkM Try.prog 110 [.sl 1000000000 aaZ0 abZ0, .i acZ0, .i adZ0, .i aeZ0] [(1000000000, .arr 1 (afZ0.map AV.i))] ((fun (r : List Int) => .tup []) r) ((fun (r : List Int) => [(1000000000, .arr 1 (r.map AV.i))]) r)
  | 0, aaZ0, abZ0, acZ0, adZ0, aeZ0, afZ0, _, h => by cases h
  | n + 1, aaZ0, abZ0, acZ0, adZ0, aeZ0, afZ0, _, h => wB_slices_pdqsortOrdered_intM2 (M_slices_pdqsortOrdered_intM2 n) (w_slices_pdqsortOrdered_intM2 n) aaZ0 abZ0 acZ0 adZ0 aeZ0 afZ0 h
def S_slices_pdqsortOrdered_intM1L1 (v : Nat × Int × Int × Int × Bool × Bool × List Int) : St := ⟨[(0, .sl 1000000000 0 v.1), (1, .i v.2.1), (2, .i v.2.2.1), (3, .i v.2.2.2.1), (8, .b v.2.2.2.2.1), (9, .b v.2.2.2.2.2.1)], [(1000000000, .arr 1 (v.2.2.2.2.2.2.map AV.i))]⟩
def SX_slices_pdqsortOrdered_intM1L1 (v : Empty) : St := ⟨[], []⟩
theorem w_slices_pdqsortOrdered_intM1L1 (sZ1 : Nat × Int × Int × Int × Bool × Bool × List Int) (o : (Nat × Int × Int × Int × Bool × Bool × List Int) ⊕ (Empty ⊕ (List Int))) (h : M_slices_pdqsortOrdered_intM1L1 sZ1 = some o) : AWP (OkS Try.prog) A110M1L6 (qL [0, 1, 2, 3, 8, 9] [1000000000] (S_slices_pdqsortOrdered_intM1L1) (qS (qX 0 [] [] (SX_slices_pdqsortOrdered_intM1L1)) (qM V110M1 [1000000000] (fun (r : List Int) => .tup []) (fun (r : List Int) => [(1000000000, .arr 1 (r.map AV.i))]))) o) (S_slices_pdqsortOrdered_intM1L1 sZ1) := by
  unfold M_slices_pdqsortOrdered_intM1L1 at h
  simp only [ZC, S_slices_pdqsortOrdered_intM1L1, A110M1L6]
  obtain ⟨cZ2, h⟩ | ⟨cZ2, h⟩ := cond_s h
  · obtain ⟨rZ3, hrZ3, h⟩ := bind_s h
    refine ZF cZ2 ?_
    refine ZW cZ2 (w_slices_insertionSortOrdered_intM2 _ _ _ _ _ hrZ3) (h2 := by first | exact nm_ok [1000000000] rfl (by decide +kernel) | exact nm_ok2 [1000000000] [] rfl (by decide +kernel) ZQ | exact ZQ) (hk := ?_)
    refine ZG ?_
    cases h
    exact ZL cZ2 V110M1.eq_1
  · obtain ⟨cZ4, h⟩ | ⟨cZ4, h⟩ := cond_s h
    · obtain ⟨rZ5, hrZ5, h⟩ := bind_s h
      refine ZF (ZA cZ2 cZ4) ?_
      refine ZW (ZA cZ2 cZ4) (w_slices_heapSortOrdered_intM2 _ _ _ _ _ hrZ5) (h2 := by first | exact nm_ok [1000000000] rfl (by decide +kernel) | exact nm_ok2 [1000000000] [] rfl (by decide +kernel) ZQ | exact ZQ) (hk := ?_)
      refine ZG ?_
      cases h
      exact ZL (ZA cZ2 cZ4) V110M1.eq_1
    · obtain ⟨oZ8, hoZ8, h⟩ := bind_s h
      try refine ZF (ZA cZ2 cZ4) ?_
      refine join_rule0 (sh := (fun v => ⟨[(0, .sl 1000000000 0 sZ1.1), (1, .i sZ1.2.1), (2, .i sZ1.2.2.1), (3, .i v.1), (8, .b sZ1.2.2.2.2.1), (9, .b sZ1.2.2.2.2.2.1), (10, .i (IntKind.wrap .i64 (sZ1.2.2.1 - sZ1.2.1)))], [(1000000000, .arr 1 (v.2.map AV.i))]⟩)) (s := oZ8) ?_ ?_
      · replace h := hoZ8
        obtain ⟨cZ6, h⟩ | ⟨cZ6, h⟩ := cond_s h
        · obtain ⟨rZ7, hrZ7, h⟩ := bind_s h
          refine ZF (ZA cZ2 (ZA cZ4 cZ6)) ?_
          refine ZW (ZA cZ2 (ZA cZ4 cZ6)) (w_slices_breakPatternsOrdered_intM1 _ _ _ _ _ hrZ7) (h2 := by first | exact nm_ok [1000000000] rfl (by decide +kernel) | exact nm_ok2 [1000000000] [] rfl (by decide +kernel) ZQ | exact ZQ) (hk := ?_)
          refine ZG ?_
          cases h
          exact ZL (ZA cZ2 (ZA cZ4 cZ6)) trivial
        · cases h
          exact ZL (ZA cZ2 (ZA cZ4 cZ6)) trivial
      · simp only [ZC, A110M1R4]
        obtain ⟨lZ9, hlZ9, h⟩ := bnd_s h
        have eZ10 : sub (oZ8.2.map AV.i) 0 sZ1.1 = lZ9.map AV.i := by rw [sub_mapT, hlZ9]
        obtain ⟨rZ11, hrZ11, h⟩ := bind_s h
        refine ZF (ZA cZ2 (ZA cZ4 eZ10)) ?_
        refine ZU (ZA cZ2 (ZA cZ4 eZ10)) (w_slices_choosePivotOrdered_int _ _ _ hrZ11) ?_
        refine ZG ?_
        obtain ⟨oZ14, hoZ14, h⟩ := bind_s h
        try refine ZF (ZA cZ2 (ZA cZ4 eZ10)) ?_
        refine join_rule0 (sh := (fun v => ⟨[(0, .sl 1000000000 0 sZ1.1), (1, .i sZ1.2.1), (2, .i sZ1.2.2.1), (3, .i oZ8.1), (8, .b sZ1.2.2.2.2.1), (9, .b sZ1.2.2.2.2.2.1), (10, .i (IntKind.wrap .i64 (sZ1.2.2.1 - sZ1.2.1))), (11, .i v.1), (12, .i v.2.1)], [(1000000000, .arr 1 (v.2.2.map AV.i))]⟩)) (s := oZ14) ?_ ?_
        · replace h := hoZ14
          obtain ⟨cZ12, h⟩ | ⟨cZ12, h⟩ := cond_s h
          · obtain ⟨rZ13, hrZ13, h⟩ := bind_s h
            refine ZF (ZA cZ2 (ZA cZ4 (ZA eZ10 cZ12))) ?_
            refine ZW (ZA cZ2 (ZA cZ4 (ZA eZ10 cZ12))) (w_slices_reverseRangeOrdered_intM2 _ _ _ _ _ hrZ13) (h2 := by first | exact nm_ok [1000000000] rfl (by decide +kernel) | exact nm_ok2 [1000000000] [] rfl (by decide +kernel) ZQ | exact ZQ) (hk := ?_)
            refine ZG ?_
            cases h
            exact ZL (ZA cZ2 (ZA cZ4 (ZA eZ10 cZ12))) trivial
          · cases h
            exact ZL (ZA cZ2 (ZA cZ4 (ZA eZ10 cZ12))) trivial
        · simp only [ZC, A110M1R1]
          obtain ⟨oZ21, hoZ21, h⟩ := bind_s h
          try refine ZF (ZA cZ2 (ZA cZ4 eZ10)) ?_
          refine join_rule (sh := (fun v => ⟨[(0, .sl 1000000000 0 sZ1.1), (1, .i sZ1.2.1), (2, .i sZ1.2.2.1), (3, .i oZ8.1), (8, .b sZ1.2.2.2.2.1), (9, .b sZ1.2.2.2.2.2.1), (10, .i (IntKind.wrap .i64 (sZ1.2.2.1 - sZ1.2.1))), (11, .i oZ14.1)], [(1000000000, .arr 1 (v.map AV.i))]⟩)) (q := (qM V110M1 [1000000000] (fun (r : List Int) => .tup []) (fun (r : List Int) => [(1000000000, .arr 1 (r.map AV.i))]))) (o := oZ21) ?_ (fun vZ22 hv => ?_) (fun xZ23 hv e τ hne hq => ?_)
          · replace h := hoZ21
            obtain ⟨oZ17, hoZ17, h⟩ := bind_s h
            try refine ZF (ZA cZ2 (ZA cZ4 eZ10)) ?_
            refine join_rule0 (sh := (fun v => ⟨[(0, .sl 1000000000 0 sZ1.1), (1, .i sZ1.2.1), (2, .i sZ1.2.2.1), (3, .i oZ8.1), (8, .b sZ1.2.2.2.2.1), (9, .b sZ1.2.2.2.2.2.1), (10, .i (IntKind.wrap .i64 (sZ1.2.2.1 - sZ1.2.1))), (11, .i oZ14.1), (68, .b v)], [(1000000000, .arr 1 (oZ14.2.2.map AV.i))]⟩)) (s := oZ17) ?_ ?_
            · replace h := hoZ17
              obtain ⟨cZ15, h⟩ | ⟨cZ15, h⟩ := cond_s h
              · obtain ⟨cZ16, h⟩ | ⟨cZ16, h⟩ := cond_s h
                · cases h
                  exact ZL (ZA cZ2 (ZA cZ4 (ZA eZ10 (ZA cZ15 cZ16)))) trivial
                · cases h
                  exact ZL (ZA cZ2 (ZA cZ4 (ZA eZ10 (ZA cZ15 cZ16)))) trivial
              · cases h
                exact ZL (ZA cZ2 (ZA cZ4 (ZA eZ10 cZ15))) trivial
            · simp only [ZC, A110M1R5]
              obtain ⟨cZ18, h⟩ | ⟨cZ18, h⟩ := cond_s h
              · obtain ⟨rZ19, hrZ19, h⟩ := bind_s h
                refine ZF (ZA cZ2 (ZA cZ4 (ZA eZ10 cZ18))) ?_
                refine ZW (ZA cZ2 (ZA cZ4 (ZA eZ10 cZ18))) (w_slices_partialInsertionSortOrdered_intM1 _ _ _ _ _ hrZ19) (h2 := by first | exact nm_ok [1000000000] rfl (by decide +kernel) | exact nm_ok2 [1000000000] [] rfl (by decide +kernel) ZQ | exact ZQ) (hk := ?_)
                refine ZG ?_
                obtain ⟨cZ20, h⟩ | ⟨cZ20, h⟩ := cond_s h
                · cases h
                  exact ZL (ZA cZ2 (ZA cZ4 (ZA eZ10 (ZA cZ18 cZ20)))) V110M1.eq_1
                · cases h
                  exact ZL (ZA cZ2 (ZA cZ4 (ZA eZ10 (ZA cZ18 cZ20)))) trivial
              · cases h
                exact ZL (ZA cZ2 (ZA cZ4 (ZA eZ10 cZ18))) trivial
          · subst hv
            simp only [] at h
            simp only [ZC, A110M1R2]
            obtain ⟨oZ30, hoZ30, h⟩ := bind_s h
            try refine ZF (ZA cZ2 (ZA cZ4 eZ10)) ?_
            refine join_rule0 (sh := (fun v => ⟨[(0, .sl 1000000000 0 sZ1.1), (1, .i sZ1.2.1), (2, .i sZ1.2.2.1), (3, .i oZ8.1), (8, .b sZ1.2.2.2.2.1), (9, .b sZ1.2.2.2.2.2.1), (10, .i (IntKind.wrap .i64 (sZ1.2.2.1 - sZ1.2.1))), (11, .i oZ14.1), (87, .b v)], [(1000000000, .arr 1 (vZ22.map AV.i))]⟩)) (s := oZ30) ?_ ?_
            · replace h := hoZ30
              obtain ⟨cZ24, h⟩ | ⟨cZ24, h⟩ := cond_s h
              · obtain ⟨kZ25, hkZ25, h⟩ := bind_s h
                obtain ⟨hkZ25a, hkZ25b⟩ := grd_s hkZ25
                obtain ⟨yZ26, hyZ26, h⟩ := bind_s h
                obtain ⟨kZ27, hkZ27, h⟩ := bind_s h
                obtain ⟨hkZ27a, hkZ27b⟩ := grd_s hkZ27
                obtain ⟨yZ28, hyZ28, h⟩ := bind_s h
                obtain ⟨rZ29, hrZ29, h⟩ := bind_s h
                refine ZF (ZA cZ2 (ZA cZ4 (ZA eZ10 (ZA cZ24 (ZA hkZ25a (ZA hkZ25b (ZA hyZ26 (ZA hkZ27a (ZA hkZ27b hyZ28))))))))) ?_
                refine ZS (ZA cZ2 (ZA cZ4 (ZA eZ10 (ZA cZ24 (ZA hkZ25a (ZA hkZ25b (ZA hyZ26 (ZA hkZ27a (ZA hkZ27b hyZ28))))))))) (w_cmp_Less_int _ _ hrZ29) ?_
                refine ZG ?_
                cases h
                exact ZL (ZA cZ2 (ZA cZ4 (ZA eZ10 (ZA cZ24 (ZA hkZ25a (ZA hkZ25b (ZA hyZ26 (ZA hkZ27a (ZA hkZ27b hyZ28))))))))) trivial
              · cases h
                exact ZL (ZA cZ2 (ZA cZ4 (ZA eZ10 cZ24))) trivial
            · simp only [ZC, A110M1R3]
              obtain ⟨cZ31, h⟩ | ⟨cZ31, h⟩ := cond_s h
              · obtain ⟨rZ32, hrZ32, h⟩ := bind_s h
                refine ZF (ZA cZ2 (ZA cZ4 (ZA eZ10 cZ31))) ?_
                refine ZW (ZA cZ2 (ZA cZ4 (ZA eZ10 cZ31))) (w_slices_partitionEqualOrdered_intM1 _ _ _ _ _ _ hrZ32) (h2 := by first | exact nm_ok [1000000000] rfl (by decide +kernel) | exact nm_ok2 [1000000000] [] rfl (by decide +kernel) ZQ | exact ZQ) (hk := ?_)
                refine ZG ?_
                cases h
                exact ZL (ZA cZ2 (ZA cZ4 (ZA eZ10 cZ31))) (ZA S_slices_pdqsortOrdered_intM1L1.eq_1 SX_slices_pdqsortOrdered_intM1L1.eq_1)
              · obtain ⟨rZ33, hrZ33, h⟩ := bind_s h
                refine ZF (ZA cZ2 (ZA cZ4 (ZA eZ10 cZ31))) ?_
                refine ZW (ZA cZ2 (ZA cZ4 (ZA eZ10 cZ31))) (w_slices_partitionOrdered_intM1 _ _ _ _ _ _ hrZ33) (h2 := by first | exact nm_ok [1000000000] rfl (by decide +kernel) | exact nm_ok2 [1000000000] [] rfl (by decide +kernel) ZQ | exact ZQ) (hk := ?_)
                refine ZG ?_
                obtain ⟨uZ34, huZ34, h⟩ := bind_s h
                have huZ34g := grd_s huZ34
                obtain ⟨cZ35, h⟩ | ⟨cZ35, h⟩ := cond_s h
                · obtain ⟨rZ36, hrZ36, h⟩ := bind_s h
                  refine ZF (ZA cZ2 (ZA cZ4 (ZA eZ10 (ZA cZ31 (ZA huZ34g cZ35))))) ?_
                  refine ZW (ZA cZ2 (ZA cZ4 (ZA eZ10 (ZA cZ31 (ZA huZ34g cZ35))))) (w_slices_pdqsortOrdered_intM2 N0 _ _ _ _ _ _ hrZ36) (h2 := by first | exact nm_ok [1000000000] rfl (by decide +kernel) | exact nm_ok2 [1000000000] [] rfl (by decide +kernel) ZQ | exact ZQ) (hk := ?_)
                  refine ZG ?_
                  cases h
                  exact ZL (ZA cZ2 (ZA cZ4 (ZA eZ10 (ZA cZ31 (ZA huZ34g cZ35))))) (ZA S_slices_pdqsortOrdered_intM1L1.eq_1 SX_slices_pdqsortOrdered_intM1L1.eq_1)
                · obtain ⟨rZ37, hrZ37, h⟩ := bind_s h
                  refine ZF (ZA cZ2 (ZA cZ4 (ZA eZ10 (ZA cZ31 (ZA huZ34g cZ35))))) ?_
                  refine ZW (ZA cZ2 (ZA cZ4 (ZA eZ10 (ZA cZ31 (ZA huZ34g cZ35))))) (w_slices_pdqsortOrdered_intM2 N0 _ _ _ _ _ _ hrZ37) (h2 := by first | exact nm_ok [1000000000] rfl (by decide +kernel) | exact nm_ok2 [1000000000] [] rfl (by decide +kernel) ZQ | exact ZQ) (hk := ?_)
                  refine ZG ?_
                  cases h
                  exact ZL (ZA cZ2 (ZA cZ4 (ZA eZ10 (ZA cZ31 (ZA huZ34g cZ35))))) (ZA S_slices_pdqsortOrdered_intM1L1.eq_1 SX_slices_pdqsortOrdered_intM1L1.eq_1)
          · subst hv
            simp only [] at h
            obtain ⟨rfl, qZ38⟩ := hq
            cases h
            try refine ZF trivial ?_
            first | exact ⟨by simp, qZ38⟩ | exact ⟨by simp, rfl, qZ38⟩
theorem w_slices_pdqsortOrdered_intM1 (aaZ0 : Int) (abZ0 : Int) (acZ0 : Int) (adZ0 : List Int) {r : List Int} (h : M_slices_pdqsortOrdered_intM1 aaZ0 abZ0 acZ0 adZ0 = some r) : OkM Try.prog 110 [.sl 1000000000 0 adZ0.length, .i aaZ0, .i abZ0, .i acZ0] [(1000000000, .arr 1 (adZ0.map AV.i))] ((fun (r : List Int) => .tup []) r) ((fun (r : List Int) => [(1000000000, .arr 1 (r.map AV.i))]) r) := by
  refine okM_of_body (lr := [1000000000]) hmix m110M1 rfl rfl ?_
  unfold M_slices_pdqsortOrdered_intM1 at h
  simp only [ZC, A110M1, V110M1]
  obtain ⟨oZ39, hoZ39, h⟩ := bind_s h
  try refine ZF trivial ?_
  first | refine tail_rule (o := oZ39) (blk_rule sideM (loop_rule (w_slices_pdqsortOrdered_intM1L1) hoZ39 ?_)) (fun vZ40 hv τ qZ42 => ?_) (fun xZ41 hv e τ hne hq => ?_) | refine tail_blk (o := oZ39) sideM (loop_rule (w_slices_pdqsortOrdered_intM1L1) hoZ39 ?_) (fun vZ40 hv τ qZ42 => ?_) (fun xZ41 hv e τ hne hq => ?_)
  · exact ZK (ZA S_slices_pdqsortOrdered_intM1L1.eq_1 SX_slices_pdqsortOrdered_intM1L1.eq_1)
  · exact vZ40.elim
  · subst hv
    simp only [] at h
    obtain ⟨rfl, qZ43⟩ := hq
    cases h
    exact qZ43
theorem w_slices_Sort_Lint_intM1 (aaZ0 : List Int) {r : List Int} (h : M_slices_Sort_Lint_intM1 aaZ0 = some r) : OkM Try.prog 90 [.sl 1000000000 0 aaZ0.length] [(1000000000, .arr 1 (aaZ0.map AV.i))] ((fun (r : List Int) => .tup []) r) ((fun (r : List Int) => [(1000000000, .arr 1 (r.map AV.i))]) r) := by
  refine okM_of_body (lr := [1000000000]) hmix m90M1 rfl rfl ?_
  unfold M_slices_Sort_Lint_intM1 at h
  simp only [ZC, A90M1, V90M1]
  obtain ⟨rZ1, hrZ1, h⟩ := bind_s h
  refine ZF trivial ?_
  refine ZS trivial (w_math_bits_Len _ hrZ1) ?_
  refine ZG ?_
  obtain ⟨rZ2, hrZ2, h⟩ := bind_s h
  refine ZF trivial ?_
  refine ZW trivial (w_slices_pdqsortOrdered_intM1 _ _ _ _ hrZ2) (h2 := by first | exact nm_ok [1000000000] rfl (by decide +kernel) | exact nm_ok2 [1000000000] [] rfl (by decide +kernel) ZQ | exact ZQ) (hk := ?_)
  refine ZG ?_
  cases h
  exact ZL trivial V90M1.eq_1
def S_impl_protectedL1 (nZ0 : TNetwork) (ringZ0 : List Int) (rZ1 : List Int) (rZ2 : List Int) (rZ3 : List Int × Bool) (v : Int × List Int) : St := ⟨[(1, .lst .o 1 (ringZ0.map AV.i)), (6, .sl 6 0 rZ1.length), (7, .sl 7 0 v.2.length), (8, .sl 8 0 rZ3.1.length), (24, .lst .o 4 (nZ0.Fibers.map (e_TFiber .o))), (25, .i (nZ0.Fibers.length : Int)), (26, .i v.1)], [(6, .arr 1 (rZ2.map AV.i)), (7, .arr 1 (v.2.map AV.i)), (8, .arr 1 (rZ3.1.map AV.i))]⟩
def SX_impl_protectedL1 (rZ1 : List Int) (rZ2 : List Int) (v : List Int) : St := ⟨[(6, .sl 6 0 rZ1.length), (7, .sl 7 0 v.length)], [(6, .arr 1 (rZ2.map AV.i)), (7, .arr 1 (v.map AV.i))]⟩
theorem w_impl_protectedL1 (nZ0 : TNetwork) (ringZ0 : List Int) (rZ1 : List Int) (rZ2 : List Int) (rZ3 : List Int × Bool) (sZ4 : Int × List Int) (o : (Int × List Int) ⊕ (List Int)) (h : M_impl_protectedL1 nZ0 ringZ0 rZ3 sZ4 = some o) : AWP (OkS Try.prog) A52L2 (qL [1, 6, 7, 8, 24, 25, 26] [6, 7, 8] (S_impl_protectedL1 nZ0 ringZ0 rZ1 rZ2 rZ3) (qX 0 [6, 7] [6, 7] (SX_impl_protectedL1 rZ1 rZ2)) o) (S_impl_protectedL1 nZ0 ringZ0 rZ1 rZ2 rZ3 sZ4) := by
  unfold M_impl_protectedL1 at h
  simp only [ZC, S_impl_protectedL1, A52L2]
  obtain ⟨cZ5, h⟩ | ⟨cZ5, h⟩ := cond_s h
  · obtain ⟨yZ6, hyZ6, h⟩ := bind_s h
    obtain ⟨hyZ6a, hyZ6b⟩ := geti_s hyZ6
    obtain ⟨oZ12, hoZ12, h⟩ := bind_s h
    try refine ZF (ZA cZ5 (ZA hyZ6a hyZ6b)) ?_
    refine join_rule0 (sh := (fun v => ⟨[(1, .lst .o 1 (ringZ0.map AV.i)), (6, .sl 6 0 rZ1.length), (7, .sl 7 0 sZ4.2.length), (8, .sl 8 0 rZ3.1.length), (10, .i sZ4.1), (24, .lst .o 4 (nZ0.Fibers.map (e_TFiber .o))), (25, .i (nZ0.Fibers.length : Int)), (26, .i sZ4.1), (46, .b v)], [(6, .arr 1 (rZ2.map AV.i)), (7, .arr 1 (sZ4.2.map AV.i)), (8, .arr 1 (rZ3.1.map AV.i))]⟩)) (s := oZ12) ?_ ?_
    · replace h := hoZ12
      obtain ⟨rZ7, hrZ7, h⟩ := bind_s h
      refine ZF (ZA cZ5 (ZA hyZ6a hyZ6b)) ?_
      refine ZS (ZA cZ5 (ZA hyZ6a hyZ6b)) (w_slices_Contains_Lint_int _ _ hrZ7) ?_
      refine ZG ?_
      obtain ⟨cZ8, h⟩ | ⟨cZ8, h⟩ := cond_s h
      · obtain ⟨rZ9, hrZ9, h⟩ := bind_s h
        refine ZF (ZA cZ5 (ZA hyZ6a (ZA hyZ6b cZ8))) ?_
        refine ZS (ZA cZ5 (ZA hyZ6a (ZA hyZ6b cZ8))) (w_slices_Contains_Lint_int _ _ hrZ9) ?_
        refine ZG ?_
        obtain ⟨cZ10, h⟩ | ⟨cZ10, h⟩ := cond_s h
        · obtain ⟨rZ11, hrZ11, h⟩ := bind_s h
          refine ZF (ZA cZ5 (ZA hyZ6a (ZA hyZ6b (ZA cZ8 cZ10)))) ?_
          refine ZS (ZA cZ5 (ZA hyZ6a (ZA hyZ6b (ZA cZ8 cZ10)))) (w_slices_Contains_Lint_int _ _ hrZ11) ?_
          refine ZG ?_
          cases h
          exact ZL (ZA cZ5 (ZA hyZ6a (ZA hyZ6b (ZA cZ8 cZ10)))) trivial
        · cases h
          exact ZL (ZA cZ5 (ZA hyZ6a (ZA hyZ6b (ZA cZ8 cZ10)))) trivial
      · cases h
        exact ZL (ZA cZ5 (ZA hyZ6a (ZA hyZ6b cZ8))) trivial
    · simp only [ZC, A52R1]
      obtain ⟨cZ13, h⟩ | ⟨cZ13, h⟩ := cond_s h
      · obtain ⟨lZ14, hlZ14, h⟩ := bnd_s h
        have eZ15 : Row.arr 1 [(.i sZ4.1 : AV)] = Row.arr 1 (lZ14.map AV.i) := by rw [← hlZ14]; rfl
        have eZ16 : lZ14.length = 1 := by rw [← hlZ14]; rfl
        obtain ⟨uZ17, huZ17, h⟩ := bind_s h
        have huZ17g := grd_s huZ17
        obtain ⟨lZ18, hlZ18, h⟩ := bnd_s h
        have eZ19 : sZ4.2.map AV.i ++ lZ14.map AV.i = lZ18.map AV.i := by rw [← hlZ18, List.map_append]
        have eZ20 : sZ4.2.length + 1 = lZ18.length := by simp [← hlZ14, ← hlZ18] <;> omega
        rw [eZ20] at huZ17g
        cases h
        exact ZL (ZA cZ5 (ZA hyZ6a (ZA hyZ6b (ZA cZ13 (ZA eZ15 (ZA eZ16 (ZA huZ17g (ZA eZ19 eZ20)))))))) (ZA S_impl_protectedL1.eq_1 (ZA SX_impl_protectedL1.eq_1 (ZA hlZ14.symm hlZ18.symm)))
      · cases h
        exact ZL (ZA cZ5 (ZA hyZ6a (ZA hyZ6b cZ13))) (ZA S_impl_protectedL1.eq_1 SX_impl_protectedL1.eq_1)
  · cases h
    exact ZL cZ5 (ZA S_impl_protectedL1.eq_1 SX_impl_protectedL1.eq_1)
theorem w_impl_protected (nZ0 : TNetwork) (ringZ0 : List Int) {r : List Int × List Int} (h : M_impl_protected nZ0 ringZ0 = some r) : Ok Try.prog 52 [.agg [.lst .o 1 (nZ0.Nodes.map AV.z), .lst .o 4 (nZ0.Fibers.map (e_TFiber .o))], .lst .o 1 (ringZ0.map AV.i)] ((fun r => .tup [.lst .u 1 (r.1.map AV.i), .lst .u 1 (r.2.map AV.i)]) r) := by
  refine ok_of_body hmix m52 rfl ?_
  unfold M_impl_protected at h
  simp only [ZC, A52, V52, body_eq]
  obtain ⟨rZ1, hrZ1, h⟩ := bind_s h
  refine ZF trivial ?_
  refine ZU trivial (w_slices_Clone_Lint_int _ hrZ1) ?_
  refine ZG ?_
  obtain ⟨rZ2, hrZ2, h⟩ := bind_s h
  refine ZF trivial ?_
  refine ZW trivial (w_slices_Sort_Lint_intM1 _ hrZ2) (h2 := by first | exact nm_ok [1000000000] rfl (by decide +kernel) | exact nm_ok2 [1000000000] [] rfl (by decide +kernel) ZQ | exact ZQ) (hk := ?_)
  refine ZG ?_
  obtain ⟨rZ3, hrZ3, h⟩ := bind_s h
  refine ZF trivial ?_
  refine ZU trivial (w_impl_around _ _ hrZ3) ?_
  refine ZG ?_
  obtain ⟨oZ21, hoZ21, h⟩ := bind_s h
  try refine ZF trivial ?_
  refine join_rule0 (blk_rule0 (loop_rule (w_impl_protectedL1 nZ0 ringZ0 rZ1 rZ2 rZ3) hoZ21 ?_)) ?_
  · exact ZK (ZA S_impl_protectedL1.eq_1 SX_impl_protectedL1.eq_1)
  · simp only [ZC, SX_impl_protectedL1, A52R3]
    obtain ⟨lZ22, hlZ22, h⟩ := bnd_s h
    have eZ23 : sub (rZ2.map AV.i) 0 rZ1.length = lZ22.map AV.i := by rw [sub_mapT, hlZ22]
    cases h
    exact ZL eZ23 V52.eq_1
def S_impl_RingCapacityL1 (workingZ0 : List Int) (rZ7 : List Int × List Int) (v : Int × Int) : St := ⟨[(2, .lst .o 1 (workingZ0.map AV.i)), (9, .sl 9 0 rZ7.2.length), (10, .i v.1), (37, .sl 8 0 rZ7.1.length), (38, .i (rZ7.1.length : Int)), (39, .i v.2)], [(8, .arr 1 (rZ7.1.map AV.i)), (9, .arr 1 (rZ7.2.map AV.i))]⟩
def SX_impl_RingCapacityL1 (workingZ0 : List Int) (rZ7 : List Int × List Int) (v : Int) : St := ⟨[(2, .lst .o 1 (workingZ0.map AV.i)), (9, .sl 9 0 rZ7.2.length), (10, .i v)], [(9, .arr 1 (rZ7.2.map AV.i))]⟩
theorem w_impl_RingCapacityL1 (workingZ0 : List Int) (rZ7 : List Int × List Int) (sZ8 : Int × Int) (o : (Int × Int) ⊕ Int) (h : M_impl_RingCapacityL1 workingZ0 rZ7 sZ8 = some o) : AWP (OkS Try.prog) A25L2 (qL [2, 9, 10, 37, 38, 39] [8, 9] (S_impl_RingCapacityL1 workingZ0 rZ7) (qX 0 [2, 9, 10] [9] (SX_impl_RingCapacityL1 workingZ0 rZ7)) o) (S_impl_RingCapacityL1 workingZ0 rZ7 sZ8) := by
  unfold M_impl_RingCapacityL1 at h
  simp only [ZC, S_impl_RingCapacityL1, A25L2]
  obtain ⟨cZ9, h⟩ | ⟨cZ9, h⟩ := cond_s h
  · obtain ⟨kZ10, hkZ10, h⟩ := bind_s h
    obtain ⟨hkZ10a, hkZ10b⟩ := grd_s hkZ10
    obtain ⟨yZ11, hyZ11, h⟩ := bind_s h
    obtain ⟨yZ12, hyZ12, h⟩ := bind_s h
    obtain ⟨hyZ12a, hyZ12b⟩ := geti_s hyZ12
    cases h
    exact ZL (ZA cZ9 (ZA hkZ10a (ZA hkZ10b (ZA hyZ11 (ZA hyZ12a hyZ12b))))) (ZA S_impl_RingCapacityL1.eq_1 SX_impl_RingCapacityL1.eq_1)
  · cases h
    exact ZL cZ9 (ZA S_impl_RingCapacityL1.eq_1 SX_impl_RingCapacityL1.eq_1)
def S_impl_RingCapacityL2 (workingZ0 : List Int) (rZ7 : List Int × List Int) (v : Int × Int) : St := ⟨[(2, .lst .o 1 (workingZ0.map AV.i)), (10, .i v.1), (50, .sl 9 0 rZ7.2.length), (51, .i (rZ7.2.length : Int)), (52, .i v.2)], [(9, .arr 1 (rZ7.2.map AV.i))]⟩
def SX_impl_RingCapacityL2 (v : Int) : St := ⟨[(10, .i v)], []⟩
theorem w_impl_RingCapacityL2 (workingZ0 : List Int) (rZ7 : List Int × List Int) (sZ14 : Int × Int) (o : (Int × Int) ⊕ Int) (h : M_impl_RingCapacityL2 workingZ0 rZ7 sZ14 = some o) : AWP (OkS Try.prog) A25L4 (qL [2, 10, 50, 51, 52] [9] (S_impl_RingCapacityL2 workingZ0 rZ7) (qX 2 [10] [] (SX_impl_RingCapacityL2)) o) (S_impl_RingCapacityL2 workingZ0 rZ7 sZ14) := by
  unfold M_impl_RingCapacityL2 at h
  simp only [ZC, S_impl_RingCapacityL2, A25L4]
  obtain ⟨cZ15, h⟩ | ⟨cZ15, h⟩ := cond_s h
  · obtain ⟨kZ16, hkZ16, h⟩ := bind_s h
    obtain ⟨hkZ16a, hkZ16b⟩ := grd_s hkZ16
    obtain ⟨yZ17, hyZ17, h⟩ := bind_s h
    obtain ⟨yZ18, hyZ18, h⟩ := bind_s h
    obtain ⟨hyZ18a, hyZ18b⟩ := geti_s hyZ18
    obtain ⟨uZ19, huZ19, h⟩ := bind_s h
    have huZ19g := grd_s huZ19
    cases h
    exact ZL (ZA cZ15 (ZA hkZ16a (ZA hkZ16b (ZA hyZ17 (ZA hyZ18a (ZA hyZ18b huZ19g)))))) (ZA S_impl_RingCapacityL2.eq_1 SX_impl_RingCapacityL2.eq_1)
  · cases h
    exact ZL cZ15 (ZA S_impl_RingCapacityL2.eq_1 SX_impl_RingCapacityL2.eq_1)
theorem w_impl_RingCapacity (nZ0 : TNetwork) (ringZ0 : List Int) (workingZ0 : List Int) {r : Int × Bool} (h : M_impl_RingCapacity nZ0 ringZ0 workingZ0 = some r) : Ok Try.prog 25 [.agg [.lst .o 1 (nZ0.Nodes.map AV.z), .lst .o 4 (nZ0.Fibers.map (e_TFiber .o))], .lst .o 1 (ringZ0.map AV.i), .lst .o 1 (workingZ0.map AV.i)] ((fun r => .tup [.i r.1, .b r.2]) r) := by
  refine ok_of_body hmix m25 rfl ?_
  unfold M_impl_RingCapacity at h
  simp only [ZC, A25, V25, body_eq]
  obtain ⟨oZ5, hoZ5, h⟩ := bind_s h
  try refine ZF trivial ?_
  refine join_rule0 (sh := (fun v => ⟨[(1, .lst .o 1 (ringZ0.map AV.i)), (2, .lst .o 1 (workingZ0.map AV.i)), (3, .pt 3 0 0), (30, .b v)], [(3, .var (.agg [.lst .o 1 (nZ0.Nodes.map AV.z), .lst .o 4 (nZ0.Fibers.map (e_TFiber .o))]))]⟩)) (s := oZ5) ?_ ?_
  · replace h := hoZ5
    obtain ⟨rZ1, hrZ1, h⟩ := bind_s h
    refine ZF trivial ?_
    refine ZS trivial (w_impl_IsRing _ _ hrZ1) ?_
    refine ZG ?_
    obtain ⟨cZ2, h⟩ | ⟨cZ2, h⟩ := cond_s h
    · cases h
      exact ZL cZ2 trivial
    · obtain ⟨cZ3, h⟩ | ⟨cZ3, h⟩ := cond_s h
      · cases h
        exact ZL (ZA cZ2 cZ3) trivial
      · obtain ⟨rZ4, hrZ4, h⟩ := bind_s h
        refine ZF (ZA cZ2 cZ3) ?_
        refine ZS (ZA cZ2 cZ3) (w_slices_ContainsFunc_Lint_int _ _ hrZ4 56 [] ⟨fun ρ k => by simp only [VS1, VS2, VS3, VS4, VS5, VS6, VT1, VT2, finM_ret, finM_nrm, decide_true, decide_false, List.nodup_nil, List.nodup_cons, oks_p, oks_m, oks_h, ne_eq, not_false_eq_true, Int.reduceEq, Int.reduceNe, true_and, Nat.reduceSub, Nat.reduceMul, ↓reduceIte, reduceCtorEq, Nat.reduceEqDiff, Nat.reduceAdd, Nat.reduceLeDiff, Int.reduceLE], by simp [mentsL, AV.ments]⟩ (fun _ _ h => w_impl_RingCapacity_c1 _ h)) ?_
        refine ZG ?_
        cases h
        exact ZL (ZA cZ2 cZ3) trivial
  · simp only [ZC, A25R1]
    obtain ⟨cZ6, h⟩ | ⟨cZ6, h⟩ := cond_s h
    · cases h
      exact ZL cZ6 V25.eq_1
    · obtain ⟨rZ7, hrZ7, h⟩ := bind_s h
      refine ZF cZ6 ?_
      refine ZU cZ6 (w_impl_protected _ _ hrZ7) ?_
      refine ZG ?_
      obtain ⟨oZ13, hoZ13, h⟩ := bind_s h
      try refine ZF cZ6 ?_
      refine join_rule0 (blk_rule0 (loop_rule (w_impl_RingCapacityL1 workingZ0 rZ7) hoZ13 ?_)) ?_
      · exact ZK (ZA S_impl_RingCapacityL1.eq_1 SX_impl_RingCapacityL1.eq_1)
      · simp only [ZC, SX_impl_RingCapacityL1, A25R3]
        obtain ⟨oZ20, hoZ20, h⟩ := bind_s h
        try refine ZF cZ6 ?_
        refine join_rule0 (blk_rule0 (loop_rule (w_impl_RingCapacityL2 workingZ0 rZ7) hoZ20 ?_)) ?_
        · exact ZK (ZA S_impl_RingCapacityL2.eq_1 SX_impl_RingCapacityL2.eq_1)
        · simp only [ZC, SX_impl_RingCapacityL2, A25R5]
          cases h
          exact ZL cZ6 V25.eq_1
def S_laws_eqStringSL1 (aZ0 : List ByteArray) (bZ0 : List ByteArray) (v : Int) : St := ⟨[(0, .lst .o 1 (aZ0.map AV.z)), (1, .lst .o 1 (bZ0.map AV.z)), (5, .i v)], []⟩
def SX_laws_eqStringSL1 (v : Unit) : St := ⟨[], []⟩
theorem w_laws_eqStringSL1 (aZ0 : List ByteArray) (bZ0 : List ByteArray) (sZ2 : Int) (o : Int ⊕ (Unit ⊕ Bool)) (h : M_laws_eqStringSL1 aZ0 bZ0 sZ2 = some o) : AWP (OkS Try.prog) A44L1 (qL [0, 1, 5] [] (S_laws_eqStringSL1 aZ0 bZ0) (qS (qX 0 [] [] (SX_laws_eqStringSL1)) (qR V44 (fun r => .b r))) o) (S_laws_eqStringSL1 aZ0 bZ0 sZ2) := by
  unfold M_laws_eqStringSL1 at h
  simp only [ZC, S_laws_eqStringSL1, A44L1]
  obtain ⟨cZ3, h⟩ | ⟨cZ3, h⟩ := cond_s h
  · obtain ⟨yZ4, hyZ4, h⟩ := bind_s h
    obtain ⟨hyZ4a, hyZ4b⟩ := geti_s hyZ4
    obtain ⟨yZ5, hyZ5, h⟩ := bind_s h
    obtain ⟨hyZ5a, hyZ5b⟩ := geti_s hyZ5
    obtain ⟨cZ6, h⟩ | ⟨cZ6, h⟩ := cond_s h
    · cases h
      exact ZL (ZA cZ3 (ZA hyZ4a (ZA hyZ4b (ZA hyZ5a (ZA hyZ5b cZ6))))) V44.eq_1
    · cases h
      exact ZL (ZA cZ3 (ZA hyZ4a (ZA hyZ4b (ZA hyZ5a (ZA hyZ5b cZ6))))) (ZA S_laws_eqStringSL1.eq_1 SX_laws_eqStringSL1.eq_1)
  · cases h
    exact ZL cZ3 (ZA S_laws_eqStringSL1.eq_1 SX_laws_eqStringSL1.eq_1)
theorem w_laws_eqStringS (aZ0 : List ByteArray) (bZ0 : List ByteArray) {r : Bool} (h : M_laws_eqStringS aZ0 bZ0 = some r) : Ok Try.prog 44 [.lst .o 1 (aZ0.map AV.z), .lst .o 1 (bZ0.map AV.z)] ((fun r => .b r) r) := by
  refine ok_of_body hmix m44 rfl ?_
  unfold M_laws_eqStringS at h
  simp only [ZC, A44, V44, body_eq]
  obtain ⟨cZ1, h⟩ | ⟨cZ1, h⟩ := cond_s h
  · cases h
    exact ZL cZ1 V44.eq_1
  · obtain ⟨oZ7, hoZ7, h⟩ := bind_s h
    try refine ZF cZ1 ?_
    refine join_rule (o := oZ7) (blk_rule sideR (loop_rule (w_laws_eqStringSL1 aZ0 bZ0) hoZ7 ?_)) (fun vZ8 hv => ?_) (fun xZ9 hv e τ hne hq => ?_)
    · exact ZK (ZA S_laws_eqStringSL1.eq_1 SX_laws_eqStringSL1.eq_1)
    · subst hv
      simp only [] at h
      simp only [ZC, SX_laws_eqStringSL1, A44R2]
      cases h
      exact ZL cZ1 V44.eq_1
    · subst hv
      simp only [] at h
      obtain ⟨rfl, qZ10⟩ := hq
      cases h
      exact qZ10
theorem w_laws_eqFiber (aZ0 : TFiber) (bZ0 : TFiber) {r : Bool} (h : M_laws_eqFiber aZ0 bZ0 = some r) : Ok Try.prog 80 [.agg [.i aZ0.A, .i aZ0.B, .i aZ0.Length, .i aZ0.Risk], .agg [.i bZ0.A, .i bZ0.B, .i bZ0.Length, .i bZ0.Risk]] ((fun r => .b r) r) := by
  refine ok_of_body hmix m80 rfl ?_
  unfold M_laws_eqFiber at h
  simp only [ZC, A80, V80, body_eq]
  obtain ⟨cZ1, h⟩ | ⟨cZ1, h⟩ := cond_s h
  · cases h
    exact ZL cZ1 V80.eq_1
  · obtain ⟨cZ2, h⟩ | ⟨cZ2, h⟩ := cond_s h
    · cases h
      exact ZL (ZA cZ1 cZ2) V80.eq_1
    · obtain ⟨cZ3, h⟩ | ⟨cZ3, h⟩ := cond_s h
      · cases h
        exact ZL (ZA cZ1 (ZA cZ2 cZ3)) V80.eq_1
      · obtain ⟨cZ4, h⟩ | ⟨cZ4, h⟩ := cond_s h
        · cases h
          exact ZL (ZA cZ1 (ZA cZ2 (ZA cZ3 cZ4))) V80.eq_1
        · cases h
          exact ZL (ZA cZ1 (ZA cZ2 (ZA cZ3 cZ4))) V80.eq_1
def S_laws_eqFiberSL1 (aZ0 : List TFiber) (bZ0 : List TFiber) (v : Int) : St := ⟨[(0, .lst .o 4 (aZ0.map (e_TFiber .o))), (1, .lst .o 4 (bZ0.map (e_TFiber .o))), (5, .i v)], []⟩
def SX_laws_eqFiberSL1 (v : Unit) : St := ⟨[], []⟩
theorem w_laws_eqFiberSL1 (aZ0 : List TFiber) (bZ0 : List TFiber) (sZ2 : Int) (o : Int ⊕ (Unit ⊕ Bool)) (h : M_laws_eqFiberSL1 aZ0 bZ0 sZ2 = some o) : AWP (OkS Try.prog) A45L1 (qL [0, 1, 5] [] (S_laws_eqFiberSL1 aZ0 bZ0) (qS (qX 0 [] [] (SX_laws_eqFiberSL1)) (qR V45 (fun r => .b r))) o) (S_laws_eqFiberSL1 aZ0 bZ0 sZ2) := by
  unfold M_laws_eqFiberSL1 at h
  simp only [ZC, S_laws_eqFiberSL1, A45L1]
  obtain ⟨cZ3, h⟩ | ⟨cZ3, h⟩ := cond_s h
  · obtain ⟨yZ4, hyZ4, h⟩ := bind_s h
    obtain ⟨hyZ4a, hyZ4b⟩ := geti_s hyZ4
    obtain ⟨yZ5, hyZ5, h⟩ := bind_s h
    obtain ⟨hyZ5a, hyZ5b⟩ := geti_s hyZ5
    obtain ⟨rZ6, hrZ6, h⟩ := bind_s h
    refine ZF (ZA cZ3 (ZA hyZ4a (ZA hyZ4b (ZA hyZ5a hyZ5b)))) ?_
    refine ZS (ZA cZ3 (ZA hyZ4a (ZA hyZ4b (ZA hyZ5a hyZ5b)))) (w_laws_eqFiber _ _ hrZ6) ?_
    refine ZG ?_
    obtain ⟨cZ7, h⟩ | ⟨cZ7, h⟩ := cond_s h
    · cases h
      exact ZL (ZA cZ3 (ZA hyZ4a (ZA hyZ4b (ZA hyZ5a (ZA hyZ5b cZ7))))) V45.eq_1
    · cases h
      exact ZL (ZA cZ3 (ZA hyZ4a (ZA hyZ4b (ZA hyZ5a (ZA hyZ5b cZ7))))) (ZA S_laws_eqFiberSL1.eq_1 SX_laws_eqFiberSL1.eq_1)
  · cases h
    exact ZL cZ3 (ZA S_laws_eqFiberSL1.eq_1 SX_laws_eqFiberSL1.eq_1)
theorem w_laws_eqFiberS (aZ0 : List TFiber) (bZ0 : List TFiber) {r : Bool} (h : M_laws_eqFiberS aZ0 bZ0 = some r) : Ok Try.prog 45 [.lst .o 4 (aZ0.map (e_TFiber .o)), .lst .o 4 (bZ0.map (e_TFiber .o))] ((fun r => .b r) r) := by
  refine ok_of_body hmix m45 rfl ?_
  unfold M_laws_eqFiberS at h
  simp only [ZC, A45, V45, body_eq]
  obtain ⟨cZ1, h⟩ | ⟨cZ1, h⟩ := cond_s h
  · cases h
    exact ZL cZ1 V45.eq_1
  · obtain ⟨oZ8, hoZ8, h⟩ := bind_s h
    try refine ZF cZ1 ?_
    refine join_rule (o := oZ8) (blk_rule sideR (loop_rule (w_laws_eqFiberSL1 aZ0 bZ0) hoZ8 ?_)) (fun vZ9 hv => ?_) (fun xZ10 hv e τ hne hq => ?_)
    · exact ZK (ZA S_laws_eqFiberSL1.eq_1 SX_laws_eqFiberSL1.eq_1)
    · subst hv
      simp only [] at h
      simp only [ZC, SX_laws_eqFiberSL1, A45R2]
      cases h
      exact ZL cZ1 V45.eq_1
    · subst hv
      simp only [] at h
      obtain ⟨rfl, qZ11⟩ := hq
      cases h
      exact qZ11
theorem w_laws_eqNetwork (aZ0 : TNetwork) (bZ0 : TNetwork) {r : Bool} (h : M_laws_eqNetwork aZ0 bZ0 = some r) : Ok Try.prog 15 [.agg [.lst .o 1 (aZ0.Nodes.map AV.z), .lst .o 4 (aZ0.Fibers.map (e_TFiber .o))], .agg [.lst .o 1 (bZ0.Nodes.map AV.z), .lst .o 4 (bZ0.Fibers.map (e_TFiber .o))]] ((fun r => .b r) r) := by
  refine ok_of_body hmix m15 rfl ?_
  unfold M_laws_eqNetwork at h
  simp only [ZC, A15, V15, body_eq]
  obtain ⟨rZ1, hrZ1, h⟩ := bind_s h
  refine ZF trivial ?_
  refine ZS trivial (w_laws_eqStringS _ _ hrZ1) ?_
  refine ZG ?_
  obtain ⟨cZ2, h⟩ | ⟨cZ2, h⟩ := cond_s h
  · cases h
    exact ZL cZ2 V15.eq_1
  · obtain ⟨rZ3, hrZ3, h⟩ := bind_s h
    refine ZF cZ2 ?_
    refine ZS cZ2 (w_laws_eqFiberS _ _ hrZ3) ?_
    refine ZG ?_
    obtain ⟨cZ4, h⟩ | ⟨cZ4, h⟩ := cond_s h
    · cases h
      exact ZL (ZA cZ2 cZ4) V15.eq_1
    · cases h
      exact ZL (ZA cZ2 cZ4) V15.eq_1
def S_laws_eqIntSL1 (aZ0 : List Int) (bZ0 : List Int) (v : Int) : St := ⟨[(0, .lst .o 1 (aZ0.map AV.i)), (1, .lst .o 1 (bZ0.map AV.i)), (5, .i v)], []⟩
def SX_laws_eqIntSL1 (v : Unit) : St := ⟨[], []⟩
theorem w_laws_eqIntSL1 (aZ0 : List Int) (bZ0 : List Int) (sZ2 : Int) (o : Int ⊕ (Unit ⊕ Bool)) (h : M_laws_eqIntSL1 aZ0 bZ0 sZ2 = some o) : AWP (OkS Try.prog) A16L1 (qL [0, 1, 5] [] (S_laws_eqIntSL1 aZ0 bZ0) (qS (qX 0 [] [] (SX_laws_eqIntSL1)) (qR V16 (fun r => .b r))) o) (S_laws_eqIntSL1 aZ0 bZ0 sZ2) := by
  unfold M_laws_eqIntSL1 at h
  simp only [ZC, S_laws_eqIntSL1, A16L1]
  obtain ⟨cZ3, h⟩ | ⟨cZ3, h⟩ := cond_s h
  · obtain ⟨yZ4, hyZ4, h⟩ := bind_s h
    obtain ⟨hyZ4a, hyZ4b⟩ := geti_s hyZ4
    obtain ⟨yZ5, hyZ5, h⟩ := bind_s h
    obtain ⟨hyZ5a, hyZ5b⟩ := geti_s hyZ5
    obtain ⟨cZ6, h⟩ | ⟨cZ6, h⟩ := cond_s h
    · cases h
      exact ZL (ZA cZ3 (ZA hyZ4a (ZA hyZ4b (ZA hyZ5a (ZA hyZ5b cZ6))))) V16.eq_1
    · cases h
      exact ZL (ZA cZ3 (ZA hyZ4a (ZA hyZ4b (ZA hyZ5a (ZA hyZ5b cZ6))))) (ZA S_laws_eqIntSL1.eq_1 SX_laws_eqIntSL1.eq_1)
  · cases h
    exact ZL cZ3 (ZA S_laws_eqIntSL1.eq_1 SX_laws_eqIntSL1.eq_1)
theorem w_laws_eqIntS (aZ0 : List Int) (bZ0 : List Int) {r : Bool} (h : M_laws_eqIntS aZ0 bZ0 = some r) : Ok Try.prog 16 [.lst .o 1 (aZ0.map AV.i), .lst .o 1 (bZ0.map AV.i)] ((fun r => .b r) r) := by
  refine ok_of_body hmix m16 rfl ?_
  unfold M_laws_eqIntS at h
  simp only [ZC, A16, V16, body_eq]
  obtain ⟨cZ1, h⟩ | ⟨cZ1, h⟩ := cond_s h
  · cases h
    exact ZL cZ1 V16.eq_1
  · obtain ⟨oZ7, hoZ7, h⟩ := bind_s h
    try refine ZF cZ1 ?_
    refine join_rule (o := oZ7) (blk_rule sideR (loop_rule (w_laws_eqIntSL1 aZ0 bZ0) hoZ7 ?_)) (fun vZ8 hv => ?_) (fun xZ9 hv e τ hne hq => ?_)
    · exact ZK (ZA S_laws_eqIntSL1.eq_1 SX_laws_eqIntSL1.eq_1)
    · subst hv
      simp only [] at h
      simp only [ZC, SX_laws_eqIntSL1, A16R2]
      cases h
      exact ZL cZ1 V16.eq_1
    · subst hv
      simp only [] at h
      obtain ⟨rfl, qZ10⟩ := hq
      cases h
      exact qZ10
theorem w_laws_FnExactRingCapacity (aNZ0 : TNetwork) (aRingZ0 : List Int) (aWorkingZ0 : List Int) {r : Bool} (h : M_laws_FnExactRingCapacity aNZ0 aRingZ0 aWorkingZ0 = some r) : Ok Try.prog 6 [.agg [.lst .o 1 (aNZ0.Nodes.map AV.z), .lst .o 4 (aNZ0.Fibers.map (e_TFiber .o))], .lst .o 1 (aRingZ0.map AV.i), .lst .o 1 (aWorkingZ0.map AV.i)] ((fun r => .b r) r) := by
  refine ok_of_body hmix m6 rfl ?_
  unfold M_laws_FnExactRingCapacity at h
  simp only [ZC, A6, V6, body_eq]
  obtain ⟨cZ1, h⟩ | ⟨cZ1, h⟩ := cond_s h
  · cases h
    exact ZL cZ1 V6.eq_1
  · obtain ⟨cZ2, h⟩ | ⟨cZ2, h⟩ := cond_s h
    · cases h
      exact ZL (ZA cZ1 cZ2) V6.eq_1
    · obtain ⟨rZ3, hrZ3, h⟩ := bind_s h
      refine ZF (ZA cZ1 cZ2) ?_
      refine ZS (ZA cZ1 cZ2) (w_laws_szNetwork _ _ hrZ3) ?_
      refine ZG ?_
      obtain ⟨cZ4, h⟩ | ⟨cZ4, h⟩ := cond_s h
      · cases h
        exact ZL (ZA cZ1 (ZA cZ2 cZ4)) V6.eq_1
      · obtain ⟨rZ5, hrZ5, h⟩ := bind_s h
        refine ZF (ZA cZ1 (ZA cZ2 cZ4)) ?_
        refine ZU (ZA cZ1 (ZA cZ2 cZ4)) (w_laws_toNetwork _ hrZ5) ?_
        refine ZG ?_
        obtain ⟨rZ6, hrZ6, h⟩ := bind_s h
        refine ZF (ZA cZ1 (ZA cZ2 cZ4)) ?_
        refine ZU (ZA cZ1 (ZA cZ2 cZ4)) (w_laws_toIntS _ hrZ6) ?_
        refine ZG ?_
        obtain ⟨rZ7, hrZ7, h⟩ := bind_s h
        refine ZF (ZA cZ1 (ZA cZ2 cZ4)) ?_
        refine ZU (ZA cZ1 (ZA cZ2 cZ4)) (w_laws_toIntS _ hrZ7) ?_
        refine ZG ?_
        obtain ⟨rZ8, hrZ8, h⟩ := bind_s h
        refine ZF (ZA cZ1 (ZA cZ2 cZ4)) ?_
        refine ZU (ZA cZ1 (ZA cZ2 cZ4)) (w_spec_RingCapacity _ _ _ hrZ8) ?_
        refine ZG ?_
        obtain ⟨rZ9, hrZ9, h⟩ := bind_s h
        refine ZF (ZA cZ1 (ZA cZ2 cZ4)) ?_
        refine ZU (ZA cZ1 (ZA cZ2 cZ4)) (w_laws_toNetwork _ hrZ9) ?_
        refine ZG ?_
        obtain ⟨rZ10, hrZ10, h⟩ := bind_s h
        refine ZF (ZA cZ1 (ZA cZ2 cZ4)) ?_
        refine ZU (ZA cZ1 (ZA cZ2 cZ4)) (w_laws_toIntS _ hrZ10) ?_
        refine ZG ?_
        obtain ⟨rZ11, hrZ11, h⟩ := bind_s h
        refine ZF (ZA cZ1 (ZA cZ2 cZ4)) ?_
        refine ZU (ZA cZ1 (ZA cZ2 cZ4)) (w_laws_toIntS _ hrZ11) ?_
        refine ZG ?_
        obtain ⟨rZ12, hrZ12, h⟩ := bind_s h
        refine ZF (ZA cZ1 (ZA cZ2 cZ4)) ?_
        refine ZU (ZA cZ1 (ZA cZ2 cZ4)) (w_impl_RingCapacity _ _ _ hrZ12) ?_
        refine ZG ?_
        obtain ⟨oZ14, hoZ14, h⟩ := bind_s h
        try refine ZF (ZA cZ1 (ZA cZ2 cZ4)) ?_
        refine join_rule0 (sh := (fun v => ⟨[(1, .lst .o 1 (aRingZ0.map AV.i)), (2, .lst .o 1 (aWorkingZ0.map AV.i)), (3, .pt 3 0 0), (10, .pt 10 0 0), (11, .sl 11 0 rZ10.length), (12, .sl 12 0 rZ11.length), (56, .b v)], [(3, .var (.agg [.lst .o 1 (aNZ0.Nodes.map AV.z), .lst .o 4 (aNZ0.Fibers.map (e_TFiber .o))])), (10, .var (.agg [.sl 37 0 rZ9.Nodes.length, .sl 1037 0 rZ9.Fibers.length])), (11, .arr 1 (rZ10.map AV.i)), (12, .arr 1 (rZ11.map AV.i)), (37, .arr 1 (rZ9.Nodes.map AV.z)), (1037, .arr 4 (rZ9.Fibers.map (e_TFiber .u)))]⟩)) (s := oZ14) ?_ ?_
        · replace h := hoZ14
          obtain ⟨cZ13, h⟩ | ⟨cZ13, h⟩ := cond_s h
          · cases h
            exact ZL (ZA cZ1 (ZA cZ2 (ZA cZ4 cZ13))) trivial
          · cases h
            exact ZL (ZA cZ1 (ZA cZ2 (ZA cZ4 cZ13))) trivial
        · simp only [ZC, A6R1]
          obtain ⟨cZ15, h⟩ | ⟨cZ15, h⟩ := cond_s h
          · cases h
            exact ZL (ZA cZ1 (ZA cZ2 (ZA cZ4 cZ15))) V6.eq_1
          · obtain ⟨rZ16, hrZ16, h⟩ := bind_s h
            refine ZF (ZA cZ1 (ZA cZ2 (ZA cZ4 cZ15))) ?_
            refine ZU (ZA cZ1 (ZA cZ2 (ZA cZ4 cZ15))) (w_laws_toNetwork _ hrZ16) ?_
            refine ZG ?_
            obtain ⟨rZ17, hrZ17, h⟩ := bind_s h
            refine ZF (ZA cZ1 (ZA cZ2 (ZA cZ4 cZ15))) ?_
            refine ZS (ZA cZ1 (ZA cZ2 (ZA cZ4 cZ15))) (w_laws_eqNetwork _ _ hrZ17) ?_
            refine ZG ?_
            obtain ⟨cZ18, h⟩ | ⟨cZ18, h⟩ := cond_s h
            · cases h
              exact ZL (ZA cZ1 (ZA cZ2 (ZA cZ4 (ZA cZ15 cZ18)))) V6.eq_1
            · obtain ⟨rZ19, hrZ19, h⟩ := bind_s h
              refine ZF (ZA cZ1 (ZA cZ2 (ZA cZ4 (ZA cZ15 cZ18)))) ?_
              refine ZU (ZA cZ1 (ZA cZ2 (ZA cZ4 (ZA cZ15 cZ18)))) (w_laws_toIntS _ hrZ19) ?_
              refine ZG ?_
              obtain ⟨rZ20, hrZ20, h⟩ := bind_s h
              refine ZF (ZA cZ1 (ZA cZ2 (ZA cZ4 (ZA cZ15 cZ18)))) ?_
              refine ZS (ZA cZ1 (ZA cZ2 (ZA cZ4 (ZA cZ15 cZ18)))) (w_laws_eqIntS _ _ hrZ20) ?_
              refine ZG ?_
              obtain ⟨cZ21, h⟩ | ⟨cZ21, h⟩ := cond_s h
              · cases h
                exact ZL (ZA cZ1 (ZA cZ2 (ZA cZ4 (ZA cZ15 (ZA cZ18 cZ21))))) V6.eq_1
              · obtain ⟨rZ22, hrZ22, h⟩ := bind_s h
                refine ZF (ZA cZ1 (ZA cZ2 (ZA cZ4 (ZA cZ15 (ZA cZ18 cZ21))))) ?_
                refine ZU (ZA cZ1 (ZA cZ2 (ZA cZ4 (ZA cZ15 (ZA cZ18 cZ21))))) (w_laws_toIntS _ hrZ22) ?_
                refine ZG ?_
                obtain ⟨rZ23, hrZ23, h⟩ := bind_s h
                refine ZF (ZA cZ1 (ZA cZ2 (ZA cZ4 (ZA cZ15 (ZA cZ18 cZ21))))) ?_
                refine ZS (ZA cZ1 (ZA cZ2 (ZA cZ4 (ZA cZ15 (ZA cZ18 cZ21))))) (w_laws_eqIntS _ _ hrZ23) ?_
                refine ZG ?_
                obtain ⟨cZ24, h⟩ | ⟨cZ24, h⟩ := cond_s h
                · cases h
                  exact ZL (ZA cZ1 (ZA cZ2 (ZA cZ4 (ZA cZ15 (ZA cZ18 (ZA cZ21 cZ24)))))) V6.eq_1
                · cases h
                  exact ZL (ZA cZ1 (ZA cZ2 (ZA cZ4 (ZA cZ15 (ZA cZ18 (ZA cZ21 cZ24)))))) V6.eq_1
end Vs

