/-
  Part of the proof that the law FnExactGroupImportance returns true at every input; no condition beside the row's own.
-/
import Derived.Test.YtgafcocdchcgeaaAa
set_option linter.defProp false
set_option linter.unusedSimpArgs false
set_option linter.unusedVariables false
set_option maxHeartbeats 1000000
set_option maxRecDepth 8000
namespace Vs
open Go Go.Proofs
attribute [local irreducible] AWP stOps eff awpC callA callM
theorem VT1 : (∀ (f : Fl) (x : TFiber), e_TFiber f x = .agg [.i x.A, .i x.B, .i x.Length, .i x.Risk]) ∧
  (∀ (f : Fl) (x : TNetwork), e_TNetwork f x = .agg [.lst f 1 (x.Nodes.map AV.z), .lst f 4 (x.Fibers.map (e_TFiber f))]) ∧
  (∀ (f : Fl) (x : TOutage), e_TOutage f x = .agg [.i x.Unit, .lst f 1 (x.Down.map AV.i)]) ∧
  (∀ (f : Fl) (x : List Int), e_Li f x = .lst f 1 (x.map AV.i)) := ⟨fun _ _ => rfl, fun _ _ => rfl, fun _ _ => rfl, fun _ _ => rfl⟩
theorem VT2 : (∀ (f : Fl) (x : TFiber), (e_TFiber f x).nrm = e_TFiber .o x) ∧
  (∀ (f : Fl) (xs : List TFiber), (xs.map (e_TFiber f)).map AV.nrm = xs.map (e_TFiber .o)) ∧
  (∀ (f : Fl) (x : TFiber), (e_TFiber f x).als = e_TFiber f.als x) ∧
  (∀ (f : Fl) (xs : List TFiber), (xs.map (e_TFiber f)).map AV.als = xs.map (e_TFiber f.als)) ∧
  (∀ (f : Fl) (x : TFiber), (e_TFiber f x).fix = e_TFiber f.fix x) ∧
  (∀ (f : Fl) (xs : List TFiber), (xs.map (e_TFiber f)).map AV.fix = xs.map (e_TFiber f.fix)) ∧
  (∀ (f : Fl) (x : TNetwork), (e_TNetwork f x).nrm = e_TNetwork .o x) ∧
  (∀ (f : Fl) (xs : List TNetwork), (xs.map (e_TNetwork f)).map AV.nrm = xs.map (e_TNetwork .o)) ∧
  (∀ (f : Fl) (x : TNetwork), (e_TNetwork f x).als = e_TNetwork f.als x) ∧
  (∀ (f : Fl) (xs : List TNetwork), (xs.map (e_TNetwork f)).map AV.als = xs.map (e_TNetwork f.als)) ∧
  (∀ (f : Fl) (x : TNetwork), (e_TNetwork f x).fix = e_TNetwork f.fix x) ∧
  (∀ (f : Fl) (xs : List TNetwork), (xs.map (e_TNetwork f)).map AV.fix = xs.map (e_TNetwork f.fix)) ∧
  (∀ (f : Fl) (x : TOutage), (e_TOutage f x).nrm = e_TOutage .o x) ∧
  (∀ (f : Fl) (xs : List TOutage), (xs.map (e_TOutage f)).map AV.nrm = xs.map (e_TOutage .o)) ∧
  (∀ (f : Fl) (x : TOutage), (e_TOutage f x).als = e_TOutage f.als x) ∧
  (∀ (f : Fl) (xs : List TOutage), (xs.map (e_TOutage f)).map AV.als = xs.map (e_TOutage f.als)) ∧
  (∀ (f : Fl) (x : TOutage), (e_TOutage f x).fix = e_TOutage f.fix x) ∧
  (∀ (f : Fl) (xs : List TOutage), (xs.map (e_TOutage f)).map AV.fix = xs.map (e_TOutage f.fix)) ∧
  (∀ (f : Fl) (x : List Int), (e_Li f x).nrm = e_Li .o x) ∧
  (∀ (f : Fl) (xs : List (List Int)), (xs.map (e_Li f)).map AV.nrm = xs.map (e_Li .o)) ∧
  (∀ (f : Fl) (x : List Int), (e_Li f x).als = e_Li f.als x) ∧
  (∀ (f : Fl) (xs : List (List Int)), (xs.map (e_Li f)).map AV.als = xs.map (e_Li f.als)) ∧
  (∀ (f : Fl) (x : List Int), (e_Li f x).fix = e_Li f.fix x) ∧
  (∀ (f : Fl) (xs : List (List Int)), (xs.map (e_Li f)).map AV.fix = xs.map (e_Li f.fix)) :=
  ⟨@e_TFiber_nrm, @e_TFiber_nrmm, @e_TFiber_als, @e_TFiber_alsm, @e_TFiber_fix, @e_TFiber_fixm, @e_TNetwork_nrm, @e_TNetwork_nrmm, @e_TNetwork_als, @e_TNetwork_alsm, @e_TNetwork_fix, @e_TNetwork_fixm, @e_TOutage_nrm, @e_TOutage_nrmm, @e_TOutage_als, @e_TOutage_alsm, @e_TOutage_fix, @e_TOutage_fixm, @e_Li_nrm, @e_Li_nrmm, @e_Li_als, @e_Li_alsm, @e_Li_fix, @e_Li_fixm⟩
theorem VF1 : (∀ (f : Fl) (x : TFiber), (e_TFiber f x).fix = e_TFiber f.fix x) ∧
  (∀ (f : Fl) (xs : List TFiber), (xs.map (e_TFiber f)).map AV.fix = xs.map (e_TFiber f.fix)) ∧
  (∀ (f : Fl) (x : TNetwork), (e_TNetwork f x).fix = e_TNetwork f.fix x) ∧
  (∀ (f : Fl) (xs : List TNetwork), (xs.map (e_TNetwork f)).map AV.fix = xs.map (e_TNetwork f.fix)) ∧
  (∀ (f : Fl) (x : TOutage), (e_TOutage f x).fix = e_TOutage f.fix x) ∧
  (∀ (f : Fl) (xs : List TOutage), (xs.map (e_TOutage f)).map AV.fix = xs.map (e_TOutage f.fix)) ∧
  (∀ (f : Fl) (x : List Int), (e_Li f x).fix = e_Li f.fix x) ∧
  (∀ (f : Fl) (xs : List (List Int)), (xs.map (e_Li f)).map AV.fix = xs.map (e_Li f.fix)) :=
  ⟨@e_TFiber_fix, @e_TFiber_fixm, @e_TNetwork_fix, @e_TNetwork_fixm, @e_TOutage_fix, @e_TOutage_fixm, @e_Li_fix, @e_Li_fixm⟩
theorem VZ1 : (∀ (x : TFiber), (e_TFiber .o x).fz = true) ∧
  (∀ (xs : List TFiber), fzL (xs.map (e_TFiber .o)) = true) ∧
  (∀ (x : TFiber), (e_TFiber .u x).ouB = true) ∧
  (∀ (xs : List TFiber), ouBL (xs.map (e_TFiber .u)) = true) ∧
  (∀ (x : TNetwork), (e_TNetwork .o x).fz = true) ∧
  (∀ (xs : List TNetwork), fzL (xs.map (e_TNetwork .o)) = true) ∧
  (∀ (x : TNetwork), (e_TNetwork .u x).ouB = true) ∧
  (∀ (xs : List TNetwork), ouBL (xs.map (e_TNetwork .u)) = true) ∧
  (∀ (x : TOutage), (e_TOutage .o x).fz = true) ∧
  (∀ (xs : List TOutage), fzL (xs.map (e_TOutage .o)) = true) ∧
  (∀ (x : TOutage), (e_TOutage .u x).ouB = true) ∧
  (∀ (xs : List TOutage), ouBL (xs.map (e_TOutage .u)) = true) ∧
  (∀ (x : List Int), (e_Li .o x).fz = true) ∧
  (∀ (xs : List (List Int)), fzL (xs.map (e_Li .o)) = true) ∧
  (∀ (x : List Int), (e_Li .u x).ouB = true) ∧
  (∀ (xs : List (List Int)), ouBL (xs.map (e_Li .u)) = true) :=
  ⟨@e_TFiber_fz, @e_TFiber_fzm, @e_TFiber_ou, @e_TFiber_oum, @e_TNetwork_fz, @e_TNetwork_fzm, @e_TNetwork_ou, @e_TNetwork_oum, @e_TOutage_fz, @e_TOutage_fzm, @e_TOutage_ou, @e_TOutage_oum, @e_Li_fz, @e_Li_fzm, @e_Li_ou, @e_Li_oum⟩
theorem Zr {α : Type} (n : Nat) (a : α) : (List.replicate n a).length = n := List.length_replicate
theorem ZA {A B : Prop} (a : A) (b : B) : A ∧ B := ⟨a, b⟩
theorem ZF {A : Prop} (a : A) {P Q : Prop} (k : Q) (e : A → P = Q := by intro a; simp only [VS1, VS2, VS3, VS4, VS5, VS6, VT1, VT2, finM_ret, finM_nrm, decide_true, decide_false, List.nodup_nil, List.nodup_cons, oks_p, oks_m, oks_h, ne_eq, not_false_eq_true, Int.reduceEq, Int.reduceNe, true_and, false_and, Nat.reduceSub, Nat.reduceMul, ↓reduceIte, reduceCtorEq, Nat.reduceEqDiff, Nat.reduceAdd, Nat.reduceLeDiff, Int.reduceLE, a]; exact Eq.refl _) : P := (e a).mpr k
theorem ZG {P Q : Prop} (k : Q) (e : P = Q := by simp only [VA, VF1, ↓reduceIte, Nat.reduceEqDiff, Nat.reduceAdd, Nat.reduceMul, Nat.reduceSub, Nat.reduceLeDiff]; exact Eq.refl _) : P := e.mpr k
theorem ZL {A : Prop} (a : A) {B : Prop} (b : B) {P : Prop} (e : A → B → P := by intro a b; (try simp only [VS1, VS2, VS3, VS4, VS5, VS6, VT1, VT2, finM_ret, finM_nrm, decide_true, decide_false, List.nodup_nil, List.nodup_cons, oks_p, oks_m, oks_h, ne_eq, not_false_eq_true, Int.reduceEq, Int.reduceNe, true_and, false_and, Nat.reduceSub, Nat.reduceMul, ↓reduceIte, reduceCtorEq, Nat.reduceEqDiff, Nat.reduceAdd, Nat.reduceLeDiff, Int.reduceLE, a]); all_goals simp [qL, qJ, qJ0, qS, qX, qR, qM, Shp, sub, tupd, finM_ret, finM_nrm, VS1, VS2, VS3, VS4, VS5, VS6, VT1, VT2, b]) : P := e a b
theorem ZK {B : Prop} (b : B) {P : Prop} (e : B → P := by intro b; simp [qL, qJ, qJ0, qS, qX, qR, qM, Shp, sub, tupd, finM_ret, finM_nrm, VS1, VS2, VS3, VS4, VS5, VS6, VT1, VT2, b]) : P := e b
theorem ZS {A : Prop} (a : A) {W : Prop} (w : W) {ok : Oks} {ρ : Nat → Option Row} {d f : Nat} {args : List AV} {K : AV → List (Nat × Row) → Prop} {v : Value} (hk : K (.sc v) [])
    (e : A → W → ok.p f (args.map (snp ρ 4)) (.sc v) := by intro a w; simp only [VS1, VS2, VS3, VS4, VS5, VS6, VT1, VT2, finM_ret, finM_nrm, decide_true, decide_false, List.nodup_nil, List.nodup_cons, oks_p, oks_m, oks_h, ne_eq, not_false_eq_true, Int.reduceEq, Int.reduceNe, true_and, false_and, Nat.reduceSub, Nat.reduceMul, ↓reduceIte, reduceCtorEq, Nat.reduceEqDiff, Nat.reduceAdd, Nat.reduceLeDiff, Int.reduceLE, a]; exact w) : callA ok ρ d f args K := call_s (e a w) hk
theorem ZU {A : Prop} (a : A) {W : Prop} (w : W) {ok : Oks} {ρ : Nat → Option Row} {d f : Nat} {args : List AV} {K : AV → List (Nat × Row) → Prop} {res : AV} (hk : K (adopt 4 d res).1 (adopt 4 d res).2.1)
    (e : A → W → ok.p f (args.map (snp ρ 4)) res := by intro a w; simp only [VS1, VS2, VS3, VS4, VS5, VS6, VT1, VT2, finM_ret, finM_nrm, decide_true, decide_false, List.nodup_nil, List.nodup_cons, oks_p, oks_m, oks_h, ne_eq, not_false_eq_true, Int.reduceEq, Int.reduceNe, true_and, false_and, Nat.reduceSub, Nat.reduceMul, ↓reduceIte, reduceCtorEq, Nat.reduceEqDiff, Nat.reduceAdd, Nat.reduceLeDiff, Int.reduceLE, a]; exact w) (hu : res.allU := by simp [AV.allU, allUL, allUL_iff, VT1, VT2]) (hn : ∀ p ∈ (adopt 4 d res).2.1, ρ p.1 = none ∧ p.1 < 1000000000 := by simp only [VS1, VS2, VS3, VS4, VS5, VS6, VT1, VT2, finM_ret, finM_nrm, decide_true, decide_false, List.nodup_nil, List.nodup_cons, oks_p, oks_m, oks_h, ne_eq, not_false_eq_true, Int.reduceEq, Int.reduceNe, true_and, false_and, Nat.reduceSub, Nat.reduceMul, ↓reduceIte, reduceCtorEq, Nat.reduceEqDiff, Nat.reduceAdd, Nat.reduceLeDiff, Int.reduceLE, Nat.reduceLT]) : callA ok ρ d f args K := call_u (e a w) hu hn hk
theorem ZQ {P : Prop} (e : P := by simp [VS1, VS2, VS3, VS4, VS5, VS6, VT1, VT2]) : P := e
theorem ZW {A : Prop} (a : A) {W : Prop} (w : W) {ok : Oks} {ρ : Nat → Option Row} {d f : Nat} {args : List AV} {rs : List Nat} {K : AV → List (Nat × Row) → Prop} {res : AV} {outs : List (Nat × Row)}
    (e : A → W → ok.m f (args.map (AV.rg (cnm rs))) (rs.map (rowIn ρ rs)) res outs := by intro a w; simp only [VS1, VS2, VS3, VS4, VS5, VS6, VT1, VT2, finM_ret, finM_nrm, decide_true, decide_false, List.nodup_nil, List.nodup_cons, oks_p, oks_m, oks_h, ne_eq, not_false_eq_true, Int.reduceEq, Int.reduceNe, true_and, false_and, Nat.reduceSub, Nat.reduceMul, ↓reduceIte, reduceCtorEq, Nat.reduceEqDiff, Nat.reduceAdd, Nat.reduceLeDiff, Int.reduceLE, a]; first | exact w | (simp only [VS1, VS2, VS3, VS4, VS5, VS6, VT1, VT2, finM_ret, finM_nrm, decide_true, decide_false, List.nodup_nil, List.nodup_cons, oks_p, oks_m, oks_h, ne_eq, not_false_eq_true, Int.reduceEq, Int.reduceNe, true_and, false_and, Nat.reduceSub, Nat.reduceMul, ↓reduceIte, reduceCtorEq, Nat.reduceEqDiff, Nat.reduceAdd, Nat.reduceLeDiff, Int.reduceLE, a] at w; exact w))
    (h1 : rs.Nodup ∧ (∀ r ∈ rs, isLive (ρ r)) ∧ (∀ r ∈ rs, ∀ q ∈ oments (ρ r), q ∈ rs) ∧ (∀ r ∈ mentsL args, r ∈ rs) := by simp [VS1, VS2, VS3, VS4, VS5, VS6, VT1, VT2])
    (h2 : (outs.map fun p => bkn d rs p.1).Nodup ∧ (∀ p ∈ outs, 1000000000 ≤ p.1 → p.1 - 1000000000 < rs.length) ∧ (∀ p ∈ outs, p.1 < 1000000000 → ρ (bkn d rs p.1) = none ∧ bkn d rs p.1 < 1000000000))
    (hk : K (res.rg (bkn d rs)) (gone rs ++ outs.map (rowBk d rs))) : callM ok ρ d f args rs K := call_m (e a w) h1 h2 hk
def S_laws_szStringSL1 (aZ0 : List ByteArray) (v : Int × Int) : St := ⟨[(0, .lst .o 1 (aZ0.map AV.z)), (1, .i v.1), (5, .i v.2)], []⟩
def SX_laws_szStringSL1 (v : Int) : St := ⟨[(1, .i v)], []⟩
theorem w_laws_szStringSL1 (aZ0 : List ByteArray) (sZ2 : Int × Int) (o : (Int × Int) ⊕ (Int ⊕ Int)) (h : M_laws_szStringSL1 aZ0 sZ2 = some o) : AWP (OkS Try.prog) A59L1 (qL [0, 1, 5] [] (S_laws_szStringSL1 aZ0) (qS (qX 0 [1] [] (SX_laws_szStringSL1)) (qR V59 (fun r => .i r))) o) (S_laws_szStringSL1 aZ0 sZ2) := by
  unfold M_laws_szStringSL1 at h
  simp only [ZC, S_laws_szStringSL1, A59L1]
  obtain ⟨cZ3, h⟩ | ⟨cZ3, h⟩ := cond_s h
  · obtain ⟨yZ4, hyZ4, h⟩ := bind_s h
    obtain ⟨hyZ4a, hyZ4b⟩ := geti_s hyZ4
    obtain ⟨cZ5, h⟩ | ⟨cZ5, h⟩ := cond_s h
    · cases h
      exact ZL (ZA cZ3 (ZA hyZ4a (ZA hyZ4b cZ5))) V59.eq_1
    · cases h
      exact ZL (ZA cZ3 (ZA hyZ4a (ZA hyZ4b cZ5))) (ZA S_laws_szStringSL1.eq_1 SX_laws_szStringSL1.eq_1)
  · cases h
    exact ZL cZ3 (ZA S_laws_szStringSL1.eq_1 SX_laws_szStringSL1.eq_1)
theorem w_laws_szStringS (aZ0 : List ByteArray) (leftZ0 : Int) {r : Int} (h : M_laws_szStringS aZ0 leftZ0 = some r) : Ok Try.prog 59 [.lst .o 1 (aZ0.map AV.z), .i leftZ0] ((fun r => .i r) r) := by
  refine ok_of_body hmix m59 rfl ?_
  unfold M_laws_szStringS at h
  simp only [ZC, A59, V59, body_eq]
  obtain ⟨cZ1, h⟩ | ⟨cZ1, h⟩ := cond_s h
  · cases h
    exact ZL cZ1 V59.eq_1
  · obtain ⟨oZ6, hoZ6, h⟩ := bind_s h
    try refine ZF cZ1 ?_
    refine join_rule (o := oZ6) (blk_rule sideR (loop_rule (w_laws_szStringSL1 aZ0) hoZ6 ?_)) (fun vZ7 hv => ?_) (fun xZ8 hv e τ hne hq => ?_)
    · exact ZK (ZA S_laws_szStringSL1.eq_1 SX_laws_szStringSL1.eq_1)
    · subst hv
      simp only [] at h
      simp only [ZC, SX_laws_szStringSL1, A59R2]
      cases h
      exact ZL cZ1 V59.eq_1
    · subst hv
      simp only [] at h
      obtain ⟨rfl, qZ9⟩ := hq
      cases h
      exact qZ9
theorem w_laws_szFiberS (aZ0 : List TFiber) (leftZ0 : Int) {r : Int} (h : M_laws_szFiberS aZ0 leftZ0 = some r) : Ok Try.prog 60 [.lst .o 4 (aZ0.map (e_TFiber .o)), .i leftZ0] ((fun r => .i r) r) := by
  refine ok_of_body hmix m60 rfl ?_
  unfold M_laws_szFiberS at h
  simp only [ZC, A60, V60, body_eq]
  obtain ⟨cZ1, h⟩ | ⟨cZ1, h⟩ := cond_s h
  · cases h
    exact ZL cZ1 V60.eq_1
  · cases h
    exact ZL cZ1 V60.eq_1
theorem w_laws_szNetwork (aZ0 : TNetwork) (leftZ0 : Int) {r : Int} (h : M_laws_szNetwork aZ0 leftZ0 = some r) : Ok Try.prog 15 [.agg [.lst .o 1 (aZ0.Nodes.map AV.z), .lst .o 4 (aZ0.Fibers.map (e_TFiber .o))], .i leftZ0] ((fun r => .i r) r) := by
  refine ok_of_body hmix m15 rfl ?_
  unfold M_laws_szNetwork at h
  simp only [ZC, A15, V15, body_eq]
  obtain ⟨rZ1, hrZ1, h⟩ := bind_s h
  refine ZF trivial ?_
  refine ZS trivial (w_laws_szStringS _ _ hrZ1) ?_
  refine ZG ?_
  obtain ⟨cZ2, h⟩ | ⟨cZ2, h⟩ := cond_s h
  · cases h
    exact ZL cZ2 V15.eq_1
  · obtain ⟨rZ3, hrZ3, h⟩ := bind_s h
    refine ZF cZ2 ?_
    refine ZS cZ2 (w_laws_szFiberS _ _ hrZ3) ?_
    refine ZG ?_
    obtain ⟨cZ4, h⟩ | ⟨cZ4, h⟩ := cond_s h
    · cases h
      exact ZL (ZA cZ2 cZ4) V15.eq_1
    · cases h
      exact ZL (ZA cZ2 cZ4) V15.eq_1
theorem w_laws_szIntS (aZ0 : List Int) (leftZ0 : Int) {r : Int} (h : M_laws_szIntS aZ0 leftZ0 = some r) : Ok Try.prog 61 [.lst .o 1 (aZ0.map AV.i), .i leftZ0] ((fun r => .i r) r) := by
  refine ok_of_body hmix m61 rfl ?_
  unfold M_laws_szIntS at h
  simp only [ZC, A61, V61, body_eq]
  obtain ⟨cZ1, h⟩ | ⟨cZ1, h⟩ := cond_s h
  · cases h
    exact ZL cZ1 V61.eq_1
  · cases h
    exact ZL cZ1 V61.eq_1
theorem w_laws_szOutage (aZ0 : TOutage) (leftZ0 : Int) {r : Int} (h : M_laws_szOutage aZ0 leftZ0 = some r) : Ok Try.prog 16 [.agg [.i aZ0.Unit, .lst .o 1 (aZ0.Down.map AV.i)], .i leftZ0] ((fun r => .i r) r) := by
  refine ok_of_body hmix m16 rfl ?_
  unfold M_laws_szOutage at h
  simp only [ZC, A16, V16, body_eq]
  obtain ⟨rZ1, hrZ1, h⟩ := bind_s h
  refine ZF trivial ?_
  refine ZS trivial (w_laws_szIntS _ _ hrZ1) ?_
  refine ZG ?_
  obtain ⟨cZ2, h⟩ | ⟨cZ2, h⟩ := cond_s h
  · cases h
    exact ZL cZ2 V16.eq_1
  · cases h
    exact ZL cZ2 V16.eq_1
def S_laws_toStringSL1 (aZ0 : List ByteArray) (v : Int × List ByteArray) : St := ⟨[(0, .lst .o 1 (aZ0.map AV.z)), (3, .sl 3 0 v.2.length), (4, .i v.1)], [(3, .arr 1 (v.2.map AV.z))]⟩
def SX_laws_toStringSL1 (v : List ByteArray) : St := ⟨[(3, .sl 3 0 v.length)], [(3, .arr 1 (v.map AV.z))]⟩
theorem w_laws_toStringSL1 (aZ0 : List ByteArray) (sZ4 : Int × List ByteArray) (o : (Int × List ByteArray) ⊕ (List ByteArray)) (h : M_laws_toStringSL1 aZ0 sZ4 = some o) : AWP (OkS Try.prog) A63L1 (qL [0, 3, 4] [3] (S_laws_toStringSL1 aZ0) (qX 0 [3] [3] (SX_laws_toStringSL1)) o) (S_laws_toStringSL1 aZ0 sZ4) := by
  unfold M_laws_toStringSL1 at h
  simp only [ZC, S_laws_toStringSL1, A63L1]
  obtain ⟨cZ5, h⟩ | ⟨cZ5, h⟩ := cond_s h
  · obtain ⟨yZ6, hyZ6, h⟩ := bind_s h
    obtain ⟨hyZ6a, hyZ6b⟩ := geti_s hyZ6
    obtain ⟨kZ7, hkZ7, h⟩ := bind_s h
    obtain ⟨hkZ7a, hkZ7b⟩ := grd_s hkZ7
    obtain ⟨yZ8, hyZ8, h⟩ := bind_s h
    obtain ⟨lZ9, hlZ9, h⟩ := bnd_s h
    have eZ10 : (sZ4.2.map AV.z).set (Int.toNat sZ4.1) (.z yZ6) = lZ9.map AV.z := by rw [← hlZ9, List.map_set]
    cases h
    exact ZL (ZA cZ5 (ZA hyZ6a (ZA hyZ6b (ZA hkZ7a (ZA hkZ7b (ZA hyZ8 eZ10)))))) (ZA S_laws_toStringSL1.eq_1 (ZA SX_laws_toStringSL1.eq_1 hlZ9.symm))
  · cases h
    exact ZL cZ5 (ZA S_laws_toStringSL1.eq_1 SX_laws_toStringSL1.eq_1)
theorem w_laws_toStringS (aZ0 : List ByteArray) {r : List ByteArray} (h : M_laws_toStringS aZ0 = some r) : Ok Try.prog 63 [.lst .o 1 (aZ0.map AV.z)] ((fun r => .lst .u 1 (r.map AV.z)) r) := by
  refine ok_of_body hmix m63 rfl ?_
  unfold M_laws_toStringS at h
  simp only [ZC, A63, V63, body_eq]
  obtain ⟨uZ1, huZ1, h⟩ := bind_s h
  obtain ⟨huZ11, huZ12, huZ13, huZ14⟩ := grd_s huZ1
  obtain ⟨lZ2, hlZ2, h⟩ := bnd_s h
  have eZ3 : List.replicate (Int.toNat (aZ0.length : Int)) (.z (⟨#[]⟩ : ByteArray) : AV) = lZ2.map AV.z := by rw [← hlZ2, List.map_replicate]
  obtain ⟨oZ11, hoZ11, h⟩ := bind_s h
  try refine ZF (ZA huZ11 (ZA huZ12 (ZA huZ13 (ZA huZ14 eZ3)))) ?_
  refine join_rule0 (blk_rule0 (loop_rule (w_laws_toStringSL1 aZ0) hoZ11 ?_)) ?_
  · exact ZK (ZA S_laws_toStringSL1.eq_1 (ZA SX_laws_toStringSL1.eq_1 (ZA hlZ2.symm @Zr)))
  · simp only [ZC, SX_laws_toStringSL1, A63R2]
    cases h
    exact ZL (ZA huZ11 (ZA huZ12 (ZA huZ13 (ZA huZ14 eZ3)))) V63.eq_1
theorem w_laws_toFiber (aZ0 : TFiber) {r : TFiber} (h : M_laws_toFiber aZ0 = some r) : Ok Try.prog 112 [.agg [.i aZ0.A, .i aZ0.B, .i aZ0.Length, .i aZ0.Risk]] ((fun r => .agg [.i r.A, .i r.B, .i r.Length, .i r.Risk]) r) := by
  refine ok_of_body hmix m112 rfl ?_
  unfold M_laws_toFiber at h
  simp only [ZC, A112, V112, body_eq]
  cases h
  exact ZL trivial V112.eq_1
def S_laws_toFiberSL1 (aZ0 : List TFiber) (v : Int × List TFiber) : St := ⟨[(0, .lst .o 4 (aZ0.map (e_TFiber .o))), (3, .sl 3 0 v.2.length), (4, .i v.1)], [(3, .arr 4 (v.2.map (e_TFiber .u)))]⟩
def SX_laws_toFiberSL1 (v : List TFiber) : St := ⟨[(3, .sl 3 0 v.length)], [(3, .arr 4 (v.map (e_TFiber .u)))]⟩
theorem w_laws_toFiberSL1 (aZ0 : List TFiber) (sZ4 : Int × List TFiber) (o : (Int × List TFiber) ⊕ (List TFiber)) (h : M_laws_toFiberSL1 aZ0 sZ4 = some o) : AWP (OkS Try.prog) A64L1 (qL [0, 3, 4] [3] (S_laws_toFiberSL1 aZ0) (qX 0 [3] [3] (SX_laws_toFiberSL1)) o) (S_laws_toFiberSL1 aZ0 sZ4) := by
  unfold M_laws_toFiberSL1 at h
  simp only [ZC, S_laws_toFiberSL1, A64L1]
  obtain ⟨cZ5, h⟩ | ⟨cZ5, h⟩ := cond_s h
  · obtain ⟨yZ6, hyZ6, h⟩ := bind_s h
    obtain ⟨hyZ6a, hyZ6b⟩ := geti_s hyZ6
    obtain ⟨rZ7, hrZ7, h⟩ := bind_s h
    refine ZF (ZA cZ5 (ZA hyZ6a hyZ6b)) ?_
    refine ZU (ZA cZ5 (ZA hyZ6a hyZ6b)) (w_laws_toFiber _ hrZ7) ?_
    refine ZG ?_
    obtain ⟨kZ8, hkZ8, h⟩ := bind_s h
    obtain ⟨hkZ8a, hkZ8b⟩ := grd_s hkZ8
    obtain ⟨yZ9, hyZ9, h⟩ := bind_s h
    obtain ⟨lZ10, hlZ10, h⟩ := bnd_s h
    have eZ11 : (sZ4.2.map (e_TFiber .u)).set (Int.toNat sZ4.1) (.agg [.i rZ7.A, .i rZ7.B, .i rZ7.Length, .i rZ7.Risk]) = lZ10.map (e_TFiber .u) := by rw [← hlZ10, List.map_set]; rfl
    cases h
    exact ZL (ZA cZ5 (ZA hyZ6a (ZA hyZ6b (ZA hkZ8a (ZA hkZ8b (ZA hyZ9 eZ11)))))) (ZA S_laws_toFiberSL1.eq_1 (ZA SX_laws_toFiberSL1.eq_1 hlZ10.symm))
  · cases h
    exact ZL cZ5 (ZA S_laws_toFiberSL1.eq_1 SX_laws_toFiberSL1.eq_1)
theorem w_laws_toFiberS (aZ0 : List TFiber) {r : List TFiber} (h : M_laws_toFiberS aZ0 = some r) : Ok Try.prog 64 [.lst .o 4 (aZ0.map (e_TFiber .o))] ((fun r => .lst .u 4 (r.map (e_TFiber .u))) r) := by
  refine ok_of_body hmix m64 rfl ?_
  unfold M_laws_toFiberS at h
  simp only [ZC, A64, V64, body_eq]
  obtain ⟨uZ1, huZ1, h⟩ := bind_s h
  obtain ⟨huZ11, huZ12, huZ13, huZ14⟩ := grd_s huZ1
  obtain ⟨lZ2, hlZ2, h⟩ := bnd_s h
  have eZ3 : List.replicate (Int.toNat (aZ0.length : Int)) (.agg [.i 0, .i 0, .i 0, .i 0] : AV) = lZ2.map (e_TFiber .u) := by rw [← hlZ2, List.map_replicate]; rfl
  obtain ⟨oZ12, hoZ12, h⟩ := bind_s h
  try refine ZF (ZA huZ11 (ZA huZ12 (ZA huZ13 (ZA huZ14 eZ3)))) ?_
  refine join_rule0 (blk_rule0 (loop_rule (w_laws_toFiberSL1 aZ0) hoZ12 ?_)) ?_
  · exact ZK (ZA S_laws_toFiberSL1.eq_1 (ZA SX_laws_toFiberSL1.eq_1 (ZA hlZ2.symm @Zr)))
  · simp only [ZC, SX_laws_toFiberSL1, A64R2]
    cases h
    exact ZL (ZA huZ11 (ZA huZ12 (ZA huZ13 (ZA huZ14 eZ3)))) V64.eq_1
theorem w_laws_toNetwork (aZ0 : TNetwork) {r : TNetwork} (h : M_laws_toNetwork aZ0 = some r) : Ok Try.prog 18 [.agg [.lst .o 1 (aZ0.Nodes.map AV.z), .lst .o 4 (aZ0.Fibers.map (e_TFiber .o))]] ((fun r => .agg [.lst .u 1 (r.Nodes.map AV.z), .lst .u 4 (r.Fibers.map (e_TFiber .u))]) r) := by
  refine ok_of_body hmix m18 rfl ?_
  unfold M_laws_toNetwork at h
  simp only [ZC, A18, V18, body_eq]
  obtain ⟨rZ1, hrZ1, h⟩ := bind_s h
  refine ZF trivial ?_
  refine ZU trivial (w_laws_toStringS _ hrZ1) ?_
  refine ZG ?_
  obtain ⟨rZ2, hrZ2, h⟩ := bind_s h
  refine ZF trivial ?_
  refine ZU trivial (w_laws_toFiberS _ hrZ2) ?_
  refine ZG ?_
  cases h
  exact ZL trivial V18.eq_1
def S_laws_toIntSL1 (aZ0 : List Int) (v : Int × List Int) : St := ⟨[(0, .lst .o 1 (aZ0.map AV.i)), (3, .sl 3 0 v.2.length), (4, .i v.1)], [(3, .arr 1 (v.2.map AV.i))]⟩
def SX_laws_toIntSL1 (v : List Int) : St := ⟨[(3, .sl 3 0 v.length)], [(3, .arr 1 (v.map AV.i))]⟩
theorem w_laws_toIntSL1 (aZ0 : List Int) (sZ4 : Int × List Int) (o : (Int × List Int) ⊕ (List Int)) (h : M_laws_toIntSL1 aZ0 sZ4 = some o) : AWP (OkS Try.prog) A26L1 (qL [0, 3, 4] [3] (S_laws_toIntSL1 aZ0) (qX 0 [3] [3] (SX_laws_toIntSL1)) o) (S_laws_toIntSL1 aZ0 sZ4) := by
  unfold M_laws_toIntSL1 at h
  simp only [ZC, S_laws_toIntSL1, A26L1]
  obtain ⟨cZ5, h⟩ | ⟨cZ5, h⟩ := cond_s h
  · obtain ⟨yZ6, hyZ6, h⟩ := bind_s h
    obtain ⟨hyZ6a, hyZ6b⟩ := geti_s hyZ6
    obtain ⟨kZ7, hkZ7, h⟩ := bind_s h
    obtain ⟨hkZ7a, hkZ7b⟩ := grd_s hkZ7
    obtain ⟨yZ8, hyZ8, h⟩ := bind_s h
    obtain ⟨lZ9, hlZ9, h⟩ := bnd_s h
    have eZ10 : (sZ4.2.map AV.i).set (Int.toNat sZ4.1) (.i yZ6) = lZ9.map AV.i := by rw [← hlZ9, List.map_set]
    cases h
    exact ZL (ZA cZ5 (ZA hyZ6a (ZA hyZ6b (ZA hkZ7a (ZA hkZ7b (ZA hyZ8 eZ10)))))) (ZA S_laws_toIntSL1.eq_1 (ZA SX_laws_toIntSL1.eq_1 hlZ9.symm))
  · cases h
    exact ZL cZ5 (ZA S_laws_toIntSL1.eq_1 SX_laws_toIntSL1.eq_1)
theorem w_laws_toIntS (aZ0 : List Int) {r : List Int} (h : M_laws_toIntS aZ0 = some r) : Ok Try.prog 26 [.lst .o 1 (aZ0.map AV.i)] ((fun r => .lst .u 1 (r.map AV.i)) r) := by
  refine ok_of_body hmix m26 rfl ?_
  unfold M_laws_toIntS at h
  simp only [ZC, A26, V26, body_eq]
  obtain ⟨uZ1, huZ1, h⟩ := bind_s h
  obtain ⟨huZ11, huZ12, huZ13, huZ14⟩ := grd_s huZ1
  obtain ⟨lZ2, hlZ2, h⟩ := bnd_s h
  have eZ3 : List.replicate (Int.toNat (aZ0.length : Int)) (.i 0 : AV) = lZ2.map AV.i := by rw [← hlZ2, List.map_replicate]
  obtain ⟨oZ11, hoZ11, h⟩ := bind_s h
  try refine ZF (ZA huZ11 (ZA huZ12 (ZA huZ13 (ZA huZ14 eZ3)))) ?_
  refine join_rule0 (blk_rule0 (loop_rule (w_laws_toIntSL1 aZ0) hoZ11 ?_)) ?_
  · exact ZK (ZA S_laws_toIntSL1.eq_1 (ZA SX_laws_toIntSL1.eq_1 (ZA hlZ2.symm @Zr)))
  · simp only [ZC, SX_laws_toIntSL1, A26R2]
    cases h
    exact ZL (ZA huZ11 (ZA huZ12 (ZA huZ13 (ZA huZ14 eZ3)))) V26.eq_1
theorem w_laws_toOutage (aZ0 : TOutage) {r : TOutage} (h : M_laws_toOutage aZ0 = some r) : Ok Try.prog 19 [.agg [.i aZ0.Unit, .lst .o 1 (aZ0.Down.map AV.i)]] ((fun r => .agg [.i r.Unit, .lst .u 1 (r.Down.map AV.i)]) r) := by
  refine ok_of_body hmix m19 rfl ?_
  unfold M_laws_toOutage at h
  simp only [ZC, A19, V19, body_eq]
  obtain ⟨rZ1, hrZ1, h⟩ := bind_s h
  refine ZF trivial ?_
  refine ZU trivial (w_laws_toIntS _ hrZ1) ?_
  refine ZG ?_
  cases h
  exact ZL trivial V19.eq_1
theorem w_spec_l1In (xZ0 : Int) (aZ0 : Int) (bZ0 : Int) {r : Bool} (h : M_spec_l1In xZ0 aZ0 bZ0 = some r) : Ok Try.prog 72 [.i xZ0, .i aZ0, .i bZ0] ((fun r => .b r) r) := by
  refine ok_of_body hmix m72 rfl ?_
  unfold M_spec_l1In at h
  simp only [ZC, A72, V72, body_eq]
  obtain ⟨cZ1, h⟩ | ⟨cZ1, h⟩ := cond_s h
  · cases h
    exact ZL cZ1 V72.eq_1
  · cases h
    exact ZL cZ1 V72.eq_1
theorem w_spec_l2Sign (bZ0 : Int) {r : Bool} (h : M_spec_l2Sign bZ0 = some r) : Ok Try.prog 144 [.sc (.int .u8 bZ0)] ((fun r => .b r) r) := by
  refine ok_of_body hmix m144 rfl ?_
  unfold M_spec_l2Sign at h
  simp only [ZC, A144, V144, body_eq]
  obtain ⟨cZ1, h⟩ | ⟨cZ1, h⟩ := cond_s h
  · obtain ⟨cZ2, h⟩ | ⟨cZ2, h⟩ := cond_s h
    · cases h
      exact ZL (ZA cZ1 cZ2) V144.eq_1
    · obtain ⟨cZ3, h⟩ | ⟨cZ3, h⟩ := cond_s h
      · cases h
        exact ZL (ZA cZ1 (ZA cZ2 cZ3)) V144.eq_1
      · cases h
        exact ZL (ZA cZ1 (ZA cZ2 cZ3)) V144.eq_1
  · obtain ⟨cZ4, h⟩ | ⟨cZ4, h⟩ := cond_s h
    · cases h
      exact ZL (ZA cZ1 cZ4) V144.eq_1
    · cases h
      exact ZL (ZA cZ1 cZ4) V144.eq_1
def S_spec_l2NameL1 (sZ0 : ByteArray) (v : Int) : St := ⟨[(0, .z sZ0), (3, .i v)], []⟩
def SX_spec_l2NameL1 (v : Unit) : St := ⟨[], []⟩
theorem w_spec_l2NameL1 (sZ0 : ByteArray) (sZ7 : Int) (o : Int ⊕ (Unit ⊕ Bool)) (h : M_spec_l2NameL1 sZ0 sZ7 = some o) : AWP (OkS Try.prog) A127L2 (qL [0, 3] [] (S_spec_l2NameL1 sZ0) (qS (qX 0 [] [] (SX_spec_l2NameL1)) (qR V127 (fun r => .b r))) o) (S_spec_l2NameL1 sZ0 sZ7) := by
  unfold M_spec_l2NameL1 at h
  simp only [ZC, S_spec_l2NameL1, A127L2]
  obtain ⟨cZ8, h⟩ | ⟨cZ8, h⟩ := cond_s h
  · obtain ⟨yZ9, hyZ9, h⟩ := bind_s h
    obtain ⟨hyZ9a, hyZ9b⟩ := getz_s hyZ9
    obtain ⟨rZ10, hrZ10, h⟩ := bind_s h
    refine ZF (ZA cZ8 (ZA hyZ9a hyZ9b)) ?_
    refine ZS (ZA cZ8 (ZA hyZ9a hyZ9b)) (w_spec_l2Sign _ hrZ10) ?_
    refine ZG ?_
    obtain ⟨cZ11, h⟩ | ⟨cZ11, h⟩ := cond_s h
    · cases h
      exact ZL (ZA cZ8 (ZA hyZ9a (ZA hyZ9b cZ11))) V127.eq_1
    · cases h
      exact ZL (ZA cZ8 (ZA hyZ9a (ZA hyZ9b cZ11))) (ZA S_spec_l2NameL1.eq_1 SX_spec_l2NameL1.eq_1)
  · cases h
    exact ZL cZ8 (ZA S_spec_l2NameL1.eq_1 SX_spec_l2NameL1.eq_1)
theorem w_spec_l2Name (sZ0 : ByteArray) {r : Bool} (h : M_spec_l2Name sZ0 = some r) : Ok Try.prog 127 [.z sZ0] ((fun r => .b r) r) := by
  refine ok_of_body hmix m127 rfl ?_
  unfold M_spec_l2Name at h
  simp only [ZC, A127, V127, body_eq]
  obtain ⟨oZ5, hoZ5, h⟩ := bind_s h
  try refine ZF trivial ?_
  refine join_rule0 (sh := (fun v => ⟨[(0, .z sZ0), (17, .b v)], []⟩)) (s := oZ5) ?_ ?_
  · replace h := hoZ5
    obtain ⟨rZ1, hrZ1, h⟩ := bind_s h
    refine ZF trivial ?_
    refine ZS trivial (w_spec_l1In _ _ _ hrZ1) ?_
    refine ZG ?_
    obtain ⟨cZ2, h⟩ | ⟨cZ2, h⟩ := cond_s h
    · cases h
      exact ZL cZ2 trivial
    · obtain ⟨yZ3, hyZ3, h⟩ := bind_s h
      obtain ⟨hyZ3a, hyZ3b⟩ := getz_s hyZ3
      obtain ⟨cZ4, h⟩ | ⟨cZ4, h⟩ := cond_s h
      · cases h
        exact ZL (ZA cZ2 (ZA hyZ3a (ZA hyZ3b cZ4))) trivial
      · cases h
        exact ZL (ZA cZ2 (ZA hyZ3a (ZA hyZ3b cZ4))) trivial
  · simp only [ZC, A127R1]
    obtain ⟨cZ6, h⟩ | ⟨cZ6, h⟩ := cond_s h
    · cases h
      exact ZL cZ6 V127.eq_1
    · obtain ⟨oZ12, hoZ12, h⟩ := bind_s h
      try refine ZF cZ6 ?_
      refine join_rule (o := oZ12) (blk_rule sideR (loop_rule (w_spec_l2NameL1 sZ0) hoZ12 ?_)) (fun vZ13 hv => ?_) (fun xZ14 hv e τ hne hq => ?_)
      · exact ZK (ZA S_spec_l2NameL1.eq_1 SX_spec_l2NameL1.eq_1)
      · subst hv
        simp only [] at h
        simp only [ZC, SX_spec_l2NameL1, A127R3]
        cases h
        exact ZL cZ6 V127.eq_1
      · subst hv
        simp only [] at h
        obtain ⟨rfl, qZ15⟩ := hq
        cases h
        exact qZ15
def S_spec_l2FindL1 (listZ0 : List ByteArray) (nameZ0 : ByteArray) (v : Int) : St := ⟨[(0, .lst .o 1 (listZ0.map AV.z)), (1, .z nameZ0), (5, .i v)], []⟩
def SX_spec_l2FindL1 (v : Unit) : St := ⟨[], []⟩
theorem w_spec_l2FindL1 (listZ0 : List ByteArray) (nameZ0 : ByteArray) (sZ1 : Int) (o : Int ⊕ (Unit ⊕ Int)) (h : M_spec_l2FindL1 listZ0 nameZ0 sZ1 = some o) : AWP (OkS Try.prog) A128L1 (qL [0, 1, 5] [] (S_spec_l2FindL1 listZ0 nameZ0) (qS (qX 0 [] [] (SX_spec_l2FindL1)) (qR V128 (fun r => .i r))) o) (S_spec_l2FindL1 listZ0 nameZ0 sZ1) := by
  unfold M_spec_l2FindL1 at h
  simp only [ZC, S_spec_l2FindL1, A128L1]
  obtain ⟨cZ2, h⟩ | ⟨cZ2, h⟩ := cond_s h
  · obtain ⟨yZ3, hyZ3, h⟩ := bind_s h
    obtain ⟨hyZ3a, hyZ3b⟩ := geti_s hyZ3
    obtain ⟨cZ4, h⟩ | ⟨cZ4, h⟩ := cond_s h
    · cases h
      exact ZL (ZA cZ2 (ZA hyZ3a (ZA hyZ3b cZ4))) V128.eq_1
    · cases h
      exact ZL (ZA cZ2 (ZA hyZ3a (ZA hyZ3b cZ4))) (ZA S_spec_l2FindL1.eq_1 SX_spec_l2FindL1.eq_1)
  · cases h
    exact ZL cZ2 (ZA S_spec_l2FindL1.eq_1 SX_spec_l2FindL1.eq_1)
theorem w_spec_l2Find (listZ0 : List ByteArray) (nameZ0 : ByteArray) {r : Int} (h : M_spec_l2Find listZ0 nameZ0 = some r) : Ok Try.prog 128 [.lst .o 1 (listZ0.map AV.z), .z nameZ0] ((fun r => .i r) r) := by
  refine ok_of_body hmix m128 rfl ?_
  unfold M_spec_l2Find at h
  simp only [ZC, A128, V128, body_eq]
  obtain ⟨oZ5, hoZ5, h⟩ := bind_s h
  try refine ZF trivial ?_
  refine join_rule (o := oZ5) (blk_rule sideR (loop_rule (w_spec_l2FindL1 listZ0 nameZ0) hoZ5 ?_)) (fun vZ6 hv => ?_) (fun xZ7 hv e τ hne hq => ?_)
  · exact ZK (ZA S_spec_l2FindL1.eq_1 SX_spec_l2FindL1.eq_1)
  · subst hv
    simp only [] at h
    simp only [ZC, SX_spec_l2FindL1, A128R2]
    cases h
    exact ZL trivial V128.eq_1
  · subst hv
    simp only [] at h
    obtain ⟨rfl, qZ8⟩ := hq
    cases h
    exact qZ8
theorem w_spec_l2Fiber (fZ0 : TFiber) (nodesZ0 : Int) {r : Bool} (h : M_spec_l2Fiber fZ0 nodesZ0 = some r) : Ok Try.prog 129 [.agg [.i fZ0.A, .i fZ0.B, .i fZ0.Length, .i fZ0.Risk], .i nodesZ0] ((fun r => .b r) r) := by
  refine ok_of_body hmix m129 rfl ?_
  unfold M_spec_l2Fiber at h
  simp only [ZC, A129, V129, body_eq]
  obtain ⟨rZ1, hrZ1, h⟩ := bind_s h
  refine ZF trivial ?_
  refine ZS trivial (w_spec_l1In _ _ _ hrZ1) ?_
  refine ZG ?_
  obtain ⟨cZ2, h⟩ | ⟨cZ2, h⟩ := cond_s h
  · obtain ⟨rZ3, hrZ3, h⟩ := bind_s h
    refine ZF cZ2 ?_
    refine ZS cZ2 (w_spec_l1In _ _ _ hrZ3) ?_
    refine ZG ?_
    obtain ⟨cZ4, h⟩ | ⟨cZ4, h⟩ := cond_s h
    · obtain ⟨rZ5, hrZ5, h⟩ := bind_s h
      refine ZF (ZA cZ2 cZ4) ?_
      refine ZS (ZA cZ2 cZ4) (w_spec_l1In _ _ _ hrZ5) ?_
      refine ZG ?_
      obtain ⟨cZ6, h⟩ | ⟨cZ6, h⟩ := cond_s h
      · obtain ⟨rZ7, hrZ7, h⟩ := bind_s h
        refine ZF (ZA cZ2 (ZA cZ4 cZ6)) ?_
        refine ZS (ZA cZ2 (ZA cZ4 cZ6)) (w_spec_l1In _ _ _ hrZ7) ?_
        refine ZG ?_
        cases h
        exact ZL (ZA cZ2 (ZA cZ4 cZ6)) V129.eq_1
      · cases h
        exact ZL (ZA cZ2 (ZA cZ4 cZ6)) V129.eq_1
    · cases h
      exact ZL (ZA cZ2 cZ4) V129.eq_1
  · cases h
    exact ZL cZ2 V129.eq_1
theorem w_spec_l2Before (fZ0 : TFiber) (gZ0 : TFiber) {r : Int} (h : M_spec_l2Before fZ0 gZ0 = some r) : Ok Try.prog 130 [.agg [.i fZ0.A, .i fZ0.B, .i fZ0.Length, .i fZ0.Risk], .agg [.i gZ0.A, .i gZ0.B, .i gZ0.Length, .i gZ0.Risk]] ((fun r => .i r) r) := by
  refine ok_of_body hmix m130 rfl ?_
  unfold M_spec_l2Before at h
  simp only [ZC, A130, V130, body_eq]
  obtain ⟨cZ1, h⟩ | ⟨cZ1, h⟩ := cond_s h
  · cases h
    exact ZL cZ1 V130.eq_1
  · obtain ⟨cZ2, h⟩ | ⟨cZ2, h⟩ := cond_s h
    · cases h
      exact ZL (ZA cZ1 cZ2) V130.eq_1
    · obtain ⟨cZ3, h⟩ | ⟨cZ3, h⟩ := cond_s h
      · cases h
        exact ZL (ZA cZ1 (ZA cZ2 cZ3)) V130.eq_1
      · cases h
        exact ZL (ZA cZ1 (ZA cZ2 cZ3)) V130.eq_1
def S_spec_l2GoodL1 (nZ0 : TNetwork) (v : Int) : St := ⟨[(1, .pt 1 0 0), (3, .i v)], [(1, .var (.agg [.lst .o 1 (nZ0.Nodes.map AV.z), .lst .o 4 (nZ0.Fibers.map (e_TFiber .o))]))]⟩
def SX_spec_l2GoodL1 (nZ0 : TNetwork) (v : Unit) : St := ⟨[(1, .pt 1 0 0)], [(1, .var (.agg [.lst .o 1 (nZ0.Nodes.map AV.z), .lst .o 4 (nZ0.Fibers.map (e_TFiber .o))]))]⟩
theorem w_spec_l2GoodL1 (nZ0 : TNetwork) (sZ5 : Int) (o : Int ⊕ (Unit ⊕ Bool)) (h : M_spec_l2GoodL1 nZ0 sZ5 = some o) : AWP (OkS Try.prog) A98L3 (qL [1, 3] [1] (S_spec_l2GoodL1 nZ0) (qS (qX 0 [1] [1] (SX_spec_l2GoodL1 nZ0)) (qR V98 (fun r => .b r))) o) (S_spec_l2GoodL1 nZ0 sZ5) := by
  unfold M_spec_l2GoodL1 at h
  simp only [ZC, S_spec_l2GoodL1, A98L3]
  obtain ⟨cZ6, h⟩ | ⟨cZ6, h⟩ := cond_s h
  · obtain ⟨oZ11, hoZ11, h⟩ := bind_s h
    try refine ZF cZ6 ?_
    refine join_rule0 (sh := (fun v => ⟨[(1, .pt 1 0 0), (3, .i sZ5), (41, .b v)], [(1, .var (.agg [.lst .o 1 (nZ0.Nodes.map AV.z), .lst .o 4 (nZ0.Fibers.map (e_TFiber .o))]))]⟩)) (s := oZ11) ?_ ?_
    · replace h := hoZ11
      obtain ⟨yZ7, hyZ7, h⟩ := bind_s h
      obtain ⟨hyZ7a, hyZ7b⟩ := geti_s hyZ7
      obtain ⟨rZ8, hrZ8, h⟩ := bind_s h
      refine ZF (ZA cZ6 (ZA hyZ7a hyZ7b)) ?_
      refine ZS (ZA cZ6 (ZA hyZ7a hyZ7b)) (w_spec_l2Name _ hrZ8) ?_
      refine ZG ?_
      obtain ⟨cZ9, h⟩ | ⟨cZ9, h⟩ := cond_s h
      · cases h
        exact ZL (ZA cZ6 (ZA hyZ7a (ZA hyZ7b cZ9))) trivial
      · obtain ⟨rZ10, hrZ10, h⟩ := bind_s h
        refine ZF (ZA cZ6 (ZA hyZ7a (ZA hyZ7b cZ9))) ?_
        refine ZS (ZA cZ6 (ZA hyZ7a (ZA hyZ7b cZ9))) (w_spec_l2Find _ _ hrZ10) ?_
        refine ZG ?_
        cases h
        exact ZL (ZA cZ6 (ZA hyZ7a (ZA hyZ7b cZ9))) trivial
    · simp only [ZC, A98R2]
      obtain ⟨cZ12, h⟩ | ⟨cZ12, h⟩ := cond_s h
      · cases h
        exact ZL (ZA cZ6 cZ12) V98.eq_1
      · cases h
        exact ZL (ZA cZ6 cZ12) (ZA S_spec_l2GoodL1.eq_1 SX_spec_l2GoodL1.eq_1)
  · cases h
    exact ZL cZ6 (ZA S_spec_l2GoodL1.eq_1 SX_spec_l2GoodL1.eq_1)
def S_spec_l2GoodL2 (nZ0 : TNetwork) (v : Int) : St := ⟨[(1, .pt 1 0 0), (4, .i v)], [(1, .var (.agg [.lst .o 1 (nZ0.Nodes.map AV.z), .lst .o 4 (nZ0.Fibers.map (e_TFiber .o))]))]⟩
def SX_spec_l2GoodL2 (v : Unit) : St := ⟨[], []⟩
theorem w_spec_l2GoodL2 (nZ0 : TNetwork) (sZ16 : Int) (o : Int ⊕ (Unit ⊕ Bool)) (h : M_spec_l2GoodL2 nZ0 sZ16 = some o) : AWP (OkS Try.prog) A98L6 (qL [1, 4] [1] (S_spec_l2GoodL2 nZ0) (qS (qX 2 [] [] (SX_spec_l2GoodL2)) (qR V98 (fun r => .b r))) o) (S_spec_l2GoodL2 nZ0 sZ16) := by
  unfold M_spec_l2GoodL2 at h
  simp only [ZC, S_spec_l2GoodL2, A98L6]
  obtain ⟨cZ17, h⟩ | ⟨cZ17, h⟩ := cond_s h
  · obtain ⟨oZ24, hoZ24, h⟩ := bind_s h
    try refine ZF cZ17 ?_
    refine join_rule0 (sh := (fun v => ⟨[(1, .pt 1 0 0), (4, .i sZ16), (77, .b v)], [(1, .var (.agg [.lst .o 1 (nZ0.Nodes.map AV.z), .lst .o 4 (nZ0.Fibers.map (e_TFiber .o))]))]⟩)) (s := oZ24) ?_ ?_
    · replace h := hoZ24
      obtain ⟨yZ18, hyZ18, h⟩ := bind_s h
      obtain ⟨hyZ18a, hyZ18b⟩ := geti_s hyZ18
      obtain ⟨rZ19, hrZ19, h⟩ := bind_s h
      refine ZF (ZA cZ17 (ZA hyZ18a hyZ18b)) ?_
      refine ZS (ZA cZ17 (ZA hyZ18a hyZ18b)) (w_spec_l2Fiber _ _ hrZ19) ?_
      refine ZG ?_
      obtain ⟨cZ20, h⟩ | ⟨cZ20, h⟩ := cond_s h
      · cases h
        exact ZL (ZA cZ17 (ZA hyZ18a (ZA hyZ18b cZ20))) trivial
      · obtain ⟨cZ21, h⟩ | ⟨cZ21, h⟩ := cond_s h
        · obtain ⟨yZ22, hyZ22, h⟩ := bind_s h
          obtain ⟨hyZ22a, hyZ22b⟩ := geti_s hyZ22
          obtain ⟨rZ23, hrZ23, h⟩ := bind_s h
          refine ZF (ZA cZ17 (ZA hyZ18a (ZA hyZ18b (ZA cZ20 (ZA cZ21 (ZA hyZ22a hyZ22b)))))) ?_
          refine ZS (ZA cZ17 (ZA hyZ18a (ZA hyZ18b (ZA cZ20 (ZA cZ21 (ZA hyZ22a hyZ22b)))))) (w_spec_l2Before _ _ hrZ23) ?_
          refine ZG ?_
          cases h
          exact ZL (ZA cZ17 (ZA hyZ18a (ZA hyZ18b (ZA cZ20 (ZA cZ21 (ZA hyZ22a hyZ22b)))))) trivial
        · cases h
          exact ZL (ZA cZ17 (ZA hyZ18a (ZA hyZ18b (ZA cZ20 cZ21)))) trivial
    · simp only [ZC, A98R5]
      obtain ⟨cZ25, h⟩ | ⟨cZ25, h⟩ := cond_s h
      · cases h
        exact ZL (ZA cZ17 cZ25) V98.eq_1
      · cases h
        exact ZL (ZA cZ17 cZ25) (ZA S_spec_l2GoodL2.eq_1 SX_spec_l2GoodL2.eq_1)
  · cases h
    exact ZL cZ17 (ZA S_spec_l2GoodL2.eq_1 SX_spec_l2GoodL2.eq_1)
theorem w_spec_l2Good (nZ0 : TNetwork) {r : Bool} (h : M_spec_l2Good nZ0 = some r) : Ok Try.prog 98 [.agg [.lst .o 1 (nZ0.Nodes.map AV.z), .lst .o 4 (nZ0.Fibers.map (e_TFiber .o))]] ((fun r => .b r) r) := by
  refine ok_of_body hmix m98 rfl ?_
  unfold M_spec_l2Good at h
  simp only [ZC, A98, V98, body_eq]
  obtain ⟨oZ3, hoZ3, h⟩ := bind_s h
  try refine ZF trivial ?_
  refine join_rule0 (sh := (fun v => ⟨[(1, .pt 1 0 0), (15, .b v)], [(1, .var (.agg [.lst .o 1 (nZ0.Nodes.map AV.z), .lst .o 4 (nZ0.Fibers.map (e_TFiber .o))]))]⟩)) (s := oZ3) ?_ ?_
  · replace h := hoZ3
    obtain ⟨rZ1, hrZ1, h⟩ := bind_s h
    refine ZF trivial ?_
    refine ZS trivial (w_spec_l1In _ _ _ hrZ1) ?_
    refine ZG ?_
    obtain ⟨cZ2, h⟩ | ⟨cZ2, h⟩ := cond_s h
    · cases h
      exact ZL cZ2 trivial
    · cases h
      exact ZL cZ2 trivial
  · simp only [ZC, A98R1]
    obtain ⟨cZ4, h⟩ | ⟨cZ4, h⟩ := cond_s h
    · cases h
      exact ZL cZ4 V98.eq_1
    · obtain ⟨oZ13, hoZ13, h⟩ := bind_s h
      try refine ZF cZ4 ?_
      refine join_rule (o := oZ13) (blk_rule sideR (loop_rule (w_spec_l2GoodL1 nZ0) hoZ13 ?_)) (fun vZ14 hv => ?_) (fun xZ15 hv e τ hne hq => ?_)
      · exact ZK (ZA S_spec_l2GoodL1.eq_1 SX_spec_l2GoodL1.eq_1)
      · subst hv
        simp only [] at h
        simp only [ZC, SX_spec_l2GoodL1, A98R4]
        obtain ⟨oZ26, hoZ26, h⟩ := bind_s h
        try refine ZF cZ4 ?_
        refine join_rule (o := oZ26) (blk_rule sideR (loop_rule (w_spec_l2GoodL2 nZ0) hoZ26 ?_)) (fun vZ27 hv => ?_) (fun xZ28 hv e τ hne hq => ?_)
        · exact ZK (ZA S_spec_l2GoodL2.eq_1 SX_spec_l2GoodL2.eq_1)
        · subst hv
          simp only [] at h
          simp only [ZC, SX_spec_l2GoodL2, A98R7]
          cases h
          exact ZL cZ4 V98.eq_1
        · subst hv
          simp only [] at h
          obtain ⟨rfl, qZ29⟩ := hq
          cases h
          exact qZ29
      · subst hv
        simp only [] at h
        obtain ⟨rfl, qZ30⟩ := hq
        cases h
        exact qZ30
def S_spec_l2GroupL1 (nZ0 : TNetwork) (fiberZ0 : Int) (v : Int × List Int) : St := ⟨[(1, .i fiberZ0), (2, .pt 2 0 0), (5, .sl 5 0 v.2.length), (6, .i v.1)], [(2, .var (.agg [.lst .o 1 (nZ0.Nodes.map AV.z), .lst .o 4 (nZ0.Fibers.map (e_TFiber .o))])), (5, .arr 1 (v.2.map AV.i))]⟩
def SX_spec_l2GroupL1 (v : List Int) : St := ⟨[(5, .sl 5 0 v.length)], [(5, .arr 1 (v.map AV.i))]⟩
theorem w_spec_l2GroupL1 (nZ0 : TNetwork) (fiberZ0 : Int) (sZ7 : Int × List Int) (o : (Int × List Int) ⊕ (List Int)) (h : M_spec_l2GroupL1 nZ0 fiberZ0 sZ7 = some o) : AWP (OkS Try.prog) A124L1 (qL [1, 2, 5, 6] [2, 5] (S_spec_l2GroupL1 nZ0 fiberZ0) (qX 0 [5] [5] (SX_spec_l2GroupL1)) o) (S_spec_l2GroupL1 nZ0 fiberZ0 sZ7) := by
  unfold M_spec_l2GroupL1 at h
  simp only [ZC, S_spec_l2GroupL1, A124L1]
  obtain ⟨cZ8, h⟩ | ⟨cZ8, h⟩ := cond_s h
  · obtain ⟨yZ9, hyZ9, h⟩ := bind_s h
    obtain ⟨hyZ9a, hyZ9b⟩ := geti_s hyZ9
    obtain ⟨yZ10, hyZ10, h⟩ := bind_s h
    obtain ⟨hyZ10a, hyZ10b⟩ := geti_s hyZ10
    obtain ⟨cZ11, h⟩ | ⟨cZ11, h⟩ := cond_s h
    · obtain ⟨lZ12, hlZ12, h⟩ := bnd_s h
      have eZ13 : Row.arr 1 [(.i sZ7.1 : AV)] = Row.arr 1 (lZ12.map AV.i) := by rw [← hlZ12]; rfl
      have jjZ14 : lZ12.length = 1 := by rw [← hlZ12]; rfl
      obtain ⟨uZ15, huZ15, h⟩ := bind_s h
      have huZ15g := grd_s huZ15
      obtain ⟨lZ16, hlZ16, h⟩ := bnd_s h
      have eZ17 : sZ7.2.map AV.i ++ lZ12.map AV.i = lZ16.map AV.i := by rw [← hlZ16, List.map_append]
      have eZ18 : sZ7.2.length + 1 = lZ16.length := by simp [← hlZ12, ← hlZ16] <;> omega
      rw [eZ18] at huZ15g
      cases h
      exact ZL (ZA cZ8 (ZA hyZ9a (ZA hyZ9b (ZA hyZ10a (ZA hyZ10b (ZA cZ11 (ZA eZ13 (ZA jjZ14 (ZA huZ15g (ZA eZ17 eZ18)))))))))) (ZA S_spec_l2GroupL1.eq_1 (ZA SX_spec_l2GroupL1.eq_1 (ZA hlZ12.symm (ZA hlZ16.symm jjZ14))))
    · cases h
      exact ZL (ZA cZ8 (ZA hyZ9a (ZA hyZ9b (ZA hyZ10a (ZA hyZ10b cZ11))))) (ZA S_spec_l2GroupL1.eq_1 SX_spec_l2GroupL1.eq_1)
  · cases h
    exact ZL cZ8 (ZA S_spec_l2GroupL1.eq_1 SX_spec_l2GroupL1.eq_1)
theorem w_spec_l2Group (nZ0 : TNetwork) (fiberZ0 : Int) {r : List Int} (h : M_spec_l2Group nZ0 fiberZ0 = some r) : Ok Try.prog 124 [.agg [.lst .o 1 (nZ0.Nodes.map AV.z), .lst .o 4 (nZ0.Fibers.map (e_TFiber .o))], .i fiberZ0] ((fun r => .lst .u 1 (r.map AV.i)) r) := by
  refine ok_of_body hmix m124 rfl ?_
  unfold M_spec_l2Group at h
  simp only [ZC, A124, V124, body_eq]
  obtain ⟨yZ1, hyZ1, h⟩ := bind_s h
  obtain ⟨hyZ1a, hyZ1b⟩ := geti_s hyZ1
  obtain ⟨cZ2, h⟩ | ⟨cZ2, h⟩ := cond_s h
  · obtain ⟨lZ3, hlZ3, h⟩ := bnd_s h
    have eZ4 : Row.arr 1 [(.i fiberZ0 : AV)] = Row.arr 1 (lZ3.map AV.i) := by rw [← hlZ3]; rfl
    have jjZ5 : lZ3.length = 1 := by rw [← hlZ3]; rfl
    have nZ6 : sub (lZ3.map AV.i) 0 1 = lZ3.map AV.i := sub_n _ (by simp [← hlZ3])
    cases h
    exact ZL (ZA hyZ1a (ZA hyZ1b (ZA cZ2 (ZA eZ4 (ZA jjZ5 nZ6))))) (ZA V124.eq_1 (ZA hlZ3.symm jjZ5))
  · obtain ⟨oZ19, hoZ19, h⟩ := bind_s h
    try refine ZF (ZA hyZ1a (ZA hyZ1b cZ2)) ?_
    refine join_rule0 (blk_rule0 (loop_rule (w_spec_l2GroupL1 nZ0 fiberZ0) hoZ19 ?_)) ?_
    · exact ZK (ZA S_spec_l2GroupL1.eq_1 SX_spec_l2GroupL1.eq_1)
    · simp only [ZC, SX_spec_l2GroupL1, A124R2]
      cases h
      exact ZL (ZA hyZ1a (ZA hyZ1b cZ2)) V124.eq_1
def S_spec_l2GroupsL2 (nZ0 : TNetwork) (sZ1 : Int × List (List Int)) (v : Int) : St := ⟨[(1, .pt 1 0 0), (3, .sl 3 0 sZ1.2.length), (4, .i sZ1.1), (5, .i v)], [(1, .var (.agg [.lst .o 1 (nZ0.Nodes.map AV.z), .lst .o 4 (nZ0.Fibers.map (e_TFiber .o))])), (3, .arr 1 (sZ1.2.map (e_Li .u)))]⟩
def SX_spec_l2GroupsL2 (nZ0 : TNetwork) (sZ1 : Int × List (List Int)) (v : List (List Int)) : St := ⟨[(1, .pt 1 0 0), (3, .sl 3 0 v.length), (4, .i sZ1.1)], [(1, .var (.agg [.lst .o 1 (nZ0.Nodes.map AV.z), .lst .o 4 (nZ0.Fibers.map (e_TFiber .o))])), (3, .arr 1 (v.map (e_Li .u)))]⟩
theorem w_spec_l2GroupsL2 (nZ0 : TNetwork) (sZ1 : Int × List (List Int)) (sZ3 : Int) (o : Int ⊕ (List (List Int))) (h : M_spec_l2GroupsL2 nZ0 sZ1 sZ3 = some o) : AWP (OkS Try.prog) A92L1 (qL [1, 3, 4, 5] [1, 3] (S_spec_l2GroupsL2 nZ0 sZ1) (qX 2 [1, 3, 4] [1, 3] (SX_spec_l2GroupsL2 nZ0 sZ1)) o) (S_spec_l2GroupsL2 nZ0 sZ1 sZ3) := by
  unfold M_spec_l2GroupsL2 at h
  simp only [ZC, S_spec_l2GroupsL2, A92L1]
  obtain ⟨cZ4, h⟩ | ⟨cZ4, h⟩ := cond_s h
  · obtain ⟨yZ5, hyZ5, h⟩ := bind_s h
    obtain ⟨hyZ5a, hyZ5b⟩ := geti_s hyZ5
    obtain ⟨cZ6, h⟩ | ⟨cZ6, h⟩ := cond_s h
    · obtain ⟨rZ7, hrZ7, h⟩ := bind_s h
      refine ZF (ZA cZ4 (ZA hyZ5a (ZA hyZ5b cZ6))) ?_
      refine ZU (ZA cZ4 (ZA hyZ5a (ZA hyZ5b cZ6))) (w_spec_l2Group _ _ hrZ7) ?_
      refine ZG ?_
      obtain ⟨lZ8, hlZ8, h⟩ := bnd_s h
      have eZ9 : Row.arr 1 [(.lst .u 1 (rZ7.map AV.i) : AV)] = Row.arr 1 (lZ8.map (e_Li .u)) := by rw [← hlZ8]; rfl
      have jjZ10 : lZ8.length = 1 := by rw [← hlZ8]; rfl
      obtain ⟨uZ11, huZ11, h⟩ := bind_s h
      have huZ11g := grd_s huZ11
      obtain ⟨lZ12, hlZ12, h⟩ := bnd_s h
      have eZ13 : sZ1.2.map (e_Li .u) ++ lZ8.map (e_Li .u) = lZ12.map (e_Li .u) := by rw [← hlZ12, List.map_append]
      have eZ14 : sZ1.2.length + 1 = lZ12.length := by simp [← hlZ8, ← hlZ12] <;> omega
      rw [eZ14] at huZ11g
      cases h
      exact ZL (ZA cZ4 (ZA hyZ5a (ZA hyZ5b (ZA cZ6 (ZA eZ9 (ZA jjZ10 (ZA huZ11g (ZA eZ13 eZ14)))))))) (ZA S_spec_l2GroupsL2.eq_1 (ZA SX_spec_l2GroupsL2.eq_1 (ZA hlZ8.symm (ZA hlZ12.symm jjZ10))))
    · cases h
      exact ZL (ZA cZ4 (ZA hyZ5a (ZA hyZ5b cZ6))) (ZA S_spec_l2GroupsL2.eq_1 SX_spec_l2GroupsL2.eq_1)
  · cases h
    exact ZL cZ4 (ZA S_spec_l2GroupsL2.eq_1 SX_spec_l2GroupsL2.eq_1)
def S_spec_l2GroupsL1 (nZ0 : TNetwork) (v : Int × List (List Int)) : St := ⟨[(1, .pt 1 0 0), (3, .sl 3 0 v.2.length), (4, .i v.1)], [(1, .var (.agg [.lst .o 1 (nZ0.Nodes.map AV.z), .lst .o 4 (nZ0.Fibers.map (e_TFiber .o))])), (3, .arr 1 (v.2.map (e_Li .u)))]⟩
def SX_spec_l2GroupsL1 (nZ0 : TNetwork) (v : List (List Int)) : St := ⟨[(1, .pt 1 0 0), (3, .sl 3 0 v.length)], [(1, .var (.agg [.lst .o 1 (nZ0.Nodes.map AV.z), .lst .o 4 (nZ0.Fibers.map (e_TFiber .o))])), (3, .arr 1 (v.map (e_Li .u)))]⟩
theorem w_spec_l2GroupsL1 (nZ0 : TNetwork) (sZ1 : Int × List (List Int)) (o : (Int × List (List Int)) ⊕ (List (List Int))) (h : M_spec_l2GroupsL1 nZ0 sZ1 = some o) : AWP (OkS Try.prog) A92L3 (qL [1, 3, 4] [1, 3] (S_spec_l2GroupsL1 nZ0) (qX 0 [1, 3] [1, 3] (SX_spec_l2GroupsL1 nZ0)) o) (S_spec_l2GroupsL1 nZ0 sZ1) := by
  unfold M_spec_l2GroupsL1 at h
  simp only [ZC, S_spec_l2GroupsL1, A92L3]
  obtain ⟨cZ2, h⟩ | ⟨cZ2, h⟩ := cond_s h
  · obtain ⟨oZ17, hoZ17, h⟩ := bind_s h
    try refine ZF cZ2 ?_
    refine join_rule0 (sh := (fun v => ⟨[(1, .pt 1 0 0), (3, .sl 3 0 v.length), (4, .i sZ1.1)], [(1, .var (.agg [.lst .o 1 (nZ0.Nodes.map AV.z), .lst .o 4 (nZ0.Fibers.map (e_TFiber .o))])), (3, .arr 1 (v.map (e_Li .u)))]⟩)) (s := oZ17) ?_ ?_
    · replace h := hoZ17
      obtain ⟨oZ15, hoZ15, h⟩ := bind_s h
      try refine ZF cZ2 ?_
      first | refine tail_rule0 (blk_rule0 (loop_rule (w_spec_l2GroupsL2 nZ0 sZ1) hoZ15 ?_)) (fun τ qZ16 => ?_) | refine tail_blk0 (loop_rule (w_spec_l2GroupsL2 nZ0 sZ1) hoZ15 ?_) (fun τ qZ16 => ?_)
      · exact ZK (ZA S_spec_l2GroupsL2.eq_1 SX_spec_l2GroupsL2.eq_1)
      · cases h
        try refine ZF trivial ?_
        refine ⟨rfl, Shp.sub qZ16 (by decide) (by decide) ?_⟩
        exact ZK SX_spec_l2GroupsL2.eq_1
    · simp only [ZC, A92R2]
      cases h
      exact ZL cZ2 (ZA S_spec_l2GroupsL1.eq_1 SX_spec_l2GroupsL1.eq_1)
  · cases h
    exact ZL cZ2 (ZA S_spec_l2GroupsL1.eq_1 SX_spec_l2GroupsL1.eq_1)
def S_spec_l2GroupsL3 (nZ0 : TNetwork) (v : Int × List (List Int)) : St := ⟨[(1, .pt 1 0 0), (3, .sl 3 0 v.2.length), (6, .i v.1)], [(1, .var (.agg [.lst .o 1 (nZ0.Nodes.map AV.z), .lst .o 4 (nZ0.Fibers.map (e_TFiber .o))])), (3, .arr 1 (v.2.map (e_Li .u)))]⟩
def SX_spec_l2GroupsL3 (v : List (List Int)) : St := ⟨[(3, .sl 3 0 v.length)], [(3, .arr 1 (v.map (e_Li .u)))]⟩
theorem w_spec_l2GroupsL3 (nZ0 : TNetwork) (sZ19 : Int × List (List Int)) (o : (Int × List (List Int)) ⊕ (List (List Int))) (h : M_spec_l2GroupsL3 nZ0 sZ19 = some o) : AWP (OkS Try.prog) A92L5 (qL [1, 3, 6] [1, 3] (S_spec_l2GroupsL3 nZ0) (qX 4 [3] [3] (SX_spec_l2GroupsL3)) o) (S_spec_l2GroupsL3 nZ0 sZ19) := by
  unfold M_spec_l2GroupsL3 at h
  simp only [ZC, S_spec_l2GroupsL3, A92L5]
  obtain ⟨cZ20, h⟩ | ⟨cZ20, h⟩ := cond_s h
  · obtain ⟨yZ21, hyZ21, h⟩ := bind_s h
    obtain ⟨hyZ21a, hyZ21b⟩ := geti_s hyZ21
    obtain ⟨cZ22, h⟩ | ⟨cZ22, h⟩ := cond_s h
    · obtain ⟨lZ23, hlZ23, h⟩ := bnd_s h
      have eZ24 : Row.arr 1 [(.i sZ19.1 : AV)] = Row.arr 1 (lZ23.map AV.i) := by rw [← hlZ23]; rfl
      have jjZ25 : lZ23.length = 1 := by rw [← hlZ23]; rfl
      have nZ26 : sub (lZ23.map AV.i) 0 1 = lZ23.map AV.i := sub_n _ (by simp [← hlZ23])
      obtain ⟨lZ27, hlZ27, h⟩ := bnd_s h
      have eZ28 : Row.arr 1 [(.lst .u 1 (lZ23.map AV.i) : AV)] = Row.arr 1 (lZ27.map (e_Li .u)) := by rw [← hlZ27]; rfl
      have jjZ29 : lZ27.length = 1 := by rw [← hlZ27]; rfl
      obtain ⟨uZ30, huZ30, h⟩ := bind_s h
      have huZ30g := grd_s huZ30
      obtain ⟨lZ31, hlZ31, h⟩ := bnd_s h
      have eZ32 : sZ19.2.map (e_Li .u) ++ lZ27.map (e_Li .u) = lZ31.map (e_Li .u) := by rw [← hlZ31, List.map_append]
      have eZ33 : sZ19.2.length + 1 = lZ31.length := by simp [← hlZ23, ← hlZ27, ← hlZ31] <;> omega
      rw [eZ33] at huZ30g
      cases h
      exact ZL (ZA cZ20 (ZA hyZ21a (ZA hyZ21b (ZA cZ22 (ZA eZ24 (ZA jjZ25 (ZA nZ26 (ZA eZ28 (ZA jjZ29 (ZA huZ30g (ZA eZ32 eZ33))))))))))) (ZA S_spec_l2GroupsL3.eq_1 (ZA SX_spec_l2GroupsL3.eq_1 (ZA hlZ23.symm (ZA hlZ27.symm (ZA hlZ31.symm (ZA jjZ25 jjZ29))))))
    · cases h
      exact ZL (ZA cZ20 (ZA hyZ21a (ZA hyZ21b cZ22))) (ZA S_spec_l2GroupsL3.eq_1 SX_spec_l2GroupsL3.eq_1)
  · cases h
    exact ZL cZ20 (ZA S_spec_l2GroupsL3.eq_1 SX_spec_l2GroupsL3.eq_1)
theorem w_spec_l2Groups (nZ0 : TNetwork) {r : List (List Int)} (h : M_spec_l2Groups nZ0 = some r) : Ok Try.prog 92 [.agg [.lst .o 1 (nZ0.Nodes.map AV.z), .lst .o 4 (nZ0.Fibers.map (e_TFiber .o))]] ((fun r => .lst .u 1 (r.map (e_Li .u))) r) := by
  refine ok_of_body hmix m92 rfl ?_
  unfold M_spec_l2Groups at h
  simp only [ZC, A92, V92, body_eq]
  obtain ⟨oZ18, hoZ18, h⟩ := bind_s h
  try refine ZF trivial ?_
  refine join_rule0 (blk_rule0 (loop_rule (w_spec_l2GroupsL1 nZ0) hoZ18 ?_)) ?_
  · exact ZK (ZA S_spec_l2GroupsL1.eq_1 SX_spec_l2GroupsL1.eq_1)
  · simp only [ZC, SX_spec_l2GroupsL1, A92R4]
    obtain ⟨oZ34, hoZ34, h⟩ := bind_s h
    try refine ZF trivial ?_
    refine join_rule0 (blk_rule0 (loop_rule (w_spec_l2GroupsL3 nZ0) hoZ34 ?_)) ?_
    · exact ZK (ZA S_spec_l2GroupsL3.eq_1 SX_spec_l2GroupsL3.eq_1)
    · simp only [ZC, SX_spec_l2GroupsL3, A92R6]
      cases h
      exact ZL trivial V92.eq_1
def S_spec_l16GoodL1 (oZ0 : TOutage) (v : Int) : St := ⟨[(3, .pt 3 0 0), (5, .i v)], [(3, .var (.agg [.i oZ0.Unit, .lst .o 1 (oZ0.Down.map AV.i)]))]⟩
def SX_spec_l16GoodL1 (v : Unit) : St := ⟨[], []⟩
theorem w_spec_l16GoodL1 (oZ0 : TOutage) (sZ8 : Int) (o : Int ⊕ (Unit ⊕ Bool)) (h : M_spec_l16GoodL1 oZ0 sZ8 = some o) : AWP (OkS Try.prog) A62L2 (qL [3, 5] [3] (S_spec_l16GoodL1 oZ0) (qS (qX 0 [] [] (SX_spec_l16GoodL1)) (qR V62 (fun r => .b r))) o) (S_spec_l16GoodL1 oZ0 sZ8) := by
  unfold M_spec_l16GoodL1 at h
  simp only [ZC, S_spec_l16GoodL1, A62L2]
  obtain ⟨cZ9, h⟩ | ⟨cZ9, h⟩ := cond_s h
  · obtain ⟨yZ10, hyZ10, h⟩ := bind_s h
    obtain ⟨hyZ10a, hyZ10b⟩ := geti_s hyZ10
    obtain ⟨rZ11, hrZ11, h⟩ := bind_s h
    refine ZF (ZA cZ9 (ZA hyZ10a hyZ10b)) ?_
    refine ZS (ZA cZ9 (ZA hyZ10a hyZ10b)) (w_spec_l1In _ _ _ hrZ11) ?_
    refine ZG ?_
    obtain ⟨cZ12, h⟩ | ⟨cZ12, h⟩ := cond_s h
    · cases h
      exact ZL (ZA cZ9 (ZA hyZ10a (ZA hyZ10b cZ12))) V62.eq_1
    · cases h
      exact ZL (ZA cZ9 (ZA hyZ10a (ZA hyZ10b cZ12))) (ZA S_spec_l16GoodL1.eq_1 SX_spec_l16GoodL1.eq_1)
  · cases h
    exact ZL cZ9 (ZA S_spec_l16GoodL1.eq_1 SX_spec_l16GoodL1.eq_1)
theorem w_spec_l16Good (nZ0 : TNetwork) (oZ0 : TOutage) {r : Bool} (h : M_spec_l16Good nZ0 oZ0 = some r) : Ok Try.prog 62 [.agg [.lst .o 1 (nZ0.Nodes.map AV.z), .lst .o 4 (nZ0.Fibers.map (e_TFiber .o))], .agg [.i oZ0.Unit, .lst .o 1 (oZ0.Down.map AV.i)]] ((fun r => .b r) r) := by
  refine ok_of_body hmix m62 rfl ?_
  unfold M_spec_l16Good at h
  simp only [ZC, A62, V62, body_eq]
  obtain ⟨oZ6, hoZ6, h⟩ := bind_s h
  try refine ZF trivial ?_
  refine join_rule0 (sh := (fun v => ⟨[(3, .pt 3 0 0), (23, .b v)], [(3, .var (.agg [.i oZ0.Unit, .lst .o 1 (oZ0.Down.map AV.i)]))]⟩)) (s := oZ6) ?_ ?_
  · replace h := hoZ6
    obtain ⟨rZ1, hrZ1, h⟩ := bind_s h
    refine ZF trivial ?_
    refine ZS trivial (w_spec_l2Good _ hrZ1) ?_
    refine ZG ?_
    obtain ⟨cZ2, h⟩ | ⟨cZ2, h⟩ := cond_s h
    · cases h
      exact ZL cZ2 trivial
    · obtain ⟨rZ3, hrZ3, h⟩ := bind_s h
      refine ZF cZ2 ?_
      refine ZS cZ2 (w_spec_l1In _ _ _ hrZ3) ?_
      refine ZG ?_
      obtain ⟨cZ4, h⟩ | ⟨cZ4, h⟩ := cond_s h
      · cases h
        exact ZL (ZA cZ2 cZ4) trivial
      · obtain ⟨rZ5, hrZ5, h⟩ := bind_s h
        refine ZF (ZA cZ2 cZ4) ?_
        refine ZU (ZA cZ2 cZ4) (w_spec_l2Groups _ hrZ5) ?_
        refine ZG ?_
        cases h
        exact ZL (ZA cZ2 cZ4) trivial
  · simp only [ZC, A62R1]
    obtain ⟨cZ7, h⟩ | ⟨cZ7, h⟩ := cond_s h
    · cases h
      exact ZL cZ7 V62.eq_1
    · obtain ⟨oZ13, hoZ13, h⟩ := bind_s h
      try refine ZF cZ7 ?_
      refine join_rule (o := oZ13) (blk_rule sideR (loop_rule (w_spec_l16GoodL1 oZ0) hoZ13 ?_)) (fun vZ14 hv => ?_) (fun xZ15 hv e τ hne hq => ?_)
      · exact ZK (ZA S_spec_l16GoodL1.eq_1 SX_spec_l16GoodL1.eq_1)
      · subst hv
        simp only [] at h
        simp only [ZC, SX_spec_l16GoodL1, A62R3]
        cases h
        exact ZL cZ7 V62.eq_1
      · subst hv
        simp only [] at h
        obtain ⟨rfl, qZ16⟩ := hq
        cases h
        exact qZ16
theorem w_spec_l6Ends (nZ0 : TNetwork) (fromZ0 : Int) (toZ0 : Int) {r : Bool} (h : M_spec_l6Ends nZ0 fromZ0 toZ0 = some r) : Ok Try.prog 85 [.agg [.lst .o 1 (nZ0.Nodes.map AV.z), .lst .o 4 (nZ0.Fibers.map (e_TFiber .o))], .i fromZ0, .i toZ0] ((fun r => .b r) r) := by
  refine ok_of_body hmix m85 rfl ?_
  unfold M_spec_l6Ends at h
  simp only [ZC, A85, V85, body_eq]
  obtain ⟨rZ1, hrZ1, h⟩ := bind_s h
  refine ZF trivial ?_
  refine ZS trivial (w_spec_l2Good _ hrZ1) ?_
  refine ZG ?_
  obtain ⟨cZ2, h⟩ | ⟨cZ2, h⟩ := cond_s h
  · obtain ⟨rZ3, hrZ3, h⟩ := bind_s h
    refine ZF cZ2 ?_
    refine ZS cZ2 (w_spec_l1In _ _ _ hrZ3) ?_
    refine ZG ?_
    obtain ⟨cZ4, h⟩ | ⟨cZ4, h⟩ := cond_s h
    · obtain ⟨rZ5, hrZ5, h⟩ := bind_s h
      refine ZF (ZA cZ2 cZ4) ?_
      refine ZS (ZA cZ2 cZ4) (w_spec_l1In _ _ _ hrZ5) ?_
      refine ZG ?_
      obtain ⟨cZ6, h⟩ | ⟨cZ6, h⟩ := cond_s h
      · cases h
        exact ZL (ZA cZ2 (ZA cZ4 cZ6)) V85.eq_1
      · cases h
        exact ZL (ZA cZ2 (ZA cZ4 cZ6)) V85.eq_1
    · cases h
      exact ZL (ZA cZ2 cZ4) V85.eq_1
  · cases h
    exact ZL cZ2 V85.eq_1
theorem w_spec_l1Own (lZ0 : List Int) {r : List Int} (h : M_spec_l1Own lZ0 = some r) : Ok Try.prog 123 [.lst .o 1 (lZ0.map AV.i)] ((fun r => .lst .u 1 (r.map AV.i)) r) := by
  refine ok_of_body hmix m123 rfl ?_
  unfold M_spec_l1Own at h
  simp only [ZC, A123, V123, body_eq]
  obtain ⟨uZ1, huZ1, h⟩ := bind_s h
  have huZ1g := grd_s huZ1
  cases h
  exact ZL huZ1g V123.eq_1
theorem w_spec_l16With (oZ0 : TOutage) (groupZ0 : Int) (downZ0 : Int) {r : TOutage} (h : M_spec_l16With oZ0 groupZ0 downZ0 = some r) : Ok Try.prog 91 [.agg [.i oZ0.Unit, .lst .o 1 (oZ0.Down.map AV.i)], .i groupZ0, .i downZ0] ((fun r => .agg [.i r.Unit, .lst .u 1 (r.Down.map AV.i)]) r) := by
  refine ok_of_body hmix m91 rfl ?_
  unfold M_spec_l16With at h
  simp only [ZC, A91, V91, body_eq]
  obtain ⟨rZ1, hrZ1, h⟩ := bind_s h
  refine ZF trivial ?_
  refine ZU trivial (w_spec_l1Own _ hrZ1) ?_
  refine ZG ?_
  obtain ⟨kZ2, hkZ2, h⟩ := bind_s h
  obtain ⟨hkZ2a, hkZ2b⟩ := grd_s hkZ2
  obtain ⟨yZ3, hyZ3, h⟩ := bind_s h
  obtain ⟨lZ4, hlZ4, h⟩ := bnd_s h
  have eZ5 : (rZ1.map AV.i).set (Int.toNat groupZ0) (.i downZ0) = lZ4.map AV.i := by rw [← hlZ4, List.map_set]
  have nZ6 : sub (lZ4.map AV.i) 0 rZ1.length = lZ4.map AV.i := sub_n _ (by simp [← hlZ4])
  cases h
  exact ZL (ZA hkZ2a (ZA hkZ2b (ZA hyZ3 (ZA eZ5 nZ6)))) (ZA V91.eq_1 hlZ4.symm)
def S_spec_l6MaskL1 (listZ0 : List Int) (v : Int × Int) : St := ⟨[(0, .lst .o 1 (listZ0.map AV.i)), (3, .i v.1), (4, .i v.2)], []⟩
def SX_spec_l6MaskL1 (v : Int) : St := ⟨[(3, .i v)], []⟩
theorem w_spec_l6MaskL1 (listZ0 : List Int) (sZ1 : Int × Int) (o : (Int × Int) ⊕ Int) (h : M_spec_l6MaskL1 listZ0 sZ1 = some o) : AWP (OkS Try.prog) A77L1 (qL [0, 3, 4] [] (S_spec_l6MaskL1 listZ0) (qX 0 [3] [] (SX_spec_l6MaskL1)) o) (S_spec_l6MaskL1 listZ0 sZ1) := by
  unfold M_spec_l6MaskL1 at h
  simp only [ZC, S_spec_l6MaskL1, A77L1]
  obtain ⟨cZ2, h⟩ | ⟨cZ2, h⟩ := cond_s h
  · obtain ⟨yZ3, hyZ3, h⟩ := bind_s h
    obtain ⟨hyZ3a, hyZ3b⟩ := geti_s hyZ3
    obtain ⟨uZ4, huZ4, h⟩ := bind_s h
    have huZ4g := grd_s huZ4
    cases h
    exact ZL (ZA cZ2 (ZA hyZ3a (ZA hyZ3b huZ4g))) (ZA S_spec_l6MaskL1.eq_1 SX_spec_l6MaskL1.eq_1)
  · cases h
    exact ZL cZ2 (ZA S_spec_l6MaskL1.eq_1 SX_spec_l6MaskL1.eq_1)
theorem w_spec_l6Mask (listZ0 : List Int) {r : Int} (h : M_spec_l6Mask listZ0 = some r) : Ok Try.prog 77 [.lst .o 1 (listZ0.map AV.i)] ((fun r => .i r) r) := by
  refine ok_of_body hmix m77 rfl ?_
  unfold M_spec_l6Mask at h
  simp only [ZC, A77, V77, body_eq]
  obtain ⟨oZ5, hoZ5, h⟩ := bind_s h
  try refine ZF trivial ?_
  refine join_rule0 (blk_rule0 (loop_rule (w_spec_l6MaskL1 listZ0) hoZ5 ?_)) ?_
  · exact ZK (ZA S_spec_l6MaskL1.eq_1 SX_spec_l6MaskL1.eq_1)
  · simp only [ZC, SX_spec_l6MaskL1, A77R2]
    cases h
    exact ZL trivial V77.eq_1
def S_spec_l16GoneL1 (groupsZ0 : List (List Int)) (maskZ0 : Int) (v : Int × Int) : St := ⟨[(0, .lst .o 1 (groupsZ0.map (e_Li .o))), (1, .i maskZ0), (5, .i v.1), (6, .i v.2)], []⟩
def SX_spec_l16GoneL1 (v : Int) : St := ⟨[(5, .i v)], []⟩
theorem w_spec_l16GoneL1 (groupsZ0 : List (List Int)) (maskZ0 : Int) (sZ1 : Int × Int) (o : (Int × Int) ⊕ Int) (h : M_spec_l16GoneL1 groupsZ0 maskZ0 sZ1 = some o) : AWP (OkS Try.prog) A94L1 (qL [0, 1, 5, 6] [] (S_spec_l16GoneL1 groupsZ0 maskZ0) (qX 0 [5] [] (SX_spec_l16GoneL1)) o) (S_spec_l16GoneL1 groupsZ0 maskZ0 sZ1) := by
  unfold M_spec_l16GoneL1 at h
  simp only [ZC, S_spec_l16GoneL1, A94L1]
  obtain ⟨cZ2, h⟩ | ⟨cZ2, h⟩ := cond_s h
  · obtain ⟨uZ3, huZ3, h⟩ := bind_s h
    have huZ3g := grd_s huZ3
    obtain ⟨cZ4, h⟩ | ⟨cZ4, h⟩ := cond_s h
    · obtain ⟨yZ5, hyZ5, h⟩ := bind_s h
      obtain ⟨hyZ5a, hyZ5b⟩ := geti_s hyZ5
      obtain ⟨rZ6, hrZ6, h⟩ := bind_s h
      refine ZF (ZA cZ2 (ZA huZ3g (ZA cZ4 (ZA hyZ5a hyZ5b)))) ?_
      refine ZS (ZA cZ2 (ZA huZ3g (ZA cZ4 (ZA hyZ5a hyZ5b)))) (w_spec_l6Mask _ hrZ6) ?_
      refine ZG ?_
      cases h
      exact ZL (ZA cZ2 (ZA huZ3g (ZA cZ4 (ZA hyZ5a hyZ5b)))) (ZA S_spec_l16GoneL1.eq_1 SX_spec_l16GoneL1.eq_1)
    · cases h
      exact ZL (ZA cZ2 (ZA huZ3g cZ4)) (ZA S_spec_l16GoneL1.eq_1 SX_spec_l16GoneL1.eq_1)
  · cases h
    exact ZL cZ2 (ZA S_spec_l16GoneL1.eq_1 SX_spec_l16GoneL1.eq_1)
theorem w_spec_l16Gone (groupsZ0 : List (List Int)) (maskZ0 : Int) {r : Int} (h : M_spec_l16Gone groupsZ0 maskZ0 = some r) : Ok Try.prog 94 [.lst .o 1 (groupsZ0.map (e_Li .o)), .i maskZ0] ((fun r => .i r) r) := by
  refine ok_of_body hmix m94 rfl ?_
  unfold M_spec_l16Gone at h
  simp only [ZC, A94, V94, body_eq]
  obtain ⟨oZ7, hoZ7, h⟩ := bind_s h
  try refine ZF trivial ?_
  refine join_rule0 (blk_rule0 (loop_rule (w_spec_l16GoneL1 groupsZ0 maskZ0) hoZ7 ?_)) ?_
  · exact ZK (ZA S_spec_l16GoneL1.eq_1 SX_spec_l16GoneL1.eq_1)
  · simp only [ZC, SX_spec_l16GoneL1, A94R2]
    cases h
    exact ZL trivial V94.eq_1
theorem w_spec_l1Least (aZ0 : Int) (bZ0 : Int) {r : Int} (h : M_spec_l1Least aZ0 bZ0 = some r) : Ok Try.prog 125 [.i aZ0, .i bZ0] ((fun r => .i r) r) := by
  refine ok_of_body hmix m125 rfl ?_
  unfold M_spec_l1Least at h
  simp only [ZC, A125, V125, body_eq]
  obtain ⟨cZ1, h⟩ | ⟨cZ1, h⟩ := cond_s h
  · cases h
    exact ZL cZ1 V125.eq_1
  · cases h
    exact ZL cZ1 V125.eq_1
def S_spec_l6LabelsL1 (nZ0 : TNetwork) (goneZ0 : Int) (v : Int × List Int) : St := ⟨[(1, .i goneZ0), (2, .pt 2 0 0), (5, .sl 5 0 v.2.length), (6, .i v.1)], [(2, .var (.agg [.lst .o 1 (nZ0.Nodes.map AV.z), .lst .o 4 (nZ0.Fibers.map (e_TFiber .o))])), (5, .arr 1 (v.2.map AV.i))]⟩
def SX_spec_l6LabelsL1 (nZ0 : TNetwork) (goneZ0 : Int) (v : List Int) : St := ⟨[(1, .i goneZ0), (2, .pt 2 0 0), (5, .sl 5 0 v.length)], [(2, .var (.agg [.lst .o 1 (nZ0.Nodes.map AV.z), .lst .o 4 (nZ0.Fibers.map (e_TFiber .o))])), (5, .arr 1 (v.map AV.i))]⟩
theorem w_spec_l6LabelsL1 (nZ0 : TNetwork) (goneZ0 : Int) (sZ1 : Int × List Int) (o : (Int × List Int) ⊕ (List Int)) (h : M_spec_l6LabelsL1 nZ0 sZ1 = some o) : AWP (OkS Try.prog) A93L1 (qL [1, 2, 5, 6] [2, 5] (S_spec_l6LabelsL1 nZ0 goneZ0) (qX 0 [1, 2, 5] [2, 5] (SX_spec_l6LabelsL1 nZ0 goneZ0)) o) (S_spec_l6LabelsL1 nZ0 goneZ0 sZ1) := by
  unfold M_spec_l6LabelsL1 at h
  simp only [ZC, S_spec_l6LabelsL1, A93L1]
  obtain ⟨cZ2, h⟩ | ⟨cZ2, h⟩ := cond_s h
  · obtain ⟨lZ3, hlZ3, h⟩ := bnd_s h
    have eZ4 : Row.arr 1 [(.i sZ1.1 : AV)] = Row.arr 1 (lZ3.map AV.i) := by rw [← hlZ3]; rfl
    have jjZ5 : lZ3.length = 1 := by rw [← hlZ3]; rfl
    obtain ⟨uZ6, huZ6, h⟩ := bind_s h
    have huZ6g := grd_s huZ6
    obtain ⟨lZ7, hlZ7, h⟩ := bnd_s h
    have eZ8 : sZ1.2.map AV.i ++ lZ3.map AV.i = lZ7.map AV.i := by rw [← hlZ7, List.map_append]
    have eZ9 : sZ1.2.length + 1 = lZ7.length := by simp [← hlZ3, ← hlZ7] <;> omega
    rw [eZ9] at huZ6g
    cases h
    exact ZL (ZA cZ2 (ZA eZ4 (ZA jjZ5 (ZA huZ6g (ZA eZ8 eZ9))))) (ZA S_spec_l6LabelsL1.eq_1 (ZA SX_spec_l6LabelsL1.eq_1 (ZA hlZ3.symm (ZA hlZ7.symm jjZ5))))
  · cases h
    exact ZL cZ2 (ZA S_spec_l6LabelsL1.eq_1 SX_spec_l6LabelsL1.eq_1)
def S_spec_l6LabelsL3 (nZ0 : TNetwork) (goneZ0 : Int) (v : Bool × Int × List Int) : St := ⟨[(1, .i goneZ0), (2, .pt 2 0 0), (5, .sl 5 0 v.2.2.length), (7, .b v.1), (8, .i v.2.1)], [(2, .var (.agg [.lst .o 1 (nZ0.Nodes.map AV.z), .lst .o 4 (nZ0.Fibers.map (e_TFiber .o))])), (5, .arr 1 (v.2.2.map AV.i))]⟩
def SX_spec_l6LabelsL3 (nZ0 : TNetwork) (goneZ0 : Int) (v : Bool × List Int) : St := ⟨[(1, .i goneZ0), (2, .pt 2 0 0), (5, .sl 5 0 v.2.length), (7, .b v.1)], [(2, .var (.agg [.lst .o 1 (nZ0.Nodes.map AV.z), .lst .o 4 (nZ0.Fibers.map (e_TFiber .o))])), (5, .arr 1 (v.2.map AV.i))]⟩
theorem w_spec_l6LabelsL3 (nZ0 : TNetwork) (goneZ0 : Int) (sZ13 : Bool × Int × List Int) (o : (Bool × Int × List Int) ⊕ (Bool × List Int)) (h : M_spec_l6LabelsL3 nZ0 goneZ0 sZ13 = some o) : AWP (OkS Try.prog) A93L4 (qL [1, 2, 5, 7, 8] [2, 5] (S_spec_l6LabelsL3 nZ0 goneZ0) (qX 4 [1, 2, 5, 7] [2, 5] (SX_spec_l6LabelsL3 nZ0 goneZ0)) o) (S_spec_l6LabelsL3 nZ0 goneZ0 sZ13) := by
  unfold M_spec_l6LabelsL3 at h
  simp only [ZC, S_spec_l6LabelsL3, A93L4]
  obtain ⟨cZ14, h⟩ | ⟨cZ14, h⟩ := cond_s h
  · obtain ⟨yZ15, hyZ15, h⟩ := bind_s h
    obtain ⟨hyZ15a, hyZ15b⟩ := geti_s hyZ15
    obtain ⟨oZ22, hoZ22, h⟩ := bind_s h
    try refine ZF (ZA cZ14 (ZA hyZ15a hyZ15b)) ?_
    refine join_rule0 (sh := (fun v => ⟨[(1, .i goneZ0), (2, .pt 2 0 0), (5, .sl 5 0 sZ13.2.2.length), (7, .b sZ13.1), (8, .i sZ13.2.1), (9, .i yZ15.A), (10, .i yZ15.B), (60, .b v)], [(2, .var (.agg [.lst .o 1 (nZ0.Nodes.map AV.z), .lst .o 4 (nZ0.Fibers.map (e_TFiber .o))])), (5, .arr 1 (sZ13.2.2.map AV.i))]⟩)) (s := oZ22) ?_ ?_
    · replace h := hoZ22
      obtain ⟨uZ16, huZ16, h⟩ := bind_s h
      have huZ16g := grd_s huZ16
      obtain ⟨cZ17, h⟩ | ⟨cZ17, h⟩ := cond_s h
      · cases h
        exact ZL (ZA cZ14 (ZA hyZ15a (ZA hyZ15b (ZA huZ16g cZ17)))) trivial
      · obtain ⟨kZ18, hkZ18, h⟩ := bind_s h
        obtain ⟨hkZ18a, hkZ18b⟩ := grd_s hkZ18
        obtain ⟨yZ19, hyZ19, h⟩ := bind_s h
        obtain ⟨kZ20, hkZ20, h⟩ := bind_s h
        obtain ⟨hkZ20a, hkZ20b⟩ := grd_s hkZ20
        obtain ⟨yZ21, hyZ21, h⟩ := bind_s h
        cases h
        exact ZL (ZA cZ14 (ZA hyZ15a (ZA hyZ15b (ZA huZ16g (ZA cZ17 (ZA hkZ18a (ZA hkZ18b (ZA hyZ19 (ZA hkZ20a (ZA hkZ20b hyZ21)))))))))) trivial
    · simp only [ZC, A93R3]
      obtain ⟨cZ23, h⟩ | ⟨cZ23, h⟩ := cond_s h
      · cases h
        exact ZL (ZA cZ14 (ZA hyZ15a (ZA hyZ15b cZ23))) (ZA S_spec_l6LabelsL3.eq_1 SX_spec_l6LabelsL3.eq_1)
      · obtain ⟨kZ24, hkZ24, h⟩ := bind_s h
        obtain ⟨hkZ24a, hkZ24b⟩ := grd_s hkZ24
        obtain ⟨yZ25, hyZ25, h⟩ := bind_s h
        obtain ⟨kZ26, hkZ26, h⟩ := bind_s h
        obtain ⟨hkZ26a, hkZ26b⟩ := grd_s hkZ26
        obtain ⟨yZ27, hyZ27, h⟩ := bind_s h
        obtain ⟨rZ28, hrZ28, h⟩ := bind_s h
        refine ZF (ZA cZ14 (ZA hyZ15a (ZA hyZ15b (ZA cZ23 (ZA hkZ24a (ZA hkZ24b (ZA hyZ25 (ZA hkZ26a (ZA hkZ26b hyZ27))))))))) ?_
        refine ZS (ZA cZ14 (ZA hyZ15a (ZA hyZ15b (ZA cZ23 (ZA hkZ24a (ZA hkZ24b (ZA hyZ25 (ZA hkZ26a (ZA hkZ26b hyZ27))))))))) (w_spec_l1Least _ _ hrZ28) ?_
        refine ZG ?_
        obtain ⟨lZ29, hlZ29, h⟩ := bnd_s h
        have eZ30 : (sZ13.2.2.map AV.i).set (Int.toNat yZ15.A) (.i rZ28) = lZ29.map AV.i := by rw [← hlZ29, List.map_set]
        obtain ⟨yZ31, hyZ31, h⟩ := bind_s h
        obtain ⟨lZ32, hlZ32, h⟩ := bnd_s h
        have eZ33 : (lZ29.map AV.i).set (Int.toNat yZ15.B) (.i rZ28) = lZ32.map AV.i := by rw [← hlZ32, List.map_set]
        cases h
        exact ZL (ZA cZ14 (ZA hyZ15a (ZA hyZ15b (ZA cZ23 (ZA hkZ24a (ZA hkZ24b (ZA hyZ25 (ZA hkZ26a (ZA hkZ26b (ZA hyZ27 (ZA eZ30 (ZA hyZ31 eZ33)))))))))))) (ZA S_spec_l6LabelsL3.eq_1 (ZA SX_spec_l6LabelsL3.eq_1 (ZA hlZ29.symm hlZ32.symm)))
  · cases h
    exact ZL cZ14 (ZA S_spec_l6LabelsL3.eq_1 SX_spec_l6LabelsL3.eq_1)
def S_spec_l6LabelsL2 (nZ0 : TNetwork) (goneZ0 : Int) (v : Bool × List Int) : St := ⟨[(1, .i goneZ0), (2, .pt 2 0 0), (5, .sl 5 0 v.2.length), (7, .b v.1)], [(2, .var (.agg [.lst .o 1 (nZ0.Nodes.map AV.z), .lst .o 4 (nZ0.Fibers.map (e_TFiber .o))])), (5, .arr 1 (v.2.map AV.i))]⟩
def SX_spec_l6LabelsL2 (v : List Int) : St := ⟨[(5, .sl 5 0 v.length)], [(5, .arr 1 (v.map AV.i))]⟩
theorem w_spec_l6LabelsL2 (nZ0 : TNetwork) (goneZ0 : Int) (sZ11 : Bool × List Int) (o : (Bool × List Int) ⊕ (List Int)) (h : M_spec_l6LabelsL2 nZ0 goneZ0 sZ11 = some o) : AWP (OkS Try.prog) A93L5 (qL [1, 2, 5, 7] [2, 5] (S_spec_l6LabelsL2 nZ0 goneZ0) (qX 2 [5] [5] (SX_spec_l6LabelsL2)) o) (S_spec_l6LabelsL2 nZ0 goneZ0 sZ11) := by
  unfold M_spec_l6LabelsL2 at h
  simp only [ZC, S_spec_l6LabelsL2, A93L5]
  obtain ⟨cZ12, h⟩ | ⟨cZ12, h⟩ := cond_s h
  · obtain ⟨oZ34, hoZ34, h⟩ := bind_s h
    try refine ZF cZ12 ?_
    first | refine tail_rule0 (blk_rule0 (loop_rule (w_spec_l6LabelsL3 nZ0 goneZ0) hoZ34 ?_)) (fun τ qZ35 => ?_) | refine tail_blk0 (loop_rule (w_spec_l6LabelsL3 nZ0 goneZ0) hoZ34 ?_) (fun τ qZ35 => ?_)
    · exact ZK (ZA S_spec_l6LabelsL3.eq_1 SX_spec_l6LabelsL3.eq_1)
    · cases h
      try refine ZF trivial ?_
      refine ⟨rfl, Shp.sub qZ35 (by decide) (by decide) ?_⟩
      exact ZK (ZA S_spec_l6LabelsL2.eq_1 (ZA SX_spec_l6LabelsL2.eq_1 SX_spec_l6LabelsL3.eq_1))
  · cases h
    exact ZL cZ12 (ZA S_spec_l6LabelsL2.eq_1 SX_spec_l6LabelsL2.eq_1)
theorem w_spec_l6Labels (nZ0 : TNetwork) (goneZ0 : Int) {r : List Int} (h : M_spec_l6Labels nZ0 goneZ0 = some r) : Ok Try.prog 93 [.agg [.lst .o 1 (nZ0.Nodes.map AV.z), .lst .o 4 (nZ0.Fibers.map (e_TFiber .o))], .i goneZ0] ((fun r => .lst .u 1 (r.map AV.i)) r) := by
  refine ok_of_body hmix m93 rfl ?_
  unfold M_spec_l6Labels at h
  simp only [ZC, A93, V93, body_eq]
  obtain ⟨oZ10, hoZ10, h⟩ := bind_s h
  try refine ZF trivial ?_
  refine join_rule0 (blk_rule0 (loop_rule (w_spec_l6LabelsL1 nZ0 goneZ0) hoZ10 ?_)) ?_
  · exact ZK (ZA S_spec_l6LabelsL1.eq_1 SX_spec_l6LabelsL1.eq_1)
  · simp only [ZC, SX_spec_l6LabelsL1, A93R2]
    obtain ⟨oZ36, hoZ36, h⟩ := bind_s h
    try refine ZF trivial ?_
    refine join_rule0 (blk_rule0 (loop_rule (w_spec_l6LabelsL2 nZ0 goneZ0) hoZ36 ?_)) ?_
    · exact ZK (ZA S_spec_l6LabelsL2.eq_1 SX_spec_l6LabelsL2.eq_1)
    · simp only [ZC, SX_spec_l6LabelsL2, A93R6]
      cases h
      exact ZL trivial V93.eq_1
def S_spec_l16WeightL1 (oZ0 : TOutage) (maskZ0 : Int) (v : Int × Int) : St := ⟨[(1, .i maskZ0), (2, .pt 2 0 0), (5, .i v.1), (6, .i v.2)], [(2, .var (.agg [.i oZ0.Unit, .lst .o 1 (oZ0.Down.map AV.i)]))]⟩
def SX_spec_l16WeightL1 (v : Int) : St := ⟨[(5, .i v)], []⟩
theorem w_spec_l16WeightL1 (oZ0 : TOutage) (maskZ0 : Int) (sZ1 : Int × Int) (o : (Int × Int) ⊕ Int) (h : M_spec_l16WeightL1 oZ0 maskZ0 sZ1 = some o) : AWP (OkS Try.prog) A76L1 (qL [1, 2, 5, 6] [2] (S_spec_l16WeightL1 oZ0 maskZ0) (qX 0 [5] [] (SX_spec_l16WeightL1)) o) (S_spec_l16WeightL1 oZ0 maskZ0 sZ1) := by
  unfold M_spec_l16WeightL1 at h
  simp only [ZC, S_spec_l16WeightL1, A76L1]
  obtain ⟨cZ2, h⟩ | ⟨cZ2, h⟩ := cond_s h
  · obtain ⟨uZ3, huZ3, h⟩ := bind_s h
    have huZ3g := grd_s huZ3
    obtain ⟨cZ4, h⟩ | ⟨cZ4, h⟩ := cond_s h
    · obtain ⟨yZ5, hyZ5, h⟩ := bind_s h
      obtain ⟨hyZ5a, hyZ5b⟩ := geti_s hyZ5
      cases h
      exact ZL (ZA cZ2 (ZA huZ3g (ZA cZ4 (ZA hyZ5a hyZ5b)))) (ZA S_spec_l16WeightL1.eq_1 SX_spec_l16WeightL1.eq_1)
    · obtain ⟨yZ6, hyZ6, h⟩ := bind_s h
      obtain ⟨hyZ6a, hyZ6b⟩ := geti_s hyZ6
      cases h
      exact ZL (ZA cZ2 (ZA huZ3g (ZA cZ4 (ZA hyZ6a hyZ6b)))) (ZA S_spec_l16WeightL1.eq_1 SX_spec_l16WeightL1.eq_1)
  · cases h
    exact ZL cZ2 (ZA S_spec_l16WeightL1.eq_1 SX_spec_l16WeightL1.eq_1)
theorem w_spec_l16Weight (oZ0 : TOutage) (maskZ0 : Int) {r : Int} (h : M_spec_l16Weight oZ0 maskZ0 = some r) : Ok Try.prog 76 [.agg [.i oZ0.Unit, .lst .o 1 (oZ0.Down.map AV.i)], .i maskZ0] ((fun r => .i r) r) := by
  refine ok_of_body hmix m76 rfl ?_
  unfold M_spec_l16Weight at h
  simp only [ZC, A76, V76, body_eq]
  obtain ⟨oZ7, hoZ7, h⟩ := bind_s h
  try refine ZF trivial ?_
  refine join_rule0 (blk_rule0 (loop_rule (w_spec_l16WeightL1 oZ0 maskZ0) hoZ7 ?_)) ?_
  · exact ZK (ZA S_spec_l16WeightL1.eq_1 SX_spec_l16WeightL1.eq_1)
  · simp only [ZC, SX_spec_l16WeightL1, A76R2]
    cases h
    exact ZL trivial V76.eq_1
def S_spec_l16ConnectedL2 (nZ0 : TNetwork) (oZ0 : TOutage) (fromZ0 : Int) (toZ0 : Int) (rZ1 : List (List Int)) (sZ2 : Int × Int) (rZ6 : List Int) (v : Bool × Int) : St := ⟨[(2, .i fromZ0), (3, .i toZ0), (4, .pt 4 0 0), (5, .pt 5 0 0), (9, .sl 9 0 rZ1.length), (10, .i sZ2.1), (11, .i sZ2.2), (12, .sl 12 0 rZ6.length), (13, .b v.1), (14, .i v.2)], [(4, .var (.agg [.lst .o 1 (nZ0.Nodes.map AV.z), .lst .o 4 (nZ0.Fibers.map (e_TFiber .o))])), (5, .var (.agg [.i oZ0.Unit, .lst .o 1 (oZ0.Down.map AV.i)])), (9, .arr 1 (rZ1.map (e_Li .u))), (12, .arr 1 (rZ6.map AV.i))]⟩
def SX_spec_l16ConnectedL2 (nZ0 : TNetwork) (oZ0 : TOutage) (fromZ0 : Int) (toZ0 : Int) (rZ1 : List (List Int)) (sZ2 : Int × Int) (v : Bool) : St := ⟨[(2, .i fromZ0), (3, .i toZ0), (4, .pt 4 0 0), (5, .pt 5 0 0), (9, .sl 9 0 rZ1.length), (10, .i sZ2.1), (11, .i sZ2.2), (13, .b v)], [(4, .var (.agg [.lst .o 1 (nZ0.Nodes.map AV.z), .lst .o 4 (nZ0.Fibers.map (e_TFiber .o))])), (5, .var (.agg [.i oZ0.Unit, .lst .o 1 (oZ0.Down.map AV.i)])), (9, .arr 1 (rZ1.map (e_Li .u)))]⟩
theorem w_spec_l16ConnectedL2 (nZ0 : TNetwork) (oZ0 : TOutage) (fromZ0 : Int) (toZ0 : Int) (rZ1 : List (List Int)) (sZ2 : Int × Int) (rZ6 : List Int) (sZ14 : Bool × Int) (o : (Bool × Int) ⊕ Bool) (h : M_spec_l16ConnectedL2 rZ6 sZ14 = some o) : AWP (OkS Try.prog) A80L2 (qL [2, 3, 4, 5, 9, 10, 11, 12, 13, 14] [4, 5, 9, 12] (S_spec_l16ConnectedL2 nZ0 oZ0 fromZ0 toZ0 rZ1 sZ2 rZ6) (qX 2 [2, 3, 4, 5, 9, 10, 11, 13] [4, 5, 9] (SX_spec_l16ConnectedL2 nZ0 oZ0 fromZ0 toZ0 rZ1 sZ2)) o) (S_spec_l16ConnectedL2 nZ0 oZ0 fromZ0 toZ0 rZ1 sZ2 rZ6 sZ14) := by
  unfold M_spec_l16ConnectedL2 at h
  simp only [ZC, S_spec_l16ConnectedL2, A80L2]
  obtain ⟨cZ15, h⟩ | ⟨cZ15, h⟩ := cond_s h
  · obtain ⟨cZ16, h⟩ | ⟨cZ16, h⟩ := cond_s h
    · obtain ⟨kZ17, hkZ17, h⟩ := bind_s h
      obtain ⟨hkZ17a, hkZ17b⟩ := grd_s hkZ17
      obtain ⟨yZ18, hyZ18, h⟩ := bind_s h
      cases h
      exact ZL (ZA cZ15 (ZA cZ16 (ZA hkZ17a (ZA hkZ17b hyZ18)))) (ZA S_spec_l16ConnectedL2.eq_1 SX_spec_l16ConnectedL2.eq_1)
    · cases h
      exact ZL (ZA cZ15 cZ16) (ZA S_spec_l16ConnectedL2.eq_1 SX_spec_l16ConnectedL2.eq_1)
  · cases h
    exact ZL cZ15 (ZA S_spec_l16ConnectedL2.eq_1 SX_spec_l16ConnectedL2.eq_1)
def S_spec_l16ConnectedL1 (nZ0 : TNetwork) (oZ0 : TOutage) (fromZ0 : Int) (toZ0 : Int) (rZ1 : List (List Int)) (v : Int × Int) : St := ⟨[(2, .i fromZ0), (3, .i toZ0), (4, .pt 4 0 0), (5, .pt 5 0 0), (9, .sl 9 0 rZ1.length), (10, .i v.1), (11, .i v.2)], [(4, .var (.agg [.lst .o 1 (nZ0.Nodes.map AV.z), .lst .o 4 (nZ0.Fibers.map (e_TFiber .o))])), (5, .var (.agg [.i oZ0.Unit, .lst .o 1 (oZ0.Down.map AV.i)])), (9, .arr 1 (rZ1.map (e_Li .u)))]⟩
def SX_spec_l16ConnectedL1 (v : Int) : St := ⟨[(10, .i v)], []⟩
theorem w_spec_l16ConnectedL1 (nZ0 : TNetwork) (oZ0 : TOutage) (fromZ0 : Int) (toZ0 : Int) (rZ1 : List (List Int)) (sZ2 : Int × Int) (o : (Int × Int) ⊕ Int) (h : M_spec_l16ConnectedL1 nZ0 oZ0 fromZ0 toZ0 rZ1 sZ2 = some o) : AWP (OkS Try.prog) A80L4 (qL [2, 3, 4, 5, 9, 10, 11] [4, 5, 9] (S_spec_l16ConnectedL1 nZ0 oZ0 fromZ0 toZ0 rZ1) (qX 0 [10] [] (SX_spec_l16ConnectedL1)) o) (S_spec_l16ConnectedL1 nZ0 oZ0 fromZ0 toZ0 rZ1 sZ2) := by
  unfold M_spec_l16ConnectedL1 at h
  simp only [ZC, S_spec_l16ConnectedL1, A80L4]
  obtain ⟨uZ3, huZ3, h⟩ := bind_s h
  have huZ3g := grd_s huZ3
  obtain ⟨cZ4, h⟩ | ⟨cZ4, h⟩ := cond_s h
  · obtain ⟨rZ5, hrZ5, h⟩ := bind_s h
    refine ZF (ZA huZ3g cZ4) ?_
    refine ZS (ZA huZ3g cZ4) (w_spec_l16Gone _ _ hrZ5) ?_
    refine ZG ?_
    obtain ⟨rZ6, hrZ6, h⟩ := bind_s h
    refine ZF (ZA huZ3g cZ4) ?_
    refine ZU (ZA huZ3g cZ4) (w_spec_l6Labels _ _ hrZ6) ?_
    refine ZG ?_
    obtain ⟨oZ12, hoZ12, h⟩ := bind_s h
    try refine ZF (ZA huZ3g cZ4) ?_
    refine join_rule0 (sh := (fun v => ⟨[(2, .i fromZ0), (3, .i toZ0), (4, .pt 4 0 0), (5, .pt 5 0 0), (9, .sl 9 0 rZ1.length), (10, .i sZ2.1), (11, .i sZ2.2), (12, .sl 12 0 rZ6.length), (13, .b v)], [(4, .var (.agg [.lst .o 1 (nZ0.Nodes.map AV.z), .lst .o 4 (nZ0.Fibers.map (e_TFiber .o))])), (5, .var (.agg [.i oZ0.Unit, .lst .o 1 (oZ0.Down.map AV.i)])), (9, .arr 1 (rZ1.map (e_Li .u))), (12, .arr 1 (rZ6.map AV.i))]⟩)) (s := oZ12) ?_ ?_
    · replace h := hoZ12
      obtain ⟨cZ7, h⟩ | ⟨cZ7, h⟩ := cond_s h
      · obtain ⟨kZ8, hkZ8, h⟩ := bind_s h
        obtain ⟨hkZ8a, hkZ8b⟩ := grd_s hkZ8
        obtain ⟨yZ9, hyZ9, h⟩ := bind_s h
        obtain ⟨kZ10, hkZ10, h⟩ := bind_s h
        obtain ⟨hkZ10a, hkZ10b⟩ := grd_s hkZ10
        obtain ⟨yZ11, hyZ11, h⟩ := bind_s h
        cases h
        exact ZL (ZA huZ3g (ZA cZ4 (ZA cZ7 (ZA hkZ8a (ZA hkZ8b (ZA hyZ9 (ZA hkZ10a (ZA hkZ10b hyZ11)))))))) trivial
      · cases h
        exact ZL (ZA huZ3g (ZA cZ4 cZ7)) trivial
    · simp only [ZC, A80R1]
      obtain ⟨oZ21, hoZ21, h⟩ := bind_s h
      try refine ZF (ZA huZ3g cZ4) ?_
      refine join_rule0 (sh := (fun v => ⟨[(2, .i fromZ0), (3, .i toZ0), (4, .pt 4 0 0), (5, .pt 5 0 0), (9, .sl 9 0 rZ1.length), (10, .i sZ2.1), (11, .i sZ2.2), (13, .b v)], [(4, .var (.agg [.lst .o 1 (nZ0.Nodes.map AV.z), .lst .o 4 (nZ0.Fibers.map (e_TFiber .o))])), (5, .var (.agg [.i oZ0.Unit, .lst .o 1 (oZ0.Down.map AV.i)])), (9, .arr 1 (rZ1.map (e_Li .u)))]⟩)) (s := oZ21) ?_ ?_
      · replace h := hoZ21
        obtain ⟨cZ13, h⟩ | ⟨cZ13, h⟩ := cond_s h
        · obtain ⟨oZ19, hoZ19, h⟩ := bind_s h
          try refine ZF (ZA huZ3g (ZA cZ4 cZ13)) ?_
          first | refine tail_rule0 (blk_rule0 (loop_rule (w_spec_l16ConnectedL2 nZ0 oZ0 fromZ0 toZ0 rZ1 sZ2 rZ6) hoZ19 ?_)) (fun τ qZ20 => ?_) | refine tail_blk0 (loop_rule (w_spec_l16ConnectedL2 nZ0 oZ0 fromZ0 toZ0 rZ1 sZ2 rZ6) hoZ19 ?_) (fun τ qZ20 => ?_)
          · exact ZK (ZA S_spec_l16ConnectedL2.eq_1 SX_spec_l16ConnectedL2.eq_1)
          · cases h
            try refine ZF trivial ?_
            refine ⟨rfl, Shp.sub qZ20 (by decide) (by decide) ?_⟩
            exact ZK SX_spec_l16ConnectedL2.eq_1
        · cases h
          exact ZL (ZA huZ3g (ZA cZ4 cZ13)) trivial
      · simp only [ZC, A80R3]
        obtain ⟨cZ22, h⟩ | ⟨cZ22, h⟩ := cond_s h
        · obtain ⟨rZ23, hrZ23, h⟩ := bind_s h
          refine ZF (ZA huZ3g (ZA cZ4 cZ22)) ?_
          refine ZS (ZA huZ3g (ZA cZ4 cZ22)) (w_spec_l16Weight _ _ hrZ23) ?_
          refine ZG ?_
          cases h
          exact ZL (ZA huZ3g (ZA cZ4 cZ22)) (ZA S_spec_l16ConnectedL1.eq_1 SX_spec_l16ConnectedL1.eq_1)
        · cases h
          exact ZL (ZA huZ3g (ZA cZ4 cZ22)) (ZA S_spec_l16ConnectedL1.eq_1 SX_spec_l16ConnectedL1.eq_1)
  · cases h
    exact ZL (ZA huZ3g cZ4) (ZA S_spec_l16ConnectedL1.eq_1 SX_spec_l16ConnectedL1.eq_1)
theorem w_spec_l16Connected (nZ0 : TNetwork) (oZ0 : TOutage) (fromZ0 : Int) (toZ0 : Int) {r : Int} (h : M_spec_l16Connected nZ0 oZ0 fromZ0 toZ0 = some r) : Ok Try.prog 80 [.agg [.lst .o 1 (nZ0.Nodes.map AV.z), .lst .o 4 (nZ0.Fibers.map (e_TFiber .o))], .agg [.i oZ0.Unit, .lst .o 1 (oZ0.Down.map AV.i)], .i fromZ0, .i toZ0] ((fun r => .i r) r) := by
  refine ok_of_body hmix m80 rfl ?_
  unfold M_spec_l16Connected at h
  simp only [ZC, A80, V80, body_eq]
  obtain ⟨rZ1, hrZ1, h⟩ := bind_s h
  refine ZF trivial ?_
  refine ZU trivial (w_spec_l2Groups _ hrZ1) ?_
  refine ZG ?_
  obtain ⟨oZ24, hoZ24, h⟩ := bind_s h
  try refine ZF trivial ?_
  refine join_rule0 (blk_rule0 (loop_rule (w_spec_l16ConnectedL1 nZ0 oZ0 fromZ0 toZ0 rZ1) hoZ24 ?_)) ?_
  · exact ZK (ZA S_spec_l16ConnectedL1.eq_1 SX_spec_l16ConnectedL1.eq_1)
  · simp only [ZC, SX_spec_l16ConnectedL1, A80R5]
    cases h
    exact ZL trivial V80.eq_1
theorem w_spec_GroupImportance (nZ0 : TNetwork) (oZ0 : TOutage) (fromZ0 : Int) (toZ0 : Int) (groupZ0 : Int) {r : Int × Bool} (h : M_spec_GroupImportance nZ0 oZ0 fromZ0 toZ0 groupZ0 = some r) : Ok Try.prog 36 [.agg [.lst .o 1 (nZ0.Nodes.map AV.z), .lst .o 4 (nZ0.Fibers.map (e_TFiber .o))], .agg [.i oZ0.Unit, .lst .o 1 (oZ0.Down.map AV.i)], .i fromZ0, .i toZ0, .i groupZ0] ((fun r => .tup [.i r.1, .b r.2]) r) := by
  refine ok_of_body hmix m36 rfl ?_
  unfold M_spec_GroupImportance at h
  simp only [ZC, A36, V36, body_eq]
  obtain ⟨oZ6, hoZ6, h⟩ := bind_s h
  try refine ZF trivial ?_
  refine join_rule0 (sh := (fun v => ⟨[(2, .i fromZ0), (3, .i toZ0), (4, .i groupZ0), (5, .pt 5 0 0), (6, .pt 6 0 0), (31, .b v)], [(5, .var (.agg [.lst .o 1 (nZ0.Nodes.map AV.z), .lst .o 4 (nZ0.Fibers.map (e_TFiber .o))])), (6, .var (.agg [.i oZ0.Unit, .lst .o 1 (oZ0.Down.map AV.i)]))]⟩)) (s := oZ6) ?_ ?_
  · replace h := hoZ6
    obtain ⟨rZ1, hrZ1, h⟩ := bind_s h
    refine ZF trivial ?_
    refine ZS trivial (w_spec_l16Good _ _ hrZ1) ?_
    refine ZG ?_
    obtain ⟨cZ2, h⟩ | ⟨cZ2, h⟩ := cond_s h
    · cases h
      exact ZL cZ2 trivial
    · obtain ⟨rZ3, hrZ3, h⟩ := bind_s h
      refine ZF cZ2 ?_
      refine ZS cZ2 (w_spec_l6Ends _ _ _ hrZ3) ?_
      refine ZG ?_
      obtain ⟨cZ4, h⟩ | ⟨cZ4, h⟩ := cond_s h
      · cases h
        exact ZL (ZA cZ2 cZ4) trivial
      · obtain ⟨rZ5, hrZ5, h⟩ := bind_s h
        refine ZF (ZA cZ2 cZ4) ?_
        refine ZS (ZA cZ2 cZ4) (w_spec_l1In _ _ _ hrZ5) ?_
        refine ZG ?_
        cases h
        exact ZL (ZA cZ2 cZ4) trivial
  · simp only [ZC, A36R1]
    obtain ⟨cZ7, h⟩ | ⟨cZ7, h⟩ := cond_s h
    · cases h
      exact ZL cZ7 V36.eq_1
    · obtain ⟨rZ8, hrZ8, h⟩ := bind_s h
      refine ZF cZ7 ?_
      refine ZU cZ7 (w_spec_l16With _ _ _ hrZ8) ?_
      refine ZG ?_
      obtain ⟨rZ9, hrZ9, h⟩ := bind_s h
      refine ZF cZ7 ?_
      refine ZS cZ7 (w_spec_l16Connected _ _ _ _ hrZ9) ?_
      refine ZG ?_
      obtain ⟨rZ10, hrZ10, h⟩ := bind_s h
      refine ZF cZ7 ?_
      refine ZU cZ7 (w_spec_l16With _ _ _ hrZ10) ?_
      refine ZG ?_
      obtain ⟨rZ11, hrZ11, h⟩ := bind_s h
      refine ZF cZ7 ?_
      refine ZS cZ7 (w_spec_l16Connected _ _ _ _ hrZ11) ?_
      refine ZG ?_
      cases h
      exact ZL cZ7 V36.eq_1
theorem w_impl_within (nZ0 : Int) (lowZ0 : Int) (highZ0 : Int) {r : Bool} (h : M_impl_within nZ0 lowZ0 highZ0 = some r) : Ok Try.prog 66 [.i nZ0, .i lowZ0, .i highZ0] ((fun r => .b r) r) := by
  refine ok_of_body hmix m66 rfl ?_
  unfold M_impl_within at h
  simp only [ZC, A66, V66, body_eq]
  obtain ⟨cZ1, h⟩ | ⟨cZ1, h⟩ := cond_s h
  · cases h
    exact ZL cZ1 V66.eq_1
  · cases h
    exact ZL cZ1 V66.eq_1
def S_impl_isNameL1 (sZ0 : ByteArray) (v : Int) : St := ⟨[(0, .z sZ0), (7, .i (sZ0.size : Int)), (8, .i v)], []⟩
def SX_impl_isNameL1 (sZ0 : ByteArray) (v : Unit) : St := ⟨[(0, .z sZ0)], []⟩
theorem w_impl_isNameL1 (sZ0 : ByteArray) (sZ1 : Int) (o : Int ⊕ (Unit ⊕ Bool)) (h : M_impl_isNameL1 sZ0 sZ1 = some o) : AWP (OkS Try.prog) A113L2 (qL [0, 7, 8] [] (S_impl_isNameL1 sZ0) (qS (qX 0 [0] [] (SX_impl_isNameL1 sZ0)) (qR V113 (fun r => .b r))) o) (S_impl_isNameL1 sZ0 sZ1) := by
  unfold M_impl_isNameL1 at h
  simp only [ZC, S_impl_isNameL1, A113L2]
  obtain ⟨cZ2, h⟩ | ⟨cZ2, h⟩ := cond_s h
  · obtain ⟨oZ7, hoZ7, h⟩ := bind_s h
    try refine ZF cZ2 ?_
    refine join_rule0 (sh := (fun v => ⟨[(0, .z sZ0), (3, .i sZ1), (4, .b v.1), (5, .b v.2), (7, .i (sZ0.size : Int)), (8, .i sZ1)], []⟩)) (s := oZ7) ?_ ?_
    · replace h := hoZ7
      obtain ⟨yZ3, hyZ3, h⟩ := bind_s h
      obtain ⟨hyZ3a, hyZ3b⟩ := getz_s hyZ3
      obtain ⟨cZ4, h⟩ | ⟨cZ4, h⟩ := cond_s h
      · obtain ⟨cZ5, h⟩ | ⟨cZ5, h⟩ := cond_s h
        · cases h
          exact ZL (ZA cZ2 (ZA hyZ3a (ZA hyZ3b (ZA cZ4 cZ5)))) trivial
        · cases h
          exact ZL (ZA cZ2 (ZA hyZ3a (ZA hyZ3b (ZA cZ4 cZ5)))) trivial
      · obtain ⟨cZ6, h⟩ | ⟨cZ6, h⟩ := cond_s h
        · cases h
          exact ZL (ZA cZ2 (ZA hyZ3a (ZA hyZ3b (ZA cZ4 cZ6)))) trivial
        · cases h
          exact ZL (ZA cZ2 (ZA hyZ3a (ZA hyZ3b (ZA cZ4 cZ6)))) trivial
    · simp only [ZC, A113R1]
      obtain ⟨cZ8, h⟩ | ⟨cZ8, h⟩ := cond_s h
      · obtain ⟨cZ9, h⟩ | ⟨cZ9, h⟩ := cond_s h
        · cases h
          exact ZL (ZA cZ2 (ZA cZ8 cZ9)) V113.eq_1
        · obtain ⟨cZ10, h⟩ | ⟨cZ10, h⟩ := cond_s h
          · cases h
            exact ZL (ZA cZ2 (ZA cZ8 (ZA cZ9 cZ10))) V113.eq_1
          · cases h
            exact ZL (ZA cZ2 (ZA cZ8 (ZA cZ9 cZ10))) (ZA S_impl_isNameL1.eq_1 SX_impl_isNameL1.eq_1)
      · cases h
        exact ZL (ZA cZ2 cZ8) (ZA S_impl_isNameL1.eq_1 SX_impl_isNameL1.eq_1)
  · cases h
    exact ZL cZ2 (ZA S_impl_isNameL1.eq_1 SX_impl_isNameL1.eq_1)
theorem w_impl_isName (sZ0 : ByteArray) {r : Bool} (h : M_impl_isName sZ0 = some r) : Ok Try.prog 113 [.z sZ0] ((fun r => .b r) r) := by
  refine ok_of_body hmix m113 rfl ?_
  unfold M_impl_isName at h
  simp only [ZC, A113, V113, body_eq]
  obtain ⟨oZ11, hoZ11, h⟩ := bind_s h
  try refine ZF trivial ?_
  refine join_rule (o := oZ11) (blk_rule sideR (loop_rule (w_impl_isNameL1 sZ0) hoZ11 ?_)) (fun vZ12 hv => ?_) (fun xZ13 hv e τ hne hq => ?_)
  · exact ZK (ZA S_impl_isNameL1.eq_1 SX_impl_isNameL1.eq_1)
  · subst hv
    simp only [] at h
    simp only [ZC, SX_impl_isNameL1, A113R3]
    obtain ⟨rZ14, hrZ14, h⟩ := bind_s h
    refine ZF trivial ?_
    refine ZS trivial (w_impl_within _ _ _ hrZ14) ?_
    refine ZG ?_
    cases h
    exact ZL trivial V113.eq_1
  · subst hv
    simp only [] at h
    obtain ⟨rfl, qZ15⟩ := hq
    cases h
    exact qZ15
def S_slices_Index_Lstring_stringL1 (sZ0 : List ByteArray) (vZ0 : ByteArray) (v : Int) : St := ⟨[(0, .lst .o 1 (sZ0.map AV.z)), (1, .z vZ0), (7, .i (sZ0.length : Int)), (8, .i v)], []⟩
def SX_slices_Index_Lstring_stringL1 (v : Unit) : St := ⟨[], []⟩
theorem w_slices_Index_Lstring_stringL1 (sZ0 : List ByteArray) (vZ0 : ByteArray) (sZ1 : Int) (o : Int ⊕ (Unit ⊕ Int)) (h : M_slices_Index_Lstring_stringL1 sZ0 vZ0 sZ1 = some o) : AWP (OkS Try.prog) A139L1 (qL [0, 1, 7, 8] [] (S_slices_Index_Lstring_stringL1 sZ0 vZ0) (qS (qX 0 [] [] (SX_slices_Index_Lstring_stringL1)) (qR V139 (fun r => .i r))) o) (S_slices_Index_Lstring_stringL1 sZ0 vZ0 sZ1) := by
  unfold M_slices_Index_Lstring_stringL1 at h
  simp only [ZC, S_slices_Index_Lstring_stringL1, A139L1]
  obtain ⟨cZ2, h⟩ | ⟨cZ2, h⟩ := cond_s h
  · obtain ⟨yZ3, hyZ3, h⟩ := bind_s h
    obtain ⟨hyZ3a, hyZ3b⟩ := geti_s hyZ3
    obtain ⟨cZ4, h⟩ | ⟨cZ4, h⟩ := cond_s h
    · cases h
      exact ZL (ZA cZ2 (ZA hyZ3a (ZA hyZ3b cZ4))) V139.eq_1
    · cases h
      exact ZL (ZA cZ2 (ZA hyZ3a (ZA hyZ3b cZ4))) (ZA S_slices_Index_Lstring_stringL1.eq_1 SX_slices_Index_Lstring_stringL1.eq_1)
  · cases h
    exact ZL cZ2 (ZA S_slices_Index_Lstring_stringL1.eq_1 SX_slices_Index_Lstring_stringL1.eq_1)
theorem w_slices_Index_Lstring_string (sZ0 : List ByteArray) (vZ0 : ByteArray) {r : Int} (h : M_slices_Index_Lstring_string sZ0 vZ0 = some r) : Ok Try.prog 139 [.lst .o 1 (sZ0.map AV.z), .z vZ0] ((fun r => .i r) r) := by
  refine ok_of_body hmix m139 rfl ?_
  unfold M_slices_Index_Lstring_string at h
  simp only [ZC, A139, V139, body_eq]
  obtain ⟨oZ5, hoZ5, h⟩ := bind_s h
  try refine ZF trivial ?_
  refine join_rule (o := oZ5) (blk_rule sideR (loop_rule (w_slices_Index_Lstring_stringL1 sZ0 vZ0) hoZ5 ?_)) (fun vZ6 hv => ?_) (fun xZ7 hv e τ hne hq => ?_)
  · exact ZK (ZA S_slices_Index_Lstring_stringL1.eq_1 SX_slices_Index_Lstring_stringL1.eq_1)
  · subst hv
    simp only [] at h
    simp only [ZC, SX_slices_Index_Lstring_stringL1, A139R2]
    cases h
    exact ZL trivial V139.eq_1
  · subst hv
    simp only [] at h
    obtain ⟨rfl, qZ8⟩ := hq
    cases h
    exact qZ8
theorem w_slices_Contains_Lstring_string (sZ0 : List ByteArray) (vZ0 : ByteArray) {r : Bool} (h : M_slices_Contains_Lstring_string sZ0 vZ0 = some r) : Ok Try.prog 114 [.lst .o 1 (sZ0.map AV.z), .z vZ0] ((fun r => .b r) r) := by
  refine ok_of_body hmix m114 rfl ?_
  unfold M_slices_Contains_Lstring_string at h
  simp only [ZC, A114, V114, body_eq]
  obtain ⟨rZ1, hrZ1, h⟩ := bind_s h
  refine ZF trivial ?_
  refine ZS trivial (w_slices_Index_Lstring_string _ _ hrZ1) ?_
  refine ZG ?_
  cases h
  exact ZL trivial V114.eq_1
theorem w_cmp_isNaN_int (xZ0 : Int) {r : Bool} (h : M_cmp_isNaN_int xZ0 = some r) : Ok Try.prog 151 [.i xZ0] ((fun r => .b r) r) := by
  refine ok_of_body hmix m151 rfl ?_
  unfold M_cmp_isNaN_int at h
  simp only [ZC, A151, V151, body_eq]
  cases h
  exact ZL trivial V151.eq_1
theorem w_cmp_Compare_int (xZ0 : Int) (yZ0 : Int) {r : Int} (h : M_cmp_Compare_int xZ0 yZ0 = some r) : Ok Try.prog 141 [.i xZ0, .i yZ0] ((fun r => .i r) r) := by
  refine ok_of_body hmix m141 rfl ?_
  unfold M_cmp_Compare_int at h
  simp only [ZC, A141, V141, body_eq]
  obtain ⟨rZ1, hrZ1, h⟩ := bind_s h
  refine ZF trivial ?_
  refine ZS trivial (w_cmp_isNaN_int _ hrZ1) ?_
  refine ZG ?_
  obtain ⟨rZ2, hrZ2, h⟩ := bind_s h
  refine ZF trivial ?_
  refine ZS trivial (w_cmp_isNaN_int _ hrZ2) ?_
  refine ZG ?_
  obtain ⟨cZ3, h⟩ | ⟨cZ3, h⟩ := cond_s h
  · obtain ⟨cZ4, h⟩ | ⟨cZ4, h⟩ := cond_s h
    · cases h
      exact ZL (ZA cZ3 cZ4) V141.eq_1
    · cases h
      exact ZL (ZA cZ3 cZ4) V141.eq_1
  · obtain ⟨cZ5, h⟩ | ⟨cZ5, h⟩ := cond_s h
    · cases h
      exact ZL (ZA cZ3 cZ5) V141.eq_1
    · obtain ⟨cZ6, h⟩ | ⟨cZ6, h⟩ := cond_s h
      · cases h
        exact ZL (ZA cZ3 (ZA cZ5 cZ6)) V141.eq_1
      · obtain ⟨cZ7, h⟩ | ⟨cZ7, h⟩ := cond_s h
        · cases h
          exact ZL (ZA cZ3 (ZA cZ5 (ZA cZ6 cZ7))) V141.eq_1
        · cases h
          exact ZL (ZA cZ3 (ZA cZ5 (ZA cZ6 cZ7))) V141.eq_1
def S_cmp_Or_intL1 (valsZ0 : List Int) (v : Int) : St := ⟨[(3, .i 0), (6, .lst .o 1 (valsZ0.map AV.i)), (7, .i (valsZ0.length : Int)), (8, .i v)], []⟩
def SX_cmp_Or_intL1 (v : Unit) : St := ⟨[(3, .i 0)], []⟩
theorem w_cmp_Or_intL1 (valsZ0 : List Int) (sZ1 : Int) (o : Int ⊕ (Unit ⊕ Int)) (h : M_cmp_Or_intL1 valsZ0 sZ1 = some o) : AWP (OkS Try.prog) A140L1 (qL [3, 6, 7, 8] [] (S_cmp_Or_intL1 valsZ0) (qS (qX 0 [3] [] (SX_cmp_Or_intL1)) (qR V140 (fun r => .i r))) o) (S_cmp_Or_intL1 valsZ0 sZ1) := by
  unfold M_cmp_Or_intL1 at h
  simp only [ZC, S_cmp_Or_intL1, A140L1]
  obtain ⟨cZ2, h⟩ | ⟨cZ2, h⟩ := cond_s h
  · obtain ⟨yZ3, hyZ3, h⟩ := bind_s h
    obtain ⟨hyZ3a, hyZ3b⟩ := geti_s hyZ3
    obtain ⟨cZ4, h⟩ | ⟨cZ4, h⟩ := cond_s h
    · cases h
      exact ZL (ZA cZ2 (ZA hyZ3a (ZA hyZ3b cZ4))) V140.eq_1
    · cases h
      exact ZL (ZA cZ2 (ZA hyZ3a (ZA hyZ3b cZ4))) (ZA S_cmp_Or_intL1.eq_1 SX_cmp_Or_intL1.eq_1)
  · cases h
    exact ZL cZ2 (ZA S_cmp_Or_intL1.eq_1 SX_cmp_Or_intL1.eq_1)
theorem w_cmp_Or_int (valsZ0 : List Int) {r : Int} (h : M_cmp_Or_int valsZ0 = some r) : Ok Try.prog 140 [.lst .o 1 (valsZ0.map AV.i)] ((fun r => .i r) r) := by
  refine ok_of_body hmix m140 rfl ?_
  unfold M_cmp_Or_int at h
  simp only [ZC, A140, V140, body_eq]
  obtain ⟨oZ5, hoZ5, h⟩ := bind_s h
  try refine ZF trivial ?_
  refine join_rule (o := oZ5) (blk_rule sideR (loop_rule (w_cmp_Or_intL1 valsZ0) hoZ5 ?_)) (fun vZ6 hv => ?_) (fun xZ7 hv e τ hne hq => ?_)
  · exact ZK (ZA S_cmp_Or_intL1.eq_1 SX_cmp_Or_intL1.eq_1)
  · subst hv
    simp only [] at h
    simp only [ZC, SX_cmp_Or_intL1, A140R2]
    cases h
    exact ZL trivial V140.eq_1
  · subst hv
    simp only [] at h
    obtain ⟨rfl, qZ8⟩ := hq
    cases h
    exact qZ8
theorem w_impl_compareFibers (aZ0 : TFiber) (bZ0 : TFiber) {r : Int} (h : M_impl_compareFibers aZ0 bZ0 = some r) : Ok Try.prog 115 [.agg [.i aZ0.A, .i aZ0.B, .i aZ0.Length, .i aZ0.Risk], .agg [.i bZ0.A, .i bZ0.B, .i bZ0.Length, .i bZ0.Risk]] ((fun r => .i r) r) := by
  refine ok_of_body hmix m115 rfl ?_
  unfold M_impl_compareFibers at h
  simp only [ZC, A115, V115, body_eq]
  obtain ⟨rZ1, hrZ1, h⟩ := bind_s h
  refine ZF trivial ?_
  refine ZS trivial (w_cmp_Compare_int _ _ hrZ1) ?_
  refine ZG ?_
  obtain ⟨rZ2, hrZ2, h⟩ := bind_s h
  refine ZF trivial ?_
  refine ZS trivial (w_cmp_Compare_int _ _ hrZ2) ?_
  refine ZG ?_
  obtain ⟨rZ3, hrZ3, h⟩ := bind_s h
  refine ZF trivial ?_
  refine ZS trivial (w_cmp_Compare_int _ _ hrZ3) ?_
  refine ZG ?_
  obtain ⟨rZ4, hrZ4, h⟩ := bind_s h
  refine ZF trivial ?_
  refine ZS trivial (w_cmp_Compare_int _ _ hrZ4) ?_
  refine ZG ?_
  obtain ⟨lZ5, hlZ5, h⟩ := bnd_s h
  have eZ6 : Row.arr 1 [(.i rZ1 : AV), (.i rZ2 : AV), (.i rZ3 : AV), (.i rZ4 : AV)] = Row.arr 1 (lZ5.map AV.i) := by rw [← hlZ5]; rfl
  have jjZ7 : lZ5.length = 4 := by rw [← hlZ5]; rfl
  have nZ8 : sub (lZ5.map AV.i) 0 4 = lZ5.map AV.i := sub_n _ (by simp [← hlZ5])
  obtain ⟨rZ9, hrZ9, h⟩ := bind_s h
  refine ZF (ZA eZ6 (ZA jjZ7 nZ8)) ?_
  refine ZS (ZA eZ6 (ZA jjZ7 nZ8)) (w_cmp_Or_int _ hrZ9) ?_
  refine ZG ?_
  cases h
  exact ZL (ZA eZ6 (ZA jjZ7 nZ8)) (ZA V115.eq_1 (ZA hlZ5.symm jjZ7))
def S_impl_IsValidNetworkL1 (nZ0 : TNetwork) (v : Int) : St := ⟨[(1, .pt 1 0 0), (8, .lst .o 1 (nZ0.Nodes.map AV.z)), (9, .i (nZ0.Nodes.length : Int)), (10, .i v)], [(1, .var (.agg [.lst .o 1 (nZ0.Nodes.map AV.z), .lst .o 4 (nZ0.Fibers.map (e_TFiber .o))]))]⟩
def SX_impl_IsValidNetworkL1 (nZ0 : TNetwork) (v : Unit) : St := ⟨[(1, .pt 1 0 0)], [(1, .var (.agg [.lst .o 1 (nZ0.Nodes.map AV.z), .lst .o 4 (nZ0.Fibers.map (e_TFiber .o))]))]⟩
theorem w_impl_IsValidNetworkL1 (nZ0 : TNetwork) (sZ1 : Int) (o : Int ⊕ (Unit ⊕ Bool)) (h : M_impl_IsValidNetworkL1 nZ0 sZ1 = some o) : AWP (OkS Try.prog) A65L1 (qL [1, 8, 9, 10] [1] (S_impl_IsValidNetworkL1 nZ0) (qS (qX 0 [1] [1] (SX_impl_IsValidNetworkL1 nZ0)) (qR V65 (fun r => .b r))) o) (S_impl_IsValidNetworkL1 nZ0 sZ1) := by
  unfold M_impl_IsValidNetworkL1 at h
  simp only [ZC, S_impl_IsValidNetworkL1, A65L1]
  obtain ⟨cZ2, h⟩ | ⟨cZ2, h⟩ := cond_s h
  · obtain ⟨yZ3, hyZ3, h⟩ := bind_s h
    obtain ⟨hyZ3a, hyZ3b⟩ := geti_s hyZ3
    obtain ⟨rZ4, hrZ4, h⟩ := bind_s h
    refine ZF (ZA cZ2 (ZA hyZ3a hyZ3b)) ?_
    refine ZS (ZA cZ2 (ZA hyZ3a hyZ3b)) (w_impl_isName _ hrZ4) ?_
    refine ZG ?_
    obtain ⟨cZ5, h⟩ | ⟨cZ5, h⟩ := cond_s h
    · cases h
      exact ZL (ZA cZ2 (ZA hyZ3a (ZA hyZ3b cZ5))) V65.eq_1
    · obtain ⟨lZ6, hlZ6, h⟩ := bind_s h
      obtain ⟨hlZ6a, hlZ6b, hlZ6c, hlZ6d, hlZ6e⟩ := slT_s AV.z hlZ6
      obtain ⟨rZ7, hrZ7, h⟩ := bind_s h
      refine ZF (ZA cZ2 (ZA hyZ3a (ZA hyZ3b (ZA cZ5 (ZA hlZ6a (ZA hlZ6b (ZA hlZ6c (ZA hlZ6d hlZ6e)))))))) ?_
      refine ZS (ZA cZ2 (ZA hyZ3a (ZA hyZ3b (ZA cZ5 (ZA hlZ6a (ZA hlZ6b (ZA hlZ6c (ZA hlZ6d hlZ6e)))))))) (w_slices_Contains_Lstring_string _ _ hrZ7) ?_
      refine ZG ?_
      obtain ⟨cZ8, h⟩ | ⟨cZ8, h⟩ := cond_s h
      · cases h
        exact ZL (ZA cZ2 (ZA hyZ3a (ZA hyZ3b (ZA cZ5 (ZA hlZ6a (ZA hlZ6b (ZA hlZ6c (ZA hlZ6d (ZA hlZ6e cZ8))))))))) V65.eq_1
      · cases h
        exact ZL (ZA cZ2 (ZA hyZ3a (ZA hyZ3b (ZA cZ5 (ZA hlZ6a (ZA hlZ6b (ZA hlZ6c (ZA hlZ6d (ZA hlZ6e cZ8))))))))) (ZA S_impl_IsValidNetworkL1.eq_1 SX_impl_IsValidNetworkL1.eq_1)
  · cases h
    exact ZL cZ2 (ZA S_impl_IsValidNetworkL1.eq_1 SX_impl_IsValidNetworkL1.eq_1)
def S_impl_IsValidNetworkL2 (nZ0 : TNetwork) (v : Int) : St := ⟨[(1, .pt 1 0 0), (28, .lst .o 4 (nZ0.Fibers.map (e_TFiber .o))), (29, .i (nZ0.Fibers.length : Int)), (30, .i v)], [(1, .var (.agg [.lst .o 1 (nZ0.Nodes.map AV.z), .lst .o 4 (nZ0.Fibers.map (e_TFiber .o))]))]⟩
def SX_impl_IsValidNetworkL2 (nZ0 : TNetwork) (v : Unit) : St := ⟨[(1, .pt 1 0 0)], [(1, .var (.agg [.lst .o 1 (nZ0.Nodes.map AV.z), .lst .o 4 (nZ0.Fibers.map (e_TFiber .o))]))]⟩
theorem w_impl_IsValidNetworkL2 (nZ0 : TNetwork) (sZ12 : Int) (o : Int ⊕ (Unit ⊕ Bool)) (h : M_impl_IsValidNetworkL2 nZ0 sZ12 = some o) : AWP (OkS Try.prog) A65L3 (qL [1, 28, 29, 30] [1] (S_impl_IsValidNetworkL2 nZ0) (qS (qX 2 [1] [1] (SX_impl_IsValidNetworkL2 nZ0)) (qR V65 (fun r => .b r))) o) (S_impl_IsValidNetworkL2 nZ0 sZ12) := by
  unfold M_impl_IsValidNetworkL2 at h
  simp only [ZC, S_impl_IsValidNetworkL2, A65L3]
  obtain ⟨cZ13, h⟩ | ⟨cZ13, h⟩ := cond_s h
  · obtain ⟨yZ14, hyZ14, h⟩ := bind_s h
    obtain ⟨hyZ14a, hyZ14b⟩ := geti_s hyZ14
    obtain ⟨cZ15, h⟩ | ⟨cZ15, h⟩ := cond_s h
    · cases h
      exact ZL (ZA cZ13 (ZA hyZ14a (ZA hyZ14b cZ15))) V65.eq_1
    · obtain ⟨cZ16, h⟩ | ⟨cZ16, h⟩ := cond_s h
      · cases h
        exact ZL (ZA cZ13 (ZA hyZ14a (ZA hyZ14b (ZA cZ15 cZ16)))) V65.eq_1
      · obtain ⟨cZ17, h⟩ | ⟨cZ17, h⟩ := cond_s h
        · cases h
          exact ZL (ZA cZ13 (ZA hyZ14a (ZA hyZ14b (ZA cZ15 (ZA cZ16 cZ17))))) V65.eq_1
        · obtain ⟨rZ18, hrZ18, h⟩ := bind_s h
          refine ZF (ZA cZ13 (ZA hyZ14a (ZA hyZ14b (ZA cZ15 (ZA cZ16 cZ17))))) ?_
          refine ZS (ZA cZ13 (ZA hyZ14a (ZA hyZ14b (ZA cZ15 (ZA cZ16 cZ17))))) (w_impl_within _ _ _ hrZ18) ?_
          refine ZG ?_
          obtain ⟨cZ19, h⟩ | ⟨cZ19, h⟩ := cond_s h
          · cases h
            exact ZL (ZA cZ13 (ZA hyZ14a (ZA hyZ14b (ZA cZ15 (ZA cZ16 (ZA cZ17 cZ19)))))) V65.eq_1
          · obtain ⟨rZ20, hrZ20, h⟩ := bind_s h
            refine ZF (ZA cZ13 (ZA hyZ14a (ZA hyZ14b (ZA cZ15 (ZA cZ16 (ZA cZ17 cZ19)))))) ?_
            refine ZS (ZA cZ13 (ZA hyZ14a (ZA hyZ14b (ZA cZ15 (ZA cZ16 (ZA cZ17 cZ19)))))) (w_impl_within _ _ _ hrZ20) ?_
            refine ZG ?_
            obtain ⟨cZ21, h⟩ | ⟨cZ21, h⟩ := cond_s h
            · cases h
              exact ZL (ZA cZ13 (ZA hyZ14a (ZA hyZ14b (ZA cZ15 (ZA cZ16 (ZA cZ17 (ZA cZ19 cZ21))))))) V65.eq_1
            · obtain ⟨cZ22, h⟩ | ⟨cZ22, h⟩ := cond_s h
              · obtain ⟨yZ23, hyZ23, h⟩ := bind_s h
                obtain ⟨hyZ23a, hyZ23b⟩ := geti_s hyZ23
                obtain ⟨rZ24, hrZ24, h⟩ := bind_s h
                refine ZF (ZA cZ13 (ZA hyZ14a (ZA hyZ14b (ZA cZ15 (ZA cZ16 (ZA cZ17 (ZA cZ19 (ZA cZ21 (ZA cZ22 (ZA hyZ23a hyZ23b)))))))))) ?_
                refine ZS (ZA cZ13 (ZA hyZ14a (ZA hyZ14b (ZA cZ15 (ZA cZ16 (ZA cZ17 (ZA cZ19 (ZA cZ21 (ZA cZ22 (ZA hyZ23a hyZ23b)))))))))) (w_impl_compareFibers _ _ hrZ24) ?_
                refine ZG ?_
                obtain ⟨cZ25, h⟩ | ⟨cZ25, h⟩ := cond_s h
                · cases h
                  exact ZL (ZA cZ13 (ZA hyZ14a (ZA hyZ14b (ZA cZ15 (ZA cZ16 (ZA cZ17 (ZA cZ19 (ZA cZ21 (ZA cZ22 (ZA hyZ23a (ZA hyZ23b cZ25))))))))))) V65.eq_1
                · cases h
                  exact ZL (ZA cZ13 (ZA hyZ14a (ZA hyZ14b (ZA cZ15 (ZA cZ16 (ZA cZ17 (ZA cZ19 (ZA cZ21 (ZA cZ22 (ZA hyZ23a (ZA hyZ23b cZ25))))))))))) (ZA S_impl_IsValidNetworkL2.eq_1 SX_impl_IsValidNetworkL2.eq_1)
              · cases h
                exact ZL (ZA cZ13 (ZA hyZ14a (ZA hyZ14b (ZA cZ15 (ZA cZ16 (ZA cZ17 (ZA cZ19 (ZA cZ21 cZ22)))))))) (ZA S_impl_IsValidNetworkL2.eq_1 SX_impl_IsValidNetworkL2.eq_1)
  · cases h
    exact ZL cZ13 (ZA S_impl_IsValidNetworkL2.eq_1 SX_impl_IsValidNetworkL2.eq_1)
theorem w_impl_IsValidNetwork (nZ0 : TNetwork) {r : Bool} (h : M_impl_IsValidNetwork nZ0 = some r) : Ok Try.prog 65 [.agg [.lst .o 1 (nZ0.Nodes.map AV.z), .lst .o 4 (nZ0.Fibers.map (e_TFiber .o))]] ((fun r => .b r) r) := by
  refine ok_of_body hmix m65 rfl ?_
  unfold M_impl_IsValidNetwork at h
  simp only [ZC, A65, V65, body_eq]
  obtain ⟨oZ9, hoZ9, h⟩ := bind_s h
  try refine ZF trivial ?_
  refine join_rule (o := oZ9) (blk_rule sideR (loop_rule (w_impl_IsValidNetworkL1 nZ0) hoZ9 ?_)) (fun vZ10 hv => ?_) (fun xZ11 hv e τ hne hq => ?_)
  · exact ZK (ZA S_impl_IsValidNetworkL1.eq_1 SX_impl_IsValidNetworkL1.eq_1)
  · subst hv
    simp only [] at h
    simp only [ZC, SX_impl_IsValidNetworkL1, A65R2]
    obtain ⟨oZ26, hoZ26, h⟩ := bind_s h
    try refine ZF trivial ?_
    refine join_rule (o := oZ26) (blk_rule sideR (loop_rule (w_impl_IsValidNetworkL2 nZ0) hoZ26 ?_)) (fun vZ27 hv => ?_) (fun xZ28 hv e τ hne hq => ?_)
    · exact ZK (ZA S_impl_IsValidNetworkL2.eq_1 SX_impl_IsValidNetworkL2.eq_1)
    · subst hv
      simp only [] at h
      simp only [ZC, SX_impl_IsValidNetworkL2, A65R4]
      obtain ⟨rZ29, hrZ29, h⟩ := bind_s h
      refine ZF trivial ?_
      refine ZS trivial (w_impl_within _ _ _ hrZ29) ?_
      refine ZG ?_
      obtain ⟨cZ30, h⟩ | ⟨cZ30, h⟩ := cond_s h
      · cases h
        exact ZL cZ30 V65.eq_1
      · cases h
        exact ZL cZ30 V65.eq_1
    · subst hv
      simp only [] at h
      obtain ⟨rfl, qZ31⟩ := hq
      cases h
      exact qZ31
  · subst hv
    simp only [] at h
    obtain ⟨rfl, qZ32⟩ := hq
    cases h
    exact qZ32
def S_impl_groupsL2 (nZ0 : TNetwork) (sZ1 : Int × List (List Int)) (v : Int × List Int) : St := ⟨[(1, .pt 1 0 0), (3, .sl 3 0 sZ1.2.length), (4, .i sZ1.1), (5, .sl 5 0 v.2.length), (17, .lst .o 4 (nZ0.Fibers.map (e_TFiber .o))), (18, .i (nZ0.Fibers.length : Int)), (19, .i v.1)], [(1, .var (.agg [.lst .o 1 (nZ0.Nodes.map AV.z), .lst .o 4 (nZ0.Fibers.map (e_TFiber .o))])), (3, .arr 1 (sZ1.2.map (e_Li .u))), (5, .arr 1 (v.2.map AV.i))]⟩
def SX_impl_groupsL2 (nZ0 : TNetwork) (sZ1 : Int × List (List Int)) (v : List Int) : St := ⟨[(1, .pt 1 0 0), (3, .sl 3 0 sZ1.2.length), (4, .i sZ1.1), (5, .sl 5 0 v.length)], [(1, .var (.agg [.lst .o 1 (nZ0.Nodes.map AV.z), .lst .o 4 (nZ0.Fibers.map (e_TFiber .o))])), (3, .arr 1 (sZ1.2.map (e_Li .u))), (5, .arr 1 (v.map AV.i))]⟩
theorem w_impl_groupsL2 (nZ0 : TNetwork) (sZ1 : Int × List (List Int)) (sZ3 : Int × List Int) (o : (Int × List Int) ⊕ (List Int)) (h : M_impl_groupsL2 nZ0 sZ1 sZ3 = some o) : AWP (OkS Try.prog) A67L1 (qL [1, 3, 4, 5, 17, 18, 19] [1, 3, 5] (S_impl_groupsL2 nZ0 sZ1) (qX 2 [1, 3, 4, 5] [1, 3, 5] (SX_impl_groupsL2 nZ0 sZ1)) o) (S_impl_groupsL2 nZ0 sZ1 sZ3) := by
  unfold M_impl_groupsL2 at h
  simp only [ZC, S_impl_groupsL2, A67L1]
  obtain ⟨cZ4, h⟩ | ⟨cZ4, h⟩ := cond_s h
  · obtain ⟨yZ5, hyZ5, h⟩ := bind_s h
    obtain ⟨hyZ5a, hyZ5b⟩ := geti_s hyZ5
    obtain ⟨cZ6, h⟩ | ⟨cZ6, h⟩ := cond_s h
    · obtain ⟨lZ7, hlZ7, h⟩ := bnd_s h
      have eZ8 : Row.arr 1 [(.i sZ3.1 : AV)] = Row.arr 1 (lZ7.map AV.i) := by rw [← hlZ7]; rfl
      have jjZ9 : lZ7.length = 1 := by rw [← hlZ7]; rfl
      obtain ⟨uZ10, huZ10, h⟩ := bind_s h
      have huZ10g := grd_s huZ10
      obtain ⟨lZ11, hlZ11, h⟩ := bnd_s h
      have eZ12 : sZ3.2.map AV.i ++ lZ7.map AV.i = lZ11.map AV.i := by rw [← hlZ11, List.map_append]
      have eZ13 : sZ3.2.length + 1 = lZ11.length := by simp [← hlZ7, ← hlZ11] <;> omega
      rw [eZ13] at huZ10g
      cases h
      exact ZL (ZA cZ4 (ZA hyZ5a (ZA hyZ5b (ZA cZ6 (ZA eZ8 (ZA jjZ9 (ZA huZ10g (ZA eZ12 eZ13)))))))) (ZA S_impl_groupsL2.eq_1 (ZA SX_impl_groupsL2.eq_1 (ZA hlZ7.symm (ZA hlZ11.symm jjZ9))))
    · cases h
      exact ZL (ZA cZ4 (ZA hyZ5a (ZA hyZ5b cZ6))) (ZA S_impl_groupsL2.eq_1 SX_impl_groupsL2.eq_1)
  · cases h
    exact ZL cZ4 (ZA S_impl_groupsL2.eq_1 SX_impl_groupsL2.eq_1)
def S_impl_groupsL1 (nZ0 : TNetwork) (v : Int × List (List Int)) : St := ⟨[(1, .pt 1 0 0), (3, .sl 3 0 v.2.length), (4, .i v.1)], [(1, .var (.agg [.lst .o 1 (nZ0.Nodes.map AV.z), .lst .o 4 (nZ0.Fibers.map (e_TFiber .o))])), (3, .arr 1 (v.2.map (e_Li .u)))]⟩
def SX_impl_groupsL1 (nZ0 : TNetwork) (v : List (List Int)) : St := ⟨[(1, .pt 1 0 0), (3, .sl 3 0 v.length)], [(1, .var (.agg [.lst .o 1 (nZ0.Nodes.map AV.z), .lst .o 4 (nZ0.Fibers.map (e_TFiber .o))])), (3, .arr 1 (v.map (e_Li .u)))]⟩
theorem w_impl_groupsL1 (nZ0 : TNetwork) (sZ1 : Int × List (List Int)) (o : (Int × List (List Int)) ⊕ (List (List Int))) (h : M_impl_groupsL1 nZ0 sZ1 = some o) : AWP (OkS Try.prog) A67L3 (qL [1, 3, 4] [1, 3] (S_impl_groupsL1 nZ0) (qX 0 [1, 3] [1, 3] (SX_impl_groupsL1 nZ0)) o) (S_impl_groupsL1 nZ0 sZ1) := by
  unfold M_impl_groupsL1 at h
  simp only [ZC, S_impl_groupsL1, A67L3]
  obtain ⟨cZ2, h⟩ | ⟨cZ2, h⟩ := cond_s h
  · obtain ⟨oZ14, hoZ14, h⟩ := bind_s h
    try refine ZF cZ2 ?_
    refine join_rule0 (blk_rule0 (loop_rule (w_impl_groupsL2 nZ0 sZ1) hoZ14 ?_)) ?_
    · exact ZK (ZA S_impl_groupsL2.eq_1 SX_impl_groupsL2.eq_1)
    · simp only [ZC, SX_impl_groupsL2, A67R2]
      obtain ⟨cZ15, h⟩ | ⟨cZ15, h⟩ := cond_s h
      · obtain ⟨lZ16, hlZ16, h⟩ := bnd_s h
        have eZ17 : Row.arr 1 [(.lst .u 1 (oZ14.map AV.i) : AV)] = Row.arr 1 (lZ16.map (e_Li .u)) := by rw [← hlZ16]; rfl
        have jjZ18 : lZ16.length = 1 := by rw [← hlZ16]; rfl
        obtain ⟨uZ19, huZ19, h⟩ := bind_s h
        have huZ19g := grd_s huZ19
        obtain ⟨lZ20, hlZ20, h⟩ := bnd_s h
        have eZ21 : sZ1.2.map (e_Li .u) ++ lZ16.map (e_Li .u) = lZ20.map (e_Li .u) := by rw [← hlZ20, List.map_append]
        have eZ22 : sZ1.2.length + 1 = lZ20.length := by simp [← hlZ16, ← hlZ20] <;> omega
        rw [eZ22] at huZ19g
        cases h
        exact ZL (ZA cZ2 (ZA cZ15 (ZA eZ17 (ZA jjZ18 (ZA huZ19g (ZA eZ21 eZ22)))))) (ZA S_impl_groupsL1.eq_1 (ZA SX_impl_groupsL1.eq_1 (ZA hlZ16.symm (ZA hlZ20.symm jjZ18))))
      · cases h
        exact ZL (ZA cZ2 cZ15) (ZA S_impl_groupsL1.eq_1 SX_impl_groupsL1.eq_1)
  · cases h
    exact ZL cZ2 (ZA S_impl_groupsL1.eq_1 SX_impl_groupsL1.eq_1)
def S_impl_groupsL3 (nZ0 : TNetwork) (v : Int × List (List Int)) : St := ⟨[(3, .sl 3 0 v.2.length), (41, .lst .o 4 (nZ0.Fibers.map (e_TFiber .o))), (42, .i (nZ0.Fibers.length : Int)), (43, .i v.1)], [(3, .arr 1 (v.2.map (e_Li .u)))]⟩
def SX_impl_groupsL3 (v : List (List Int)) : St := ⟨[(3, .sl 3 0 v.length)], [(3, .arr 1 (v.map (e_Li .u)))]⟩
theorem w_impl_groupsL3 (nZ0 : TNetwork) (sZ24 : Int × List (List Int)) (o : (Int × List (List Int)) ⊕ (List (List Int))) (h : M_impl_groupsL3 nZ0 sZ24 = some o) : AWP (OkS Try.prog) A67L5 (qL [3, 41, 42, 43] [3] (S_impl_groupsL3 nZ0) (qX 4 [3] [3] (SX_impl_groupsL3)) o) (S_impl_groupsL3 nZ0 sZ24) := by
  unfold M_impl_groupsL3 at h
  simp only [ZC, S_impl_groupsL3, A67L5]
  obtain ⟨cZ25, h⟩ | ⟨cZ25, h⟩ := cond_s h
  · obtain ⟨yZ26, hyZ26, h⟩ := bind_s h
    obtain ⟨hyZ26a, hyZ26b⟩ := geti_s hyZ26
    obtain ⟨cZ27, h⟩ | ⟨cZ27, h⟩ := cond_s h
    · obtain ⟨lZ28, hlZ28, h⟩ := bnd_s h
      have eZ29 : Row.arr 1 [(.i sZ24.1 : AV)] = Row.arr 1 (lZ28.map AV.i) := by rw [← hlZ28]; rfl
      have jjZ30 : lZ28.length = 1 := by rw [← hlZ28]; rfl
      have nZ31 : sub (lZ28.map AV.i) 0 1 = lZ28.map AV.i := sub_n _ (by simp [← hlZ28])
      obtain ⟨lZ32, hlZ32, h⟩ := bnd_s h
      have eZ33 : Row.arr 1 [(.lst .u 1 (lZ28.map AV.i) : AV)] = Row.arr 1 (lZ32.map (e_Li .u)) := by rw [← hlZ32]; rfl
      have jjZ34 : lZ32.length = 1 := by rw [← hlZ32]; rfl
      obtain ⟨uZ35, huZ35, h⟩ := bind_s h
      have huZ35g := grd_s huZ35
      obtain ⟨lZ36, hlZ36, h⟩ := bnd_s h
      have eZ37 : sZ24.2.map (e_Li .u) ++ lZ32.map (e_Li .u) = lZ36.map (e_Li .u) := by rw [← hlZ36, List.map_append]
      have eZ38 : sZ24.2.length + 1 = lZ36.length := by simp [← hlZ28, ← hlZ32, ← hlZ36] <;> omega
      rw [eZ38] at huZ35g
      cases h
      exact ZL (ZA cZ25 (ZA hyZ26a (ZA hyZ26b (ZA cZ27 (ZA eZ29 (ZA jjZ30 (ZA nZ31 (ZA eZ33 (ZA jjZ34 (ZA huZ35g (ZA eZ37 eZ38))))))))))) (ZA S_impl_groupsL3.eq_1 (ZA SX_impl_groupsL3.eq_1 (ZA hlZ28.symm (ZA hlZ32.symm (ZA hlZ36.symm (ZA jjZ30 jjZ34))))))
    · cases h
      exact ZL (ZA cZ25 (ZA hyZ26a (ZA hyZ26b cZ27))) (ZA S_impl_groupsL3.eq_1 SX_impl_groupsL3.eq_1)
  · cases h
    exact ZL cZ25 (ZA S_impl_groupsL3.eq_1 SX_impl_groupsL3.eq_1)
theorem w_impl_groups (nZ0 : TNetwork) {r : List (List Int)} (h : M_impl_groups nZ0 = some r) : Ok Try.prog 67 [.agg [.lst .o 1 (nZ0.Nodes.map AV.z), .lst .o 4 (nZ0.Fibers.map (e_TFiber .o))]] ((fun r => .lst .u 1 (r.map (e_Li .u))) r) := by
  refine ok_of_body hmix m67 rfl ?_
  unfold M_impl_groups at h
  simp only [ZC, A67, V67, body_eq]
  obtain ⟨oZ23, hoZ23, h⟩ := bind_s h
  try refine ZF trivial ?_
  refine join_rule0 (blk_rule0 (loop_rule (w_impl_groupsL1 nZ0) hoZ23 ?_)) ?_
  · exact ZK (ZA S_impl_groupsL1.eq_1 SX_impl_groupsL1.eq_1)
  · simp only [ZC, SX_impl_groupsL1, A67R4]
    obtain ⟨oZ39, hoZ39, h⟩ := bind_s h
    try refine ZF trivial ?_
    refine join_rule0 (blk_rule0 (loop_rule (w_impl_groupsL3 nZ0) hoZ39 ?_)) ?_
    · exact ZK (ZA S_impl_groupsL3.eq_1 SX_impl_groupsL3.eq_1)
    · simp only [ZC, SX_impl_groupsL3, A67R6]
      cases h
      exact ZL trivial V67.eq_1
theorem w_impl_IsValidOutage_c1 (dZ0 : Int) (p1Z0 : TOutage) {r : Bool} (h : M_impl_IsValidOutage_c1 dZ0 p1Z0 = some r) : Ok Try.prog 69 [.i dZ0, .bp (.agg [.i p1Z0.Unit, .lst .o 1 (p1Z0.Down.map AV.i)]) 0] ((fun r => .b r) r) := by
  refine ok_of_body hmix m69 rfl ?_
  unfold M_impl_IsValidOutage_c1 at h
  simp only [ZC, A69, V69, body_eq]
  obtain ⟨rZ1, hrZ1, h⟩ := bind_s h
  refine ZF trivial ?_
  refine ZS trivial (w_impl_within _ _ _ hrZ1) ?_
  refine ZG ?_
  cases h
  exact ZL trivial V69.eq_1
def S_slices_IndexFunc_Lint_intL1 (sZ0 : List Int) (F_fZ0 : Nat) (C_fZ0 : List AV) (v : Int) : St := ⟨[(0, .lst .o 1 (sZ0.map AV.i)), (1, .fn F_fZ0 C_fZ0), (7, .i (sZ0.length : Int)), (8, .i v)], []⟩
def SX_slices_IndexFunc_Lint_intL1 (v : Unit) : St := ⟨[], []⟩
theorem w_slices_IndexFunc_Lint_intL1 (sZ0 : List Int) (fZ0 : Int → Option Bool) (F_fZ0 : Nat) (C_fZ0 : List AV) (hC_fZ0 : Fixed C_fZ0) (hf_fZ0 : ∀ (x0 : Int) (r : Bool), fZ0 x0 = some r → Ok Try.prog F_fZ0 ((.i x0) :: C_fZ0) (.b r)) (sZ1 : Int) (o : Int ⊕ (Unit ⊕ Int)) (h : M_slices_IndexFunc_Lint_intL1 sZ0 fZ0 sZ1 = some o) : AWP (OkS Try.prog) A116L1 (qL [0, 1, 7, 8] [] (S_slices_IndexFunc_Lint_intL1 sZ0 F_fZ0 C_fZ0) (qS (qX 0 [] [] (SX_slices_IndexFunc_Lint_intL1)) (qR V116 (fun r => .i r))) o) (S_slices_IndexFunc_Lint_intL1 sZ0 F_fZ0 C_fZ0 sZ1) := by
  unfold M_slices_IndexFunc_Lint_intL1 at h
  simp only [ZC, S_slices_IndexFunc_Lint_intL1, A116L1]
  obtain ⟨cZ2, h⟩ | ⟨cZ2, h⟩ := cond_s h
  · obtain ⟨yZ3, hyZ3, h⟩ := bind_s h
    obtain ⟨hyZ3a, hyZ3b⟩ := geti_s hyZ3
    obtain ⟨rZ4, hrZ4, h⟩ := bind_s h
    refine ZF (ZA cZ2 (ZA hyZ3a hyZ3b)) ?_
    refine ZS (ZA cZ2 (ZA hyZ3a (ZA hyZ3b hC_fZ0.1))) (hf_fZ0 _ _ hrZ4) ?_
    refine ZG ?_
    obtain ⟨cZ5, h⟩ | ⟨cZ5, h⟩ := cond_s h
    · cases h
      exact ZL (ZA cZ2 (ZA hyZ3a (ZA hyZ3b cZ5))) (ZA V116.eq_1 (ZA hC_fZ0.2 ((fixed_ren hC_fZ0))))
    · cases h
      exact ZL (ZA cZ2 (ZA hyZ3a (ZA hyZ3b cZ5))) (ZA S_slices_IndexFunc_Lint_intL1.eq_1 (ZA SX_slices_IndexFunc_Lint_intL1.eq_1 (ZA hC_fZ0.2 ((fixed_ren hC_fZ0)))))
  · cases h
    exact ZL cZ2 (ZA S_slices_IndexFunc_Lint_intL1.eq_1 (ZA SX_slices_IndexFunc_Lint_intL1.eq_1 (ZA hC_fZ0.2 ((fixed_ren hC_fZ0)))))
theorem w_slices_IndexFunc_Lint_int (sZ0 : List Int) (fZ0 : Int → Option Bool) {r : Int} (h : M_slices_IndexFunc_Lint_int sZ0 fZ0 = some r) (F_fZ0 : Nat) (C_fZ0 : List AV) (hC_fZ0 : Fixed C_fZ0) (hf_fZ0 : ∀ (x0 : Int) (r : Bool), fZ0 x0 = some r → Ok Try.prog F_fZ0 ((.i x0) :: C_fZ0) (.b r)) : Ok Try.prog 116 [.lst .o 1 (sZ0.map AV.i), .fn F_fZ0 C_fZ0] ((fun r => .i r) r) := by
  refine ok_of_body hmix m116 rfl ?_
  unfold M_slices_IndexFunc_Lint_int at h
  simp only [ZC, A116, V116, body_eq]
  obtain ⟨oZ6, hoZ6, h⟩ := bind_s h
  try refine ZF trivial ?_
  refine join_rule (o := oZ6) (blk_rule sideR (loop_rule (w_slices_IndexFunc_Lint_intL1 sZ0 fZ0 F_fZ0 C_fZ0 hC_fZ0 hf_fZ0) hoZ6 ?_)) (fun vZ7 hv => ?_) (fun xZ8 hv e τ hne hq => ?_)
  · exact ZK (ZA S_slices_IndexFunc_Lint_intL1.eq_1 (ZA SX_slices_IndexFunc_Lint_intL1.eq_1 (ZA hC_fZ0.2 ((fixed_ren hC_fZ0)))))
  · subst hv
    simp only [] at h
    simp only [ZC, SX_slices_IndexFunc_Lint_intL1, A116R2]
    cases h
    exact ZL trivial (ZA V116.eq_1 (ZA hC_fZ0.2 ((fixed_ren hC_fZ0))))
  · subst hv
    simp only [] at h
    obtain ⟨rfl, qZ9⟩ := hq
    cases h
    exact qZ9
theorem w_slices_ContainsFunc_Lint_int (sZ0 : List Int) (fZ0 : Int → Option Bool) {r : Bool} (h : M_slices_ContainsFunc_Lint_int sZ0 fZ0 = some r) (F_fZ0 : Nat) (C_fZ0 : List AV) (hC_fZ0 : Fixed C_fZ0) (hf_fZ0 : ∀ (x0 : Int) (r : Bool), fZ0 x0 = some r → Ok Try.prog F_fZ0 ((.i x0) :: C_fZ0) (.b r)) : Ok Try.prog 68 [.lst .o 1 (sZ0.map AV.i), .fn F_fZ0 C_fZ0] ((fun r => .b r) r) := by
  refine ok_of_body hmix m68 rfl ?_
  unfold M_slices_ContainsFunc_Lint_int at h
  simp only [ZC, A68, V68, body_eq]
  obtain ⟨rZ1, hrZ1, h⟩ := bind_s h
  refine ZF trivial ?_
  refine ZS hC_fZ0.1 (w_slices_IndexFunc_Lint_int _ _ hrZ1 F_fZ0 C_fZ0 hC_fZ0 hf_fZ0) ?_
  refine ZG ?_
  cases h
  exact ZL trivial (ZA V68.eq_1 (ZA hC_fZ0.2 ((fixed_ren hC_fZ0))))
theorem w_impl_IsValidOutage (nZ0 : TNetwork) (oZ0 : TOutage) {r : Bool} (h : M_impl_IsValidOutage nZ0 oZ0 = some r) : Ok Try.prog 20 [.agg [.lst .o 1 (nZ0.Nodes.map AV.z), .lst .o 4 (nZ0.Fibers.map (e_TFiber .o))], .agg [.i oZ0.Unit, .lst .o 1 (oZ0.Down.map AV.i)]] ((fun r => .b r) r) := by
  refine ok_of_body hmix m20 rfl ?_
  unfold M_impl_IsValidOutage at h
  simp only [ZC, A20, V20, body_eq]
  obtain ⟨rZ1, hrZ1, h⟩ := bind_s h
  refine ZF trivial ?_
  refine ZS trivial (w_impl_IsValidNetwork _ hrZ1) ?_
  refine ZG ?_
  obtain ⟨cZ2, h⟩ | ⟨cZ2, h⟩ := cond_s h
  · obtain ⟨rZ3, hrZ3, h⟩ := bind_s h
    refine ZF cZ2 ?_
    refine ZS cZ2 (w_impl_within _ _ _ hrZ3) ?_
    refine ZG ?_
    obtain ⟨cZ4, h⟩ | ⟨cZ4, h⟩ := cond_s h
    · obtain ⟨rZ5, hrZ5, h⟩ := bind_s h
      refine ZF (ZA cZ2 cZ4) ?_
      refine ZU (ZA cZ2 cZ4) (w_impl_groups _ hrZ5) ?_
      refine ZG ?_
      obtain ⟨cZ6, h⟩ | ⟨cZ6, h⟩ := cond_s h
      · obtain ⟨rZ7, hrZ7, h⟩ := bind_s h
        refine ZF (ZA cZ2 (ZA cZ4 cZ6)) ?_
        refine ZS (ZA cZ2 (ZA cZ4 cZ6)) (w_slices_ContainsFunc_Lint_int _ _ hrZ7 69 [.bp (.agg [.i oZ0.Unit, .lst .o 1 (oZ0.Down.map AV.i)]) 0] ⟨fun ρ k => by simp only [VS1, VS2, VS3, VS4, VS5, VS6, VT1, VT2, finM_ret, finM_nrm, decide_true, decide_false, List.nodup_nil, List.nodup_cons, oks_p, oks_m, oks_h, ne_eq, not_false_eq_true, Int.reduceEq, Int.reduceNe, true_and, false_and, Nat.reduceSub, Nat.reduceMul, ↓reduceIte, reduceCtorEq, Nat.reduceEqDiff, Nat.reduceAdd, Nat.reduceLeDiff, Int.reduceLE], by simp [mentsL, AV.ments]⟩ (fun _ _ h => w_impl_IsValidOutage_c1 _ _ h)) ?_
        refine ZG ?_
        cases h
        exact ZL (ZA cZ2 (ZA cZ4 cZ6)) V20.eq_1
      · cases h
        exact ZL (ZA cZ2 (ZA cZ4 cZ6)) V20.eq_1
    · cases h
      exact ZL (ZA cZ2 cZ4) V20.eq_1
  · cases h
    exact ZL cZ2 V20.eq_1
theorem w_impl_isNode_c1 (vZ0 : Int) (p1Z0 : TNetwork) {r : Bool} (h : M_impl_isNode_c1 vZ0 p1Z0 = some r) : Ok Try.prog 143 [.i vZ0, .bp (.agg [.lst .o 1 (p1Z0.Nodes.map AV.z), .lst .o 4 (p1Z0.Fibers.map (e_TFiber .o))]) 0] ((fun r => .b r) r) := by
  refine ok_of_body hmix m143 rfl ?_
  unfold M_impl_isNode_c1 at h
  simp only [ZC, A143, V143, body_eq]
  obtain ⟨rZ1, hrZ1, h⟩ := bind_s h
  refine ZF trivial ?_
  refine ZS trivial (w_impl_within _ _ _ hrZ1) ?_
  refine ZG ?_
  cases h
  exact ZL trivial V143.eq_1
theorem w_impl_isNode (nZ0 : TNetwork) (nodesZ0 : List Int) {r : Bool} (h : M_impl_isNode nZ0 nodesZ0 = some r) : Ok Try.prog 119 [.agg [.lst .o 1 (nZ0.Nodes.map AV.z), .lst .o 4 (nZ0.Fibers.map (e_TFiber .o))], .lst .o 1 (nodesZ0.map AV.i)] ((fun r => .b r) r) := by
  refine ok_of_body hmix m119 rfl ?_
  unfold M_impl_isNode at h
  simp only [ZC, A119, V119, body_eq]
  obtain ⟨rZ1, hrZ1, h⟩ := bind_s h
  refine ZF trivial ?_
  refine ZS trivial (w_impl_IsValidNetwork _ hrZ1) ?_
  refine ZG ?_
  obtain ⟨cZ2, h⟩ | ⟨cZ2, h⟩ := cond_s h
  · obtain ⟨rZ3, hrZ3, h⟩ := bind_s h
    refine ZF cZ2 ?_
    refine ZS cZ2 (w_slices_ContainsFunc_Lint_int _ _ hrZ3 143 [.bp (.agg [.lst .o 1 (nZ0.Nodes.map AV.z), .lst .o 4 (nZ0.Fibers.map (e_TFiber .o))]) 0] ⟨fun ρ k => by simp only [VS1, VS2, VS3, VS4, VS5, VS6, VT1, VT2, finM_ret, finM_nrm, decide_true, decide_false, List.nodup_nil, List.nodup_cons, oks_p, oks_m, oks_h, ne_eq, not_false_eq_true, Int.reduceEq, Int.reduceNe, true_and, false_and, Nat.reduceSub, Nat.reduceMul, ↓reduceIte, reduceCtorEq, Nat.reduceEqDiff, Nat.reduceAdd, Nat.reduceLeDiff, Int.reduceLE], by simp [mentsL, AV.ments]⟩ (fun _ _ h => w_impl_isNode_c1 _ _ h)) ?_
    refine ZG ?_
    cases h
    exact ZL cZ2 V119.eq_1
  · cases h
    exact ZL cZ2 V119.eq_1
theorem w_impl_isConnection (nZ0 : TNetwork) (oZ0 : TOutage) (fromZ0 : Int) (toZ0 : Int) {r : Bool} (h : M_impl_isConnection nZ0 oZ0 fromZ0 toZ0 = some r) : Ok Try.prog 86 [.agg [.lst .o 1 (nZ0.Nodes.map AV.z), .lst .o 4 (nZ0.Fibers.map (e_TFiber .o))], .agg [.i oZ0.Unit, .lst .o 1 (oZ0.Down.map AV.i)], .i fromZ0, .i toZ0] ((fun r => .b r) r) := by
  refine ok_of_body hmix m86 rfl ?_
  unfold M_impl_isConnection at h
  simp only [ZC, A86, V86, body_eq]
  obtain ⟨rZ1, hrZ1, h⟩ := bind_s h
  refine ZF trivial ?_
  refine ZS trivial (w_impl_IsValidOutage _ _ hrZ1) ?_
  refine ZG ?_
  obtain ⟨cZ2, h⟩ | ⟨cZ2, h⟩ := cond_s h
  · obtain ⟨lZ3, hlZ3, h⟩ := bnd_s h
    have eZ4 : Row.arr 1 [(.i fromZ0 : AV), (.i toZ0 : AV)] = Row.arr 1 (lZ3.map AV.i) := by rw [← hlZ3]; rfl
    have jjZ5 : lZ3.length = 2 := by rw [← hlZ3]; rfl
    have nZ6 : sub (lZ3.map AV.i) 0 2 = lZ3.map AV.i := sub_n _ (by simp [← hlZ3])
    obtain ⟨rZ7, hrZ7, h⟩ := bind_s h
    refine ZF (ZA cZ2 (ZA eZ4 (ZA jjZ5 nZ6))) ?_
    refine ZS (ZA cZ2 (ZA eZ4 (ZA jjZ5 nZ6))) (w_impl_isNode _ _ hrZ7) ?_
    refine ZG ?_
    obtain ⟨cZ8, h⟩ | ⟨cZ8, h⟩ := cond_s h
    · cases h
      exact ZL (ZA cZ2 (ZA eZ4 (ZA jjZ5 (ZA nZ6 cZ8)))) (ZA V86.eq_1 (ZA hlZ3.symm jjZ5))
    · cases h
      exact ZL (ZA cZ2 (ZA eZ4 (ZA jjZ5 (ZA nZ6 cZ8)))) (ZA V86.eq_1 (ZA hlZ3.symm jjZ5))
  · cases h
    exact ZL cZ2 V86.eq_1
theorem w_impl_copyInts (lZ0 : List Int) {r : List Int} (h : M_impl_copyInts lZ0 = some r) : Ok Try.prog 90 [.lst .o 1 (lZ0.map AV.i)] ((fun r => .lst .u 1 (r.map AV.i)) r) := by
  refine ok_of_body hmix m90 rfl ?_
  unfold M_impl_copyInts at h
  simp only [ZC, A90, V90, body_eq]
  obtain ⟨uZ1, huZ1, h⟩ := bind_s h
  have huZ1g := grd_s huZ1
  cases h
  exact ZL huZ1g V90.eq_1
def S_slices_Index_Lint_intL1 (sZ0 : List Int) (vZ0 : Int) (v : Int) : St := ⟨[(0, .lst .o 1 (sZ0.map AV.i)), (1, .i vZ0), (7, .i (sZ0.length : Int)), (8, .i v)], []⟩
def SX_slices_Index_Lint_intL1 (v : Unit) : St := ⟨[], []⟩
theorem w_slices_Index_Lint_intL1 (sZ0 : List Int) (vZ0 : Int) (sZ1 : Int) (o : Int ⊕ (Unit ⊕ Int)) (h : M_slices_Index_Lint_intL1 sZ0 vZ0 sZ1 = some o) : AWP (OkS Try.prog) A142L1 (qL [0, 1, 7, 8] [] (S_slices_Index_Lint_intL1 sZ0 vZ0) (qS (qX 0 [] [] (SX_slices_Index_Lint_intL1)) (qR V142 (fun r => .i r))) o) (S_slices_Index_Lint_intL1 sZ0 vZ0 sZ1) := by
  unfold M_slices_Index_Lint_intL1 at h
  simp only [ZC, S_slices_Index_Lint_intL1, A142L1]
  obtain ⟨cZ2, h⟩ | ⟨cZ2, h⟩ := cond_s h
  · obtain ⟨yZ3, hyZ3, h⟩ := bind_s h
    obtain ⟨hyZ3a, hyZ3b⟩ := geti_s hyZ3
    obtain ⟨cZ4, h⟩ | ⟨cZ4, h⟩ := cond_s h
    · cases h
      exact ZL (ZA cZ2 (ZA hyZ3a (ZA hyZ3b cZ4))) V142.eq_1
    · cases h
      exact ZL (ZA cZ2 (ZA hyZ3a (ZA hyZ3b cZ4))) (ZA S_slices_Index_Lint_intL1.eq_1 SX_slices_Index_Lint_intL1.eq_1)
  · cases h
    exact ZL cZ2 (ZA S_slices_Index_Lint_intL1.eq_1 SX_slices_Index_Lint_intL1.eq_1)
theorem w_slices_Index_Lint_int (sZ0 : List Int) (vZ0 : Int) {r : Int} (h : M_slices_Index_Lint_int sZ0 vZ0 = some r) : Ok Try.prog 142 [.lst .o 1 (sZ0.map AV.i), .i vZ0] ((fun r => .i r) r) := by
  refine ok_of_body hmix m142 rfl ?_
  unfold M_slices_Index_Lint_int at h
  simp only [ZC, A142, V142, body_eq]
  obtain ⟨oZ5, hoZ5, h⟩ := bind_s h
  try refine ZF trivial ?_
  refine join_rule (o := oZ5) (blk_rule sideR (loop_rule (w_slices_Index_Lint_intL1 sZ0 vZ0) hoZ5 ?_)) (fun vZ6 hv => ?_) (fun xZ7 hv e τ hne hq => ?_)
  · exact ZK (ZA S_slices_Index_Lint_intL1.eq_1 SX_slices_Index_Lint_intL1.eq_1)
  · subst hv
    simp only [] at h
    simp only [ZC, SX_slices_Index_Lint_intL1, A142R2]
    cases h
    exact ZL trivial V142.eq_1
  · subst hv
    simp only [] at h
    obtain ⟨rfl, qZ8⟩ := hq
    cases h
    exact qZ8
theorem w_slices_Contains_Lint_int (sZ0 : List Int) (vZ0 : Int) {r : Bool} (h : M_slices_Contains_Lint_int sZ0 vZ0 = some r) : Ok Try.prog 118 [.lst .o 1 (sZ0.map AV.i), .i vZ0] ((fun r => .b r) r) := by
  refine ok_of_body hmix m118 rfl ?_
  unfold M_slices_Contains_Lint_int at h
  simp only [ZC, A118, V118, body_eq]
  obtain ⟨rZ1, hrZ1, h⟩ := bind_s h
  refine ZF trivial ?_
  refine ZS trivial (w_slices_Index_Lint_int _ _ hrZ1) ?_
  refine ZG ?_
  cases h
  exact ZL trivial V118.eq_1
def S_impl_componentsL1 (nZ0 : TNetwork) (goneZ0 : List Int) (v : Int × List Int) : St := ⟨[(1, .lst .o 1 (goneZ0.map AV.i)), (2, .pt 2 0 0), (5, .sl 5 0 v.2.length), (13, .i (nZ0.Nodes.length : Int)), (14, .i v.1)], [(2, .var (.agg [.lst .o 1 (nZ0.Nodes.map AV.z), .lst .o 4 (nZ0.Fibers.map (e_TFiber .o))])), (5, .arr 1 (v.2.map AV.i))]⟩
def SX_impl_componentsL1 (nZ0 : TNetwork) (goneZ0 : List Int) (v : List Int) : St := ⟨[(1, .lst .o 1 (goneZ0.map AV.i)), (2, .pt 2 0 0), (5, .sl 5 0 v.length)], [(2, .var (.agg [.lst .o 1 (nZ0.Nodes.map AV.z), .lst .o 4 (nZ0.Fibers.map (e_TFiber .o))])), (5, .arr 1 (v.map AV.i))]⟩
theorem w_impl_componentsL1 (nZ0 : TNetwork) (goneZ0 : List Int) (sZ1 : Int × List Int) (o : (Int × List Int) ⊕ (List Int)) (h : M_impl_componentsL1 nZ0 sZ1 = some o) : AWP (OkS Try.prog) A84L1 (qL [1, 2, 5, 13, 14] [2, 5] (S_impl_componentsL1 nZ0 goneZ0) (qX 0 [1, 2, 5] [2, 5] (SX_impl_componentsL1 nZ0 goneZ0)) o) (S_impl_componentsL1 nZ0 goneZ0 sZ1) := by
  unfold M_impl_componentsL1 at h
  simp only [ZC, S_impl_componentsL1, A84L1]
  obtain ⟨cZ2, h⟩ | ⟨cZ2, h⟩ := cond_s h
  · obtain ⟨lZ3, hlZ3, h⟩ := bnd_s h
    have eZ4 : Row.arr 1 [(.i sZ1.1 : AV)] = Row.arr 1 (lZ3.map AV.i) := by rw [← hlZ3]; rfl
    have jjZ5 : lZ3.length = 1 := by rw [← hlZ3]; rfl
    obtain ⟨uZ6, huZ6, h⟩ := bind_s h
    have huZ6g := grd_s huZ6
    obtain ⟨lZ7, hlZ7, h⟩ := bnd_s h
    have eZ8 : sZ1.2.map AV.i ++ lZ3.map AV.i = lZ7.map AV.i := by rw [← hlZ7, List.map_append]
    have eZ9 : sZ1.2.length + 1 = lZ7.length := by simp [← hlZ3, ← hlZ7] <;> omega
    rw [eZ9] at huZ6g
    cases h
    exact ZL (ZA cZ2 (ZA eZ4 (ZA jjZ5 (ZA huZ6g (ZA eZ8 eZ9))))) (ZA S_impl_componentsL1.eq_1 (ZA SX_impl_componentsL1.eq_1 (ZA hlZ3.symm (ZA hlZ7.symm jjZ5))))
  · cases h
    exact ZL cZ2 (ZA S_impl_componentsL1.eq_1 SX_impl_componentsL1.eq_1)
def S_impl_componentsL3 (nZ0 : TNetwork) (goneZ0 : List Int) (sZ11 : Int × List Int) (v : Int × List Int) : St := ⟨[(1, .lst .o 1 (goneZ0.map AV.i)), (2, .pt 2 0 0), (5, .sl 5 0 v.2.length), (24, .i (nZ0.Nodes.length : Int)), (25, .i sZ11.1), (28, .lst .o 4 (nZ0.Fibers.map (e_TFiber .o))), (29, .i (nZ0.Fibers.length : Int)), (30, .i v.1)], [(2, .var (.agg [.lst .o 1 (nZ0.Nodes.map AV.z), .lst .o 4 (nZ0.Fibers.map (e_TFiber .o))])), (5, .arr 1 (v.2.map AV.i))]⟩
def SX_impl_componentsL3 (nZ0 : TNetwork) (goneZ0 : List Int) (sZ11 : Int × List Int) (v : List Int) : St := ⟨[(1, .lst .o 1 (goneZ0.map AV.i)), (2, .pt 2 0 0), (5, .sl 5 0 v.length), (24, .i (nZ0.Nodes.length : Int)), (25, .i sZ11.1)], [(2, .var (.agg [.lst .o 1 (nZ0.Nodes.map AV.z), .lst .o 4 (nZ0.Fibers.map (e_TFiber .o))])), (5, .arr 1 (v.map AV.i))]⟩
theorem w_impl_componentsL3 (nZ0 : TNetwork) (goneZ0 : List Int) (sZ11 : Int × List Int) (sZ13 : Int × List Int) (o : (Int × List Int) ⊕ (List Int)) (h : M_impl_componentsL3 nZ0 goneZ0 sZ13 = some o) : AWP (OkS Try.prog) A84L3 (qL [1, 2, 5, 24, 25, 28, 29, 30] [2, 5] (S_impl_componentsL3 nZ0 goneZ0 sZ11) (qX 4 [1, 2, 5, 24, 25] [2, 5] (SX_impl_componentsL3 nZ0 goneZ0 sZ11)) o) (S_impl_componentsL3 nZ0 goneZ0 sZ11 sZ13) := by
  unfold M_impl_componentsL3 at h
  simp only [ZC, S_impl_componentsL3, A84L3]
  obtain ⟨cZ14, h⟩ | ⟨cZ14, h⟩ := cond_s h
  · obtain ⟨yZ15, hyZ15, h⟩ := bind_s h
    obtain ⟨hyZ15a, hyZ15b⟩ := geti_s hyZ15
    obtain ⟨rZ16, hrZ16, h⟩ := bind_s h
    refine ZF (ZA cZ14 (ZA hyZ15a hyZ15b)) ?_
    refine ZS (ZA cZ14 (ZA hyZ15a hyZ15b)) (w_slices_Contains_Lint_int _ _ hrZ16) ?_
    refine ZG ?_
    obtain ⟨cZ17, h⟩ | ⟨cZ17, h⟩ := cond_s h
    · obtain ⟨kZ18, hkZ18, h⟩ := bind_s h
      obtain ⟨hkZ18a, hkZ18b⟩ := grd_s hkZ18
      obtain ⟨yZ19, hyZ19, h⟩ := bind_s h
      obtain ⟨kZ20, hkZ20, h⟩ := bind_s h
      obtain ⟨hkZ20a, hkZ20b⟩ := grd_s hkZ20
      obtain ⟨yZ21, hyZ21, h⟩ := bind_s h
      obtain ⟨lZ22, hlZ22, h⟩ := bnd_s h
      have eZ23 : (sZ13.2.map AV.i).set (Int.toNat yZ15.A) (.i (if yZ21 < yZ19 then yZ21 else yZ19)) = lZ22.map AV.i := by rw [← hlZ22, List.map_set]
      obtain ⟨yZ24, hyZ24, h⟩ := bind_s h
      obtain ⟨lZ25, hlZ25, h⟩ := bnd_s h
      have eZ26 : (lZ22.map AV.i).set (Int.toNat yZ15.B) (.i (if yZ21 < yZ19 then yZ21 else yZ19)) = lZ25.map AV.i := by rw [← hlZ25, List.map_set]
      cases h
      exact ZL (ZA cZ14 (ZA hyZ15a (ZA hyZ15b (ZA cZ17 (ZA hkZ18a (ZA hkZ18b (ZA hyZ19 (ZA hkZ20a (ZA hkZ20b (ZA hyZ21 (ZA eZ23 (ZA hyZ24 eZ26)))))))))))) (ZA S_impl_componentsL3.eq_1 (ZA SX_impl_componentsL3.eq_1 (ZA hlZ22.symm hlZ25.symm)))
    · cases h
      exact ZL (ZA cZ14 (ZA hyZ15a (ZA hyZ15b cZ17))) (ZA S_impl_componentsL3.eq_1 SX_impl_componentsL3.eq_1)
  · cases h
    exact ZL cZ14 (ZA S_impl_componentsL3.eq_1 SX_impl_componentsL3.eq_1)
def S_impl_componentsL2 (nZ0 : TNetwork) (goneZ0 : List Int) (v : Int × List Int) : St := ⟨[(1, .lst .o 1 (goneZ0.map AV.i)), (2, .pt 2 0 0), (5, .sl 5 0 v.2.length), (24, .i (nZ0.Nodes.length : Int)), (25, .i v.1)], [(2, .var (.agg [.lst .o 1 (nZ0.Nodes.map AV.z), .lst .o 4 (nZ0.Fibers.map (e_TFiber .o))])), (5, .arr 1 (v.2.map AV.i))]⟩
def SX_impl_componentsL2 (v : List Int) : St := ⟨[(5, .sl 5 0 v.length)], [(5, .arr 1 (v.map AV.i))]⟩
theorem w_impl_componentsL2 (nZ0 : TNetwork) (goneZ0 : List Int) (sZ11 : Int × List Int) (o : (Int × List Int) ⊕ (List Int)) (h : M_impl_componentsL2 nZ0 goneZ0 sZ11 = some o) : AWP (OkS Try.prog) A84L5 (qL [1, 2, 5, 24, 25] [2, 5] (S_impl_componentsL2 nZ0 goneZ0) (qX 2 [5] [5] (SX_impl_componentsL2)) o) (S_impl_componentsL2 nZ0 goneZ0 sZ11) := by
  unfold M_impl_componentsL2 at h
  simp only [ZC, S_impl_componentsL2, A84L5]
  obtain ⟨cZ12, h⟩ | ⟨cZ12, h⟩ := cond_s h
  · obtain ⟨oZ29, hoZ29, h⟩ := bind_s h
    try refine ZF cZ12 ?_
    refine join_rule0 (sh := (fun v => ⟨[(1, .lst .o 1 (goneZ0.map AV.i)), (2, .pt 2 0 0), (5, .sl 5 0 v.length), (24, .i (nZ0.Nodes.length : Int)), (25, .i sZ11.1)], [(2, .var (.agg [.lst .o 1 (nZ0.Nodes.map AV.z), .lst .o 4 (nZ0.Fibers.map (e_TFiber .o))])), (5, .arr 1 (v.map AV.i))]⟩)) (s := oZ29) ?_ ?_
    · replace h := hoZ29
      obtain ⟨oZ27, hoZ27, h⟩ := bind_s h
      try refine ZF cZ12 ?_
      first | refine tail_rule0 (blk_rule0 (loop_rule (w_impl_componentsL3 nZ0 goneZ0 sZ11) hoZ27 ?_)) (fun τ qZ28 => ?_) | refine tail_blk0 (loop_rule (w_impl_componentsL3 nZ0 goneZ0 sZ11) hoZ27 ?_) (fun τ qZ28 => ?_)
      · exact ZK (ZA S_impl_componentsL3.eq_1 SX_impl_componentsL3.eq_1)
      · cases h
        try refine ZF trivial ?_
        refine ⟨rfl, Shp.sub qZ28 (by decide) (by decide) ?_⟩
        exact ZK SX_impl_componentsL3.eq_1
    · simp only [ZC, A84R4]
      cases h
      exact ZL cZ12 (ZA S_impl_componentsL2.eq_1 SX_impl_componentsL2.eq_1)
  · cases h
    exact ZL cZ12 (ZA S_impl_componentsL2.eq_1 SX_impl_componentsL2.eq_1)
theorem w_impl_components (nZ0 : TNetwork) (goneZ0 : List Int) {r : List Int} (h : M_impl_components nZ0 goneZ0 = some r) : Ok Try.prog 84 [.agg [.lst .o 1 (nZ0.Nodes.map AV.z), .lst .o 4 (nZ0.Fibers.map (e_TFiber .o))], .lst .o 1 (goneZ0.map AV.i)] ((fun r => .lst .u 1 (r.map AV.i)) r) := by
  refine ok_of_body hmix m84 rfl ?_
  unfold M_impl_components at h
  simp only [ZC, A84, V84, body_eq]
  obtain ⟨oZ10, hoZ10, h⟩ := bind_s h
  try refine ZF trivial ?_
  refine join_rule0 (blk_rule0 (loop_rule (w_impl_componentsL1 nZ0 goneZ0) hoZ10 ?_)) ?_
  · exact ZK (ZA S_impl_componentsL1.eq_1 SX_impl_componentsL1.eq_1)
  · simp only [ZC, SX_impl_componentsL1, A84R2]
    obtain ⟨oZ30, hoZ30, h⟩ := bind_s h
    try refine ZF trivial ?_
    refine join_rule0 (blk_rule0 (loop_rule (w_impl_componentsL2 nZ0 goneZ0) hoZ30 ?_)) ?_
    · exact ZK (ZA S_impl_componentsL2.eq_1 SX_impl_componentsL2.eq_1)
    · simp only [ZC, SX_impl_componentsL2, A84R6]
      cases h
      exact ZL trivial V84.eq_1
theorem w_impl_Outage_connection_c1 (goneZ0 : List Int) (p1Z0 : TNetwork) (p2Z0 : Int) (p3Z0 : Int) {r : Bool} (h : M_impl_Outage_connection_c1 goneZ0 p1Z0 p2Z0 p3Z0 = some r) : Ok Try.prog 120 [.lst .o 1 (goneZ0.map AV.i), .bp (.agg [.lst .o 1 (p1Z0.Nodes.map AV.z), .lst .o 4 (p1Z0.Fibers.map (e_TFiber .o))]) 0, .bp (.i p2Z0) 0, .bp (.i p3Z0) 0] ((fun r => .b r) r) := by
  refine ok_of_body hmix m120 rfl ?_
  unfold M_impl_Outage_connection_c1 at h
  simp only [ZC, A120, V120, body_eq]
  obtain ⟨rZ1, hrZ1, h⟩ := bind_s h
  refine ZF trivial ?_
  refine ZU trivial (w_impl_components _ _ hrZ1) ?_
  refine ZG ?_
  obtain ⟨kZ2, hkZ2, h⟩ := bind_s h
  obtain ⟨hkZ2a, hkZ2b⟩ := grd_s hkZ2
  obtain ⟨yZ3, hyZ3, h⟩ := bind_s h
  obtain ⟨kZ4, hkZ4, h⟩ := bind_s h
  obtain ⟨hkZ4a, hkZ4b⟩ := grd_s hkZ4
  obtain ⟨yZ5, hyZ5, h⟩ := bind_s h
  cases h
  exact ZL (ZA hkZ2a (ZA hkZ2b (ZA hyZ3 (ZA hkZ4a (ZA hkZ4b hyZ5))))) V120.eq_1
def S_impl_Outage_weightL1 (oZ0 : TOutage) (setZ0 : Int) (v : Int × Int) : St := ⟨[(1, .i setZ0), (2, .pt 2 0 0), (5, .i v.1), (9, .lst .o 1 (oZ0.Down.map AV.i)), (10, .i (oZ0.Down.length : Int)), (11, .i v.2)], [(2, .var (.agg [.i oZ0.Unit, .lst .o 1 (oZ0.Down.map AV.i)]))]⟩
def SX_impl_Outage_weightL1 (v : Int) : St := ⟨[(5, .i v)], []⟩
theorem w_impl_Outage_weightL1 (oZ0 : TOutage) (setZ0 : Int) (sZ1 : Int × Int) (o : (Int × Int) ⊕ Int) (h : M_impl_Outage_weightL1 oZ0 setZ0 sZ1 = some o) : AWP (OkS Try.prog) A79L1 (qL [1, 2, 5, 9, 10, 11] [2] (S_impl_Outage_weightL1 oZ0 setZ0) (qX 0 [5] [] (SX_impl_Outage_weightL1)) o) (S_impl_Outage_weightL1 oZ0 setZ0 sZ1) := by
  unfold M_impl_Outage_weightL1 at h
  simp only [ZC, S_impl_Outage_weightL1, A79L1]
  obtain ⟨cZ2, h⟩ | ⟨cZ2, h⟩ := cond_s h
  · obtain ⟨yZ3, hyZ3, h⟩ := bind_s h
    obtain ⟨hyZ3a, hyZ3b⟩ := geti_s hyZ3
    obtain ⟨uZ4, huZ4, h⟩ := bind_s h
    have huZ4g := grd_s huZ4
    obtain ⟨cZ5, h⟩ | ⟨cZ5, h⟩ := cond_s h
    · cases h
      exact ZL (ZA cZ2 (ZA hyZ3a (ZA hyZ3b (ZA huZ4g cZ5)))) (ZA S_impl_Outage_weightL1.eq_1 SX_impl_Outage_weightL1.eq_1)
    · cases h
      exact ZL (ZA cZ2 (ZA hyZ3a (ZA hyZ3b (ZA huZ4g cZ5)))) (ZA S_impl_Outage_weightL1.eq_1 SX_impl_Outage_weightL1.eq_1)
  · cases h
    exact ZL cZ2 (ZA S_impl_Outage_weightL1.eq_1 SX_impl_Outage_weightL1.eq_1)
theorem w_impl_Outage_weight (oZ0 : TOutage) (setZ0 : Int) {r : Int} (h : M_impl_Outage_weight oZ0 setZ0 = some r) : Ok Try.prog 79 [.agg [.i oZ0.Unit, .lst .o 1 (oZ0.Down.map AV.i)], .i setZ0] ((fun r => .i r) r) := by
  refine ok_of_body hmix m79 rfl ?_
  unfold M_impl_Outage_weight at h
  simp only [ZC, A79, V79, body_eq]
  obtain ⟨oZ6, hoZ6, h⟩ := bind_s h
  try refine ZF trivial ?_
  refine join_rule0 (blk_rule0 (loop_rule (w_impl_Outage_weightL1 oZ0 setZ0) hoZ6 ?_)) ?_
  · exact ZK (ZA S_impl_Outage_weightL1.eq_1 SX_impl_Outage_weightL1.eq_1)
  · simp only [ZC, SX_impl_Outage_weightL1, A79R2]
    cases h
    exact ZL trivial V79.eq_1
def S_impl_Outage_chanceL2 (oZ0 : TOutage) (F_holdsZ0 : Nat) (C_holdsZ0 : List AV) (rZ1 : List (List Int)) (sZ3 : Int × Int) (rZ5 : Int) (v : Int × List Int) : St := ⟨[(2, .fn F_holdsZ0 C_holdsZ0), (3, .pt 3 0 0), (7, .i sZ3.1), (8, .sl 8 0 rZ1.length), (9, .i sZ3.2), (10, .i rZ5), (11, .sl 11 0 v.2.length), (18, .i (IntKind.wrap .i64 (1 * 2 ^ (min rZ1.length (IntKind.bits .i64))))), (19, .i sZ3.2), (28, .sl 8 0 rZ1.length), (29, .i (rZ1.length : Int)), (30, .i v.1)], [(3, .var (.agg [.i oZ0.Unit, .lst .o 1 (oZ0.Down.map AV.i)])), (8, .arr 1 (rZ1.map (e_Li .u))), (11, .arr 1 (v.2.map AV.i))]⟩
def SX_impl_Outage_chanceL2 (oZ0 : TOutage) (F_holdsZ0 : Nat) (C_holdsZ0 : List AV) (rZ1 : List (List Int)) (sZ3 : Int × Int) (rZ5 : Int) (v : List Int) : St := ⟨[(2, .fn F_holdsZ0 C_holdsZ0), (3, .pt 3 0 0), (7, .i sZ3.1), (8, .sl 8 0 rZ1.length), (10, .i rZ5), (11, .sl 11 0 v.length), (18, .i (IntKind.wrap .i64 (1 * 2 ^ (min rZ1.length (IntKind.bits .i64))))), (19, .i sZ3.2)], [(3, .var (.agg [.i oZ0.Unit, .lst .o 1 (oZ0.Down.map AV.i)])), (8, .arr 1 (rZ1.map (e_Li .u))), (11, .arr 1 (v.map AV.i))]⟩
theorem w_impl_Outage_chanceL2 (oZ0 : TOutage) (holdsZ0 : (List Int) → Option Bool) (F_holdsZ0 : Nat) (C_holdsZ0 : List AV) (rZ1 : List (List Int)) (sZ3 : Int × Int) (rZ5 : Int) (hC_holdsZ0 : Fixed C_holdsZ0) (hf_holdsZ0 : ∀ (x0 : List Int) (r : Bool), holdsZ0 x0 = some r → Ok Try.prog F_holdsZ0 ((.lst .o 1 (x0.map AV.i)) :: C_holdsZ0) (.b r)) (sZ7 : Int × List Int) (o : (Int × List Int) ⊕ (List Int)) (h : M_impl_Outage_chanceL2 rZ1 sZ3 sZ7 = some o) : AWP (OkS Try.prog) A81L1 (qL [2, 3, 7, 8, 9, 10, 11, 18, 19, 28, 29, 30] [3, 8, 11] (S_impl_Outage_chanceL2 oZ0 F_holdsZ0 C_holdsZ0 rZ1 sZ3 rZ5) (qX 2 [2, 3, 7, 8, 10, 11, 18, 19] [3, 8, 11] (SX_impl_Outage_chanceL2 oZ0 F_holdsZ0 C_holdsZ0 rZ1 sZ3 rZ5)) o) (S_impl_Outage_chanceL2 oZ0 F_holdsZ0 C_holdsZ0 rZ1 sZ3 rZ5 sZ7) := by
  unfold M_impl_Outage_chanceL2 at h
  simp only [ZC, S_impl_Outage_chanceL2, A81L1]
  obtain ⟨cZ8, h⟩ | ⟨cZ8, h⟩ := cond_s h
  · obtain ⟨kZ9, hkZ9, h⟩ := bind_s h
    obtain ⟨hkZ9a, hkZ9b⟩ := grd_s hkZ9
    obtain ⟨yZ10, hyZ10, h⟩ := bind_s h
    obtain ⟨uZ11, huZ11, h⟩ := bind_s h
    have huZ11g := grd_s huZ11
    obtain ⟨cZ12, h⟩ | ⟨cZ12, h⟩ := cond_s h
    · obtain ⟨uZ13, huZ13, h⟩ := bind_s h
      have huZ13g := grd_s huZ13
      obtain ⟨lZ14, hlZ14, h⟩ := bnd_s h
      have eZ15 : sZ7.2.map AV.i ++ yZ10.map AV.i = lZ14.map AV.i := by rw [← hlZ14, List.map_append]
      have eZ16 : sZ7.2.length + yZ10.length = lZ14.length := by simp [← hlZ14] <;> omega
      rw [eZ16] at huZ13g
      cases h
      exact ZL (ZA cZ8 (ZA hkZ9a (ZA hkZ9b (ZA hyZ10 (ZA huZ11g (ZA cZ12 (ZA huZ13g (ZA eZ15 eZ16)))))))) (ZA S_impl_Outage_chanceL2.eq_1 (ZA SX_impl_Outage_chanceL2.eq_1 (ZA hlZ14.symm (ZA hC_holdsZ0.2 ((fixed_ren hC_holdsZ0))))))
    · cases h
      exact ZL (ZA cZ8 (ZA hkZ9a (ZA hkZ9b (ZA hyZ10 (ZA huZ11g cZ12))))) (ZA S_impl_Outage_chanceL2.eq_1 (ZA SX_impl_Outage_chanceL2.eq_1 (ZA hC_holdsZ0.2 ((fixed_ren hC_holdsZ0)))))
  · cases h
    exact ZL cZ8 (ZA S_impl_Outage_chanceL2.eq_1 (ZA SX_impl_Outage_chanceL2.eq_1 (ZA hC_holdsZ0.2 ((fixed_ren hC_holdsZ0)))))
def S_impl_Outage_chanceL1 (oZ0 : TOutage) (F_holdsZ0 : Nat) (C_holdsZ0 : List AV) (rZ1 : List (List Int)) (v : Int × Int) : St := ⟨[(2, .fn F_holdsZ0 C_holdsZ0), (3, .pt 3 0 0), (7, .i v.1), (8, .sl 8 0 rZ1.length), (18, .i (IntKind.wrap .i64 (1 * 2 ^ (min rZ1.length (IntKind.bits .i64))))), (19, .i v.2)], [(3, .var (.agg [.i oZ0.Unit, .lst .o 1 (oZ0.Down.map AV.i)])), (8, .arr 1 (rZ1.map (e_Li .u)))]⟩
def SX_impl_Outage_chanceL1 (v : Int) : St := ⟨[(7, .i v)], []⟩
theorem w_impl_Outage_chanceL1 (oZ0 : TOutage) (holdsZ0 : (List Int) → Option Bool) (F_holdsZ0 : Nat) (C_holdsZ0 : List AV) (rZ1 : List (List Int)) (hC_holdsZ0 : Fixed C_holdsZ0) (hf_holdsZ0 : ∀ (x0 : List Int) (r : Bool), holdsZ0 x0 = some r → Ok Try.prog F_holdsZ0 ((.lst .o 1 (x0.map AV.i)) :: C_holdsZ0) (.b r)) (sZ3 : Int × Int) (o : (Int × Int) ⊕ Int) (h : M_impl_Outage_chanceL1 oZ0 holdsZ0 rZ1 sZ3 = some o) : AWP (OkS Try.prog) A81L3 (qL [2, 3, 7, 8, 18, 19] [3, 8] (S_impl_Outage_chanceL1 oZ0 F_holdsZ0 C_holdsZ0 rZ1) (qX 0 [7] [] (SX_impl_Outage_chanceL1)) o) (S_impl_Outage_chanceL1 oZ0 F_holdsZ0 C_holdsZ0 rZ1 sZ3) := by
  unfold M_impl_Outage_chanceL1 at h
  simp only [ZC, S_impl_Outage_chanceL1, A81L3]
  obtain ⟨cZ4, h⟩ | ⟨cZ4, h⟩ := cond_s h
  · obtain ⟨rZ5, hrZ5, h⟩ := bind_s h
    refine ZF cZ4 ?_
    refine ZS cZ4 (w_impl_Outage_weight _ _ hrZ5) ?_
    refine ZG ?_
    obtain ⟨cZ6, h⟩ | ⟨cZ6, h⟩ := cond_s h
    · cases h
      exact ZL (ZA cZ4 cZ6) (ZA S_impl_Outage_chanceL1.eq_1 (ZA SX_impl_Outage_chanceL1.eq_1 (ZA hC_holdsZ0.2 ((fixed_ren hC_holdsZ0)))))
    · obtain ⟨oZ17, hoZ17, h⟩ := bind_s h
      try refine ZF (ZA cZ4 cZ6) ?_
      refine join_rule0 (blk_rule0 (loop_rule (w_impl_Outage_chanceL2 oZ0 holdsZ0 F_holdsZ0 C_holdsZ0 rZ1 sZ3 rZ5 hC_holdsZ0 hf_holdsZ0) hoZ17 ?_)) ?_
      · exact ZK (ZA S_impl_Outage_chanceL2.eq_1 (ZA SX_impl_Outage_chanceL2.eq_1 (ZA hC_holdsZ0.2 ((fixed_ren hC_holdsZ0)))))
      · simp only [ZC, SX_impl_Outage_chanceL2, A81R2]
        obtain ⟨rZ18, hrZ18, h⟩ := bind_s h
        refine ZF (ZA cZ4 cZ6) ?_
        refine ZS (ZA cZ4 (ZA cZ6 hC_holdsZ0.1)) (hf_holdsZ0 _ _ hrZ18) ?_
        refine ZG ?_
        obtain ⟨cZ19, h⟩ | ⟨cZ19, h⟩ := cond_s h
        · cases h
          exact ZL (ZA cZ4 (ZA cZ6 cZ19)) (ZA S_impl_Outage_chanceL1.eq_1 (ZA SX_impl_Outage_chanceL1.eq_1 (ZA hC_holdsZ0.2 ((fixed_ren hC_holdsZ0)))))
        · cases h
          exact ZL (ZA cZ4 (ZA cZ6 cZ19)) (ZA S_impl_Outage_chanceL1.eq_1 (ZA SX_impl_Outage_chanceL1.eq_1 (ZA hC_holdsZ0.2 ((fixed_ren hC_holdsZ0)))))
  · cases h
    exact ZL cZ4 (ZA S_impl_Outage_chanceL1.eq_1 (ZA SX_impl_Outage_chanceL1.eq_1 (ZA hC_holdsZ0.2 ((fixed_ren hC_holdsZ0)))))
theorem w_impl_Outage_chance (oZ0 : TOutage) (nZ0 : TNetwork) (holdsZ0 : (List Int) → Option Bool) {r : Int} (h : M_impl_Outage_chance oZ0 nZ0 holdsZ0 = some r) (F_holdsZ0 : Nat) (C_holdsZ0 : List AV) (hC_holdsZ0 : Fixed C_holdsZ0) (hf_holdsZ0 : ∀ (x0 : List Int) (r : Bool), holdsZ0 x0 = some r → Ok Try.prog F_holdsZ0 ((.lst .o 1 (x0.map AV.i)) :: C_holdsZ0) (.b r)) : Ok Try.prog 81 [.agg [.i oZ0.Unit, .lst .o 1 (oZ0.Down.map AV.i)], .agg [.lst .o 1 (nZ0.Nodes.map AV.z), .lst .o 4 (nZ0.Fibers.map (e_TFiber .o))], .fn F_holdsZ0 C_holdsZ0] ((fun r => .i r) r) := by
  refine ok_of_body hmix m81 rfl ?_
  unfold M_impl_Outage_chance at h
  simp only [ZC, A81, V81, body_eq]
  obtain ⟨rZ1, hrZ1, h⟩ := bind_s h
  refine ZF trivial ?_
  refine ZU trivial (w_impl_groups _ hrZ1) ?_
  refine ZG ?_
  obtain ⟨uZ2, huZ2, h⟩ := bind_s h
  have huZ2g := grd_s huZ2
  obtain ⟨oZ20, hoZ20, h⟩ := bind_s h
  try refine ZF huZ2g ?_
  refine join_rule0 (blk_rule0 (loop_rule (w_impl_Outage_chanceL1 oZ0 holdsZ0 F_holdsZ0 C_holdsZ0 rZ1 hC_holdsZ0 hf_holdsZ0) hoZ20 ?_)) ?_
  · exact ZK (ZA S_impl_Outage_chanceL1.eq_1 (ZA SX_impl_Outage_chanceL1.eq_1 (ZA hC_holdsZ0.2 ((fixed_ren hC_holdsZ0)))))
  · simp only [ZC, SX_impl_Outage_chanceL1, A81R4]
    cases h
    exact ZL huZ2g (ZA V81.eq_1 (ZA hC_holdsZ0.2 ((fixed_ren hC_holdsZ0))))
theorem w_impl_Outage_connection (oZ0 : TOutage) (nZ0 : TNetwork) (fromZ0 : Int) (toZ0 : Int) {r : Int} (h : M_impl_Outage_connection oZ0 nZ0 fromZ0 toZ0 = some r) : Ok Try.prog 87 [.agg [.i oZ0.Unit, .lst .o 1 (oZ0.Down.map AV.i)], .agg [.lst .o 1 (nZ0.Nodes.map AV.z), .lst .o 4 (nZ0.Fibers.map (e_TFiber .o))], .i fromZ0, .i toZ0] ((fun r => .i r) r) := by
  refine ok_of_body hmix m87 rfl ?_
  unfold M_impl_Outage_connection at h
  simp only [ZC, A87, V87, body_eq]
  obtain ⟨rZ1, hrZ1, h⟩ := bind_s h
  refine ZF trivial ?_
  refine ZS trivial (w_impl_Outage_chance _ _ _ hrZ1 120 [.bp (.agg [.lst .o 1 (nZ0.Nodes.map AV.z), .lst .o 4 (nZ0.Fibers.map (e_TFiber .o))]) 0, .bp (.i fromZ0) 0, .bp (.i toZ0) 0] ⟨fun ρ k => by simp only [VS1, VS2, VS3, VS4, VS5, VS6, VT1, VT2, finM_ret, finM_nrm, decide_true, decide_false, List.nodup_nil, List.nodup_cons, oks_p, oks_m, oks_h, ne_eq, not_false_eq_true, Int.reduceEq, Int.reduceNe, true_and, false_and, Nat.reduceSub, Nat.reduceMul, ↓reduceIte, reduceCtorEq, Nat.reduceEqDiff, Nat.reduceAdd, Nat.reduceLeDiff, Int.reduceLE], by simp [mentsL, AV.ments]⟩ (fun _ _ h => w_impl_Outage_connection_c1 _ _ _ _ h)) ?_
  refine ZG ?_
  cases h
  exact ZL trivial V87.eq_1
theorem w_impl_GroupImportance (nZ0 : TNetwork) (oZ0 : TOutage) (fromZ0 : Int) (toZ0 : Int) (groupZ0 : Int) {r : Int × Bool} (h : M_impl_GroupImportance nZ0 oZ0 fromZ0 toZ0 groupZ0 = some r) : Ok Try.prog 35 [.agg [.lst .o 1 (nZ0.Nodes.map AV.z), .lst .o 4 (nZ0.Fibers.map (e_TFiber .o))], .agg [.i oZ0.Unit, .lst .o 1 (oZ0.Down.map AV.i)], .i fromZ0, .i toZ0, .i groupZ0] ((fun r => .tup [.i r.1, .b r.2]) r) := by
  refine ok_of_body hmix m35 rfl ?_
  unfold M_impl_GroupImportance at h
  simp only [ZC, A35, V35, body_eq]
  obtain ⟨oZ4, hoZ4, h⟩ := bind_s h
  try refine ZF trivial ?_
  refine join_rule0 (sh := (fun v => ⟨[(2, .i fromZ0), (3, .i toZ0), (4, .i groupZ0), (5, .pt 5 0 0), (6, .pt 6 0 0), (28, .b v)], [(5, .var (.agg [.lst .o 1 (nZ0.Nodes.map AV.z), .lst .o 4 (nZ0.Fibers.map (e_TFiber .o))])), (6, .var (.agg [.i oZ0.Unit, .lst .o 1 (oZ0.Down.map AV.i)]))]⟩)) (s := oZ4) ?_ ?_
  · replace h := hoZ4
    obtain ⟨rZ1, hrZ1, h⟩ := bind_s h
    refine ZF trivial ?_
    refine ZS trivial (w_impl_isConnection _ _ _ _ hrZ1) ?_
    refine ZG ?_
    obtain ⟨cZ2, h⟩ | ⟨cZ2, h⟩ := cond_s h
    · cases h
      exact ZL cZ2 trivial
    · obtain ⟨rZ3, hrZ3, h⟩ := bind_s h
      refine ZF cZ2 ?_
      refine ZS cZ2 (w_impl_within _ _ _ hrZ3) ?_
      refine ZG ?_
      cases h
      exact ZL cZ2 trivial
  · simp only [ZC, A35R1]
    obtain ⟨cZ5, h⟩ | ⟨cZ5, h⟩ := cond_s h
    · cases h
      exact ZL cZ5 V35.eq_1
    · obtain ⟨rZ6, hrZ6, h⟩ := bind_s h
      refine ZF cZ5 ?_
      refine ZU cZ5 (w_impl_copyInts _ hrZ6) ?_
      refine ZG ?_
      obtain ⟨rZ7, hrZ7, h⟩ := bind_s h
      refine ZF cZ5 ?_
      refine ZU cZ5 (w_impl_copyInts _ hrZ7) ?_
      refine ZG ?_
      obtain ⟨kZ8, hkZ8, h⟩ := bind_s h
      obtain ⟨hkZ8a, hkZ8b⟩ := grd_s hkZ8
      obtain ⟨yZ9, hyZ9, h⟩ := bind_s h
      obtain ⟨lZ10, hlZ10, h⟩ := bnd_s h
      have eZ11 : (rZ6.map AV.i).set (Int.toNat groupZ0) (.i 0) = lZ10.map AV.i := by rw [← hlZ10, List.map_set]
      obtain ⟨kZ12, hkZ12, h⟩ := bind_s h
      obtain ⟨hkZ12a, hkZ12b⟩ := grd_s hkZ12
      obtain ⟨yZ13, hyZ13, h⟩ := bind_s h
      obtain ⟨lZ14, hlZ14, h⟩ := bnd_s h
      have eZ15 : (rZ7.map AV.i).set (Int.toNat groupZ0) (.i oZ0.Unit) = lZ14.map AV.i := by rw [← hlZ14, List.map_set]
      have nZ16 : sub (lZ10.map AV.i) 0 rZ6.length = lZ10.map AV.i := sub_n _ (by simp [← hlZ10, ← hlZ14])
      obtain ⟨rZ17, hrZ17, h⟩ := bind_s h
      refine ZF (ZA cZ5 (ZA hkZ8a (ZA hkZ8b (ZA hyZ9 (ZA eZ11 (ZA hkZ12a (ZA hkZ12b (ZA hyZ13 (ZA eZ15 nZ16))))))))) ?_
      refine ZS (ZA cZ5 (ZA hkZ8a (ZA hkZ8b (ZA hyZ9 (ZA eZ11 (ZA hkZ12a (ZA hkZ12b (ZA hyZ13 (ZA eZ15 nZ16))))))))) (w_impl_Outage_connection _ _ _ _ hrZ17) ?_
      refine ZG ?_
      have nZ18 : sub (lZ14.map AV.i) 0 rZ7.length = lZ14.map AV.i := sub_n _ (by simp [← hlZ10, ← hlZ14])
      obtain ⟨rZ19, hrZ19, h⟩ := bind_s h
      refine ZF (ZA cZ5 (ZA hkZ8a (ZA hkZ8b (ZA hyZ9 (ZA eZ11 (ZA hkZ12a (ZA hkZ12b (ZA hyZ13 (ZA eZ15 (ZA nZ16 nZ18)))))))))) ?_
      refine ZS (ZA cZ5 (ZA hkZ8a (ZA hkZ8b (ZA hyZ9 (ZA eZ11 (ZA hkZ12a (ZA hkZ12b (ZA hyZ13 (ZA eZ15 (ZA nZ16 nZ18)))))))))) (w_impl_Outage_connection _ _ _ _ hrZ19) ?_
      refine ZG ?_
      cases h
      exact ZL (ZA cZ5 (ZA hkZ8a (ZA hkZ8b (ZA hyZ9 (ZA eZ11 (ZA hkZ12a (ZA hkZ12b (ZA hyZ13 (ZA eZ15 (ZA nZ16 nZ18)))))))))) (ZA V35.eq_1 (ZA hlZ10.symm hlZ14.symm))
def S_laws_eqStringSL1 (aZ0 : List ByteArray) (bZ0 : List ByteArray) (v : Int) : St := ⟨[(0, .lst .o 1 (aZ0.map AV.z)), (1, .lst .o 1 (bZ0.map AV.z)), (5, .i v)], []⟩
def SX_laws_eqStringSL1 (v : Unit) : St := ⟨[], []⟩
theorem w_laws_eqStringSL1 (aZ0 : List ByteArray) (bZ0 : List ByteArray) (sZ2 : Int) (o : Int ⊕ (Unit ⊕ Bool)) (h : M_laws_eqStringSL1 aZ0 bZ0 sZ2 = some o) : AWP (OkS Try.prog) A70L1 (qL [0, 1, 5] [] (S_laws_eqStringSL1 aZ0 bZ0) (qS (qX 0 [] [] (SX_laws_eqStringSL1)) (qR V70 (fun r => .b r))) o) (S_laws_eqStringSL1 aZ0 bZ0 sZ2) := by
  unfold M_laws_eqStringSL1 at h
  simp only [ZC, S_laws_eqStringSL1, A70L1]
  obtain ⟨cZ3, h⟩ | ⟨cZ3, h⟩ := cond_s h
  · obtain ⟨yZ4, hyZ4, h⟩ := bind_s h
    obtain ⟨hyZ4a, hyZ4b⟩ := geti_s hyZ4
    obtain ⟨yZ5, hyZ5, h⟩ := bind_s h
    obtain ⟨hyZ5a, hyZ5b⟩ := geti_s hyZ5
    obtain ⟨cZ6, h⟩ | ⟨cZ6, h⟩ := cond_s h
    · cases h
      exact ZL (ZA cZ3 (ZA hyZ4a (ZA hyZ4b (ZA hyZ5a (ZA hyZ5b cZ6))))) V70.eq_1
    · cases h
      exact ZL (ZA cZ3 (ZA hyZ4a (ZA hyZ4b (ZA hyZ5a (ZA hyZ5b cZ6))))) (ZA S_laws_eqStringSL1.eq_1 SX_laws_eqStringSL1.eq_1)
  · cases h
    exact ZL cZ3 (ZA S_laws_eqStringSL1.eq_1 SX_laws_eqStringSL1.eq_1)
theorem w_laws_eqStringS (aZ0 : List ByteArray) (bZ0 : List ByteArray) {r : Bool} (h : M_laws_eqStringS aZ0 bZ0 = some r) : Ok Try.prog 70 [.lst .o 1 (aZ0.map AV.z), .lst .o 1 (bZ0.map AV.z)] ((fun r => .b r) r) := by
  refine ok_of_body hmix m70 rfl ?_
  unfold M_laws_eqStringS at h
  simp only [ZC, A70, V70, body_eq]
  obtain ⟨cZ1, h⟩ | ⟨cZ1, h⟩ := cond_s h
  · cases h
    exact ZL cZ1 V70.eq_1
  · obtain ⟨oZ7, hoZ7, h⟩ := bind_s h
    try refine ZF cZ1 ?_
    refine join_rule (o := oZ7) (blk_rule sideR (loop_rule (w_laws_eqStringSL1 aZ0 bZ0) hoZ7 ?_)) (fun vZ8 hv => ?_) (fun xZ9 hv e τ hne hq => ?_)
    · exact ZK (ZA S_laws_eqStringSL1.eq_1 SX_laws_eqStringSL1.eq_1)
    · subst hv
      simp only [] at h
      simp only [ZC, SX_laws_eqStringSL1, A70R2]
      cases h
      exact ZL cZ1 V70.eq_1
    · subst hv
      simp only [] at h
      obtain ⟨rfl, qZ10⟩ := hq
      cases h
      exact qZ10
theorem w_laws_eqFiber (aZ0 : TFiber) (bZ0 : TFiber) {r : Bool} (h : M_laws_eqFiber aZ0 bZ0 = some r) : Ok Try.prog 117 [.agg [.i aZ0.A, .i aZ0.B, .i aZ0.Length, .i aZ0.Risk], .agg [.i bZ0.A, .i bZ0.B, .i bZ0.Length, .i bZ0.Risk]] ((fun r => .b r) r) := by
  refine ok_of_body hmix m117 rfl ?_
  unfold M_laws_eqFiber at h
  simp only [ZC, A117, V117, body_eq]
  obtain ⟨cZ1, h⟩ | ⟨cZ1, h⟩ := cond_s h
  · cases h
    exact ZL cZ1 V117.eq_1
  · obtain ⟨cZ2, h⟩ | ⟨cZ2, h⟩ := cond_s h
    · cases h
      exact ZL (ZA cZ1 cZ2) V117.eq_1
    · obtain ⟨cZ3, h⟩ | ⟨cZ3, h⟩ := cond_s h
      · cases h
        exact ZL (ZA cZ1 (ZA cZ2 cZ3)) V117.eq_1
      · obtain ⟨cZ4, h⟩ | ⟨cZ4, h⟩ := cond_s h
        · cases h
          exact ZL (ZA cZ1 (ZA cZ2 (ZA cZ3 cZ4))) V117.eq_1
        · cases h
          exact ZL (ZA cZ1 (ZA cZ2 (ZA cZ3 cZ4))) V117.eq_1
def S_laws_eqFiberSL1 (aZ0 : List TFiber) (bZ0 : List TFiber) (v : Int) : St := ⟨[(0, .lst .o 4 (aZ0.map (e_TFiber .o))), (1, .lst .o 4 (bZ0.map (e_TFiber .o))), (5, .i v)], []⟩
def SX_laws_eqFiberSL1 (v : Unit) : St := ⟨[], []⟩
theorem w_laws_eqFiberSL1 (aZ0 : List TFiber) (bZ0 : List TFiber) (sZ2 : Int) (o : Int ⊕ (Unit ⊕ Bool)) (h : M_laws_eqFiberSL1 aZ0 bZ0 sZ2 = some o) : AWP (OkS Try.prog) A71L1 (qL [0, 1, 5] [] (S_laws_eqFiberSL1 aZ0 bZ0) (qS (qX 0 [] [] (SX_laws_eqFiberSL1)) (qR V71 (fun r => .b r))) o) (S_laws_eqFiberSL1 aZ0 bZ0 sZ2) := by
  unfold M_laws_eqFiberSL1 at h
  simp only [ZC, S_laws_eqFiberSL1, A71L1]
  obtain ⟨cZ3, h⟩ | ⟨cZ3, h⟩ := cond_s h
  · obtain ⟨yZ4, hyZ4, h⟩ := bind_s h
    obtain ⟨hyZ4a, hyZ4b⟩ := geti_s hyZ4
    obtain ⟨yZ5, hyZ5, h⟩ := bind_s h
    obtain ⟨hyZ5a, hyZ5b⟩ := geti_s hyZ5
    obtain ⟨rZ6, hrZ6, h⟩ := bind_s h
    refine ZF (ZA cZ3 (ZA hyZ4a (ZA hyZ4b (ZA hyZ5a hyZ5b)))) ?_
    refine ZS (ZA cZ3 (ZA hyZ4a (ZA hyZ4b (ZA hyZ5a hyZ5b)))) (w_laws_eqFiber _ _ hrZ6) ?_
    refine ZG ?_
    obtain ⟨cZ7, h⟩ | ⟨cZ7, h⟩ := cond_s h
    · cases h
      exact ZL (ZA cZ3 (ZA hyZ4a (ZA hyZ4b (ZA hyZ5a (ZA hyZ5b cZ7))))) V71.eq_1
    · cases h
      exact ZL (ZA cZ3 (ZA hyZ4a (ZA hyZ4b (ZA hyZ5a (ZA hyZ5b cZ7))))) (ZA S_laws_eqFiberSL1.eq_1 SX_laws_eqFiberSL1.eq_1)
  · cases h
    exact ZL cZ3 (ZA S_laws_eqFiberSL1.eq_1 SX_laws_eqFiberSL1.eq_1)
theorem w_laws_eqFiberS (aZ0 : List TFiber) (bZ0 : List TFiber) {r : Bool} (h : M_laws_eqFiberS aZ0 bZ0 = some r) : Ok Try.prog 71 [.lst .o 4 (aZ0.map (e_TFiber .o)), .lst .o 4 (bZ0.map (e_TFiber .o))] ((fun r => .b r) r) := by
  refine ok_of_body hmix m71 rfl ?_
  unfold M_laws_eqFiberS at h
  simp only [ZC, A71, V71, body_eq]
  obtain ⟨cZ1, h⟩ | ⟨cZ1, h⟩ := cond_s h
  · cases h
    exact ZL cZ1 V71.eq_1
  · obtain ⟨oZ8, hoZ8, h⟩ := bind_s h
    try refine ZF cZ1 ?_
    refine join_rule (o := oZ8) (blk_rule sideR (loop_rule (w_laws_eqFiberSL1 aZ0 bZ0) hoZ8 ?_)) (fun vZ9 hv => ?_) (fun xZ10 hv e τ hne hq => ?_)
    · exact ZK (ZA S_laws_eqFiberSL1.eq_1 SX_laws_eqFiberSL1.eq_1)
    · subst hv
      simp only [] at h
      simp only [ZC, SX_laws_eqFiberSL1, A71R2]
      cases h
      exact ZL cZ1 V71.eq_1
    · subst hv
      simp only [] at h
      obtain ⟨rfl, qZ11⟩ := hq
      cases h
      exact qZ11
theorem w_laws_eqNetwork (aZ0 : TNetwork) (bZ0 : TNetwork) {r : Bool} (h : M_laws_eqNetwork aZ0 bZ0 = some r) : Ok Try.prog 21 [.agg [.lst .o 1 (aZ0.Nodes.map AV.z), .lst .o 4 (aZ0.Fibers.map (e_TFiber .o))], .agg [.lst .o 1 (bZ0.Nodes.map AV.z), .lst .o 4 (bZ0.Fibers.map (e_TFiber .o))]] ((fun r => .b r) r) := by
  refine ok_of_body hmix m21 rfl ?_
  unfold M_laws_eqNetwork at h
  simp only [ZC, A21, V21, body_eq]
  obtain ⟨rZ1, hrZ1, h⟩ := bind_s h
  refine ZF trivial ?_
  refine ZS trivial (w_laws_eqStringS _ _ hrZ1) ?_
  refine ZG ?_
  obtain ⟨cZ2, h⟩ | ⟨cZ2, h⟩ := cond_s h
  · cases h
    exact ZL cZ2 V21.eq_1
  · obtain ⟨rZ3, hrZ3, h⟩ := bind_s h
    refine ZF cZ2 ?_
    refine ZS cZ2 (w_laws_eqFiberS _ _ hrZ3) ?_
    refine ZG ?_
    obtain ⟨cZ4, h⟩ | ⟨cZ4, h⟩ := cond_s h
    · cases h
      exact ZL (ZA cZ2 cZ4) V21.eq_1
    · cases h
      exact ZL (ZA cZ2 cZ4) V21.eq_1
def S_laws_eqIntSL1 (aZ0 : List Int) (bZ0 : List Int) (v : Int) : St := ⟨[(0, .lst .o 1 (aZ0.map AV.i)), (1, .lst .o 1 (bZ0.map AV.i)), (5, .i v)], []⟩
def SX_laws_eqIntSL1 (v : Unit) : St := ⟨[], []⟩
theorem w_laws_eqIntSL1 (aZ0 : List Int) (bZ0 : List Int) (sZ2 : Int) (o : Int ⊕ (Unit ⊕ Bool)) (h : M_laws_eqIntSL1 aZ0 bZ0 sZ2 = some o) : AWP (OkS Try.prog) A28L1 (qL [0, 1, 5] [] (S_laws_eqIntSL1 aZ0 bZ0) (qS (qX 0 [] [] (SX_laws_eqIntSL1)) (qR V28 (fun r => .b r))) o) (S_laws_eqIntSL1 aZ0 bZ0 sZ2) := by
  unfold M_laws_eqIntSL1 at h
  simp only [ZC, S_laws_eqIntSL1, A28L1]
  obtain ⟨cZ3, h⟩ | ⟨cZ3, h⟩ := cond_s h
  · obtain ⟨yZ4, hyZ4, h⟩ := bind_s h
    obtain ⟨hyZ4a, hyZ4b⟩ := geti_s hyZ4
    obtain ⟨yZ5, hyZ5, h⟩ := bind_s h
    obtain ⟨hyZ5a, hyZ5b⟩ := geti_s hyZ5
    obtain ⟨cZ6, h⟩ | ⟨cZ6, h⟩ := cond_s h
    · cases h
      exact ZL (ZA cZ3 (ZA hyZ4a (ZA hyZ4b (ZA hyZ5a (ZA hyZ5b cZ6))))) V28.eq_1
    · cases h
      exact ZL (ZA cZ3 (ZA hyZ4a (ZA hyZ4b (ZA hyZ5a (ZA hyZ5b cZ6))))) (ZA S_laws_eqIntSL1.eq_1 SX_laws_eqIntSL1.eq_1)
  · cases h
    exact ZL cZ3 (ZA S_laws_eqIntSL1.eq_1 SX_laws_eqIntSL1.eq_1)
theorem w_laws_eqIntS (aZ0 : List Int) (bZ0 : List Int) {r : Bool} (h : M_laws_eqIntS aZ0 bZ0 = some r) : Ok Try.prog 28 [.lst .o 1 (aZ0.map AV.i), .lst .o 1 (bZ0.map AV.i)] ((fun r => .b r) r) := by
  refine ok_of_body hmix m28 rfl ?_
  unfold M_laws_eqIntS at h
  simp only [ZC, A28, V28, body_eq]
  obtain ⟨cZ1, h⟩ | ⟨cZ1, h⟩ := cond_s h
  · cases h
    exact ZL cZ1 V28.eq_1
  · obtain ⟨oZ7, hoZ7, h⟩ := bind_s h
    try refine ZF cZ1 ?_
    refine join_rule (o := oZ7) (blk_rule sideR (loop_rule (w_laws_eqIntSL1 aZ0 bZ0) hoZ7 ?_)) (fun vZ8 hv => ?_) (fun xZ9 hv e τ hne hq => ?_)
    · exact ZK (ZA S_laws_eqIntSL1.eq_1 SX_laws_eqIntSL1.eq_1)
    · subst hv
      simp only [] at h
      simp only [ZC, SX_laws_eqIntSL1, A28R2]
      cases h
      exact ZL cZ1 V28.eq_1
    · subst hv
      simp only [] at h
      obtain ⟨rfl, qZ10⟩ := hq
      cases h
      exact qZ10
theorem w_laws_eqOutage (aZ0 : TOutage) (bZ0 : TOutage) {r : Bool} (h : M_laws_eqOutage aZ0 bZ0 = some r) : Ok Try.prog 22 [.agg [.i aZ0.Unit, .lst .o 1 (aZ0.Down.map AV.i)], .agg [.i bZ0.Unit, .lst .o 1 (bZ0.Down.map AV.i)]] ((fun r => .b r) r) := by
  refine ok_of_body hmix m22 rfl ?_
  unfold M_laws_eqOutage at h
  simp only [ZC, A22, V22, body_eq]
  obtain ⟨cZ1, h⟩ | ⟨cZ1, h⟩ := cond_s h
  · cases h
    exact ZL cZ1 V22.eq_1
  · obtain ⟨rZ2, hrZ2, h⟩ := bind_s h
    refine ZF cZ1 ?_
    refine ZS cZ1 (w_laws_eqIntS _ _ hrZ2) ?_
    refine ZG ?_
    obtain ⟨cZ3, h⟩ | ⟨cZ3, h⟩ := cond_s h
    · cases h
      exact ZL (ZA cZ1 cZ3) V22.eq_1
    · cases h
      exact ZL (ZA cZ1 cZ3) V22.eq_1
theorem w_laws_FnExactGroupImportance (aNZ0 : TNetwork) (aOZ0 : TOutage) (aFromZ0 : Int) (aToZ0 : Int) (aGroupZ0 : Int) {r : Bool} (h : M_laws_FnExactGroupImportance aNZ0 aOZ0 aFromZ0 aToZ0 aGroupZ0 = some r) : Ok Try.prog 9 [.agg [.lst .o 1 (aNZ0.Nodes.map AV.z), .lst .o 4 (aNZ0.Fibers.map (e_TFiber .o))], .agg [.i aOZ0.Unit, .lst .o 1 (aOZ0.Down.map AV.i)], .i aFromZ0, .i aToZ0, .i aGroupZ0] ((fun r => .b r) r) := by
  refine ok_of_body hmix m9 rfl ?_
  unfold M_laws_FnExactGroupImportance at h
  simp only [ZC, A9, V9, body_eq]
  obtain ⟨rZ1, hrZ1, h⟩ := bind_s h
  refine ZF trivial ?_
  refine ZS trivial (w_laws_szNetwork _ _ hrZ1) ?_
  refine ZG ?_
  obtain ⟨cZ2, h⟩ | ⟨cZ2, h⟩ := cond_s h
  · cases h
    exact ZL cZ2 V9.eq_1
  · obtain ⟨rZ3, hrZ3, h⟩ := bind_s h
    refine ZF cZ2 ?_
    refine ZS cZ2 (w_laws_szOutage _ _ hrZ3) ?_
    refine ZG ?_
    obtain ⟨cZ4, h⟩ | ⟨cZ4, h⟩ := cond_s h
    · cases h
      exact ZL (ZA cZ2 cZ4) V9.eq_1
    · obtain ⟨rZ5, hrZ5, h⟩ := bind_s h
      refine ZF (ZA cZ2 cZ4) ?_
      refine ZU (ZA cZ2 cZ4) (w_laws_toNetwork _ hrZ5) ?_
      refine ZG ?_
      obtain ⟨rZ6, hrZ6, h⟩ := bind_s h
      refine ZF (ZA cZ2 cZ4) ?_
      refine ZU (ZA cZ2 cZ4) (w_laws_toOutage _ hrZ6) ?_
      refine ZG ?_
      obtain ⟨rZ7, hrZ7, h⟩ := bind_s h
      refine ZF (ZA cZ2 cZ4) ?_
      refine ZU (ZA cZ2 cZ4) (w_spec_GroupImportance _ _ _ _ _ hrZ7) ?_
      refine ZG ?_
      obtain ⟨rZ8, hrZ8, h⟩ := bind_s h
      refine ZF (ZA cZ2 cZ4) ?_
      refine ZU (ZA cZ2 cZ4) (w_laws_toNetwork _ hrZ8) ?_
      refine ZG ?_
      obtain ⟨rZ9, hrZ9, h⟩ := bind_s h
      refine ZF (ZA cZ2 cZ4) ?_
      refine ZU (ZA cZ2 cZ4) (w_laws_toOutage _ hrZ9) ?_
      refine ZG ?_
      obtain ⟨rZ10, hrZ10, h⟩ := bind_s h
      refine ZF (ZA cZ2 cZ4) ?_
      refine ZU (ZA cZ2 cZ4) (w_impl_GroupImportance _ _ _ _ _ hrZ10) ?_
      refine ZG ?_
      obtain ⟨oZ12, hoZ12, h⟩ := bind_s h
      try refine ZF (ZA cZ2 cZ4) ?_
      refine join_rule0 (sh := (fun v => ⟨[(5, .pt 5 0 0), (6, .pt 6 0 0), (14, .pt 14 0 0), (15, .pt 15 0 0), (59, .b v)], [(5, .var (.agg [.lst .o 1 (aNZ0.Nodes.map AV.z), .lst .o 4 (aNZ0.Fibers.map (e_TFiber .o))])), (6, .var (.agg [.i aOZ0.Unit, .lst .o 1 (aOZ0.Down.map AV.i)])), (14, .var (.agg [.sl 40 0 rZ8.Nodes.length, .sl 1040 0 rZ8.Fibers.length])), (15, .var (.agg [.i rZ9.Unit, .sl 42 0 rZ9.Down.length])), (40, .arr 1 (rZ8.Nodes.map AV.z)), (42, .arr 1 (rZ9.Down.map AV.i)), (1040, .arr 4 (rZ8.Fibers.map (e_TFiber .u)))]⟩)) (s := oZ12) ?_ ?_
      · replace h := hoZ12
        obtain ⟨cZ11, h⟩ | ⟨cZ11, h⟩ := cond_s h
        · cases h
          exact ZL (ZA cZ2 (ZA cZ4 cZ11)) trivial
        · cases h
          exact ZL (ZA cZ2 (ZA cZ4 cZ11)) trivial
      · simp only [ZC, A9R1]
        obtain ⟨cZ13, h⟩ | ⟨cZ13, h⟩ := cond_s h
        · cases h
          exact ZL (ZA cZ2 (ZA cZ4 cZ13)) V9.eq_1
        · obtain ⟨rZ14, hrZ14, h⟩ := bind_s h
          refine ZF (ZA cZ2 (ZA cZ4 cZ13)) ?_
          refine ZU (ZA cZ2 (ZA cZ4 cZ13)) (w_laws_toNetwork _ hrZ14) ?_
          refine ZG ?_
          obtain ⟨rZ15, hrZ15, h⟩ := bind_s h
          refine ZF (ZA cZ2 (ZA cZ4 cZ13)) ?_
          refine ZS (ZA cZ2 (ZA cZ4 cZ13)) (w_laws_eqNetwork _ _ hrZ15) ?_
          refine ZG ?_
          obtain ⟨cZ16, h⟩ | ⟨cZ16, h⟩ := cond_s h
          · cases h
            exact ZL (ZA cZ2 (ZA cZ4 (ZA cZ13 cZ16))) V9.eq_1
          · obtain ⟨rZ17, hrZ17, h⟩ := bind_s h
            refine ZF (ZA cZ2 (ZA cZ4 (ZA cZ13 cZ16))) ?_
            refine ZU (ZA cZ2 (ZA cZ4 (ZA cZ13 cZ16))) (w_laws_toOutage _ hrZ17) ?_
            refine ZG ?_
            obtain ⟨rZ18, hrZ18, h⟩ := bind_s h
            refine ZF (ZA cZ2 (ZA cZ4 (ZA cZ13 cZ16))) ?_
            refine ZS (ZA cZ2 (ZA cZ4 (ZA cZ13 cZ16))) (w_laws_eqOutage _ _ hrZ18) ?_
            refine ZG ?_
            obtain ⟨cZ19, h⟩ | ⟨cZ19, h⟩ := cond_s h
            · cases h
              exact ZL (ZA cZ2 (ZA cZ4 (ZA cZ13 (ZA cZ16 cZ19)))) V9.eq_1
            · cases h
              exact ZL (ZA cZ2 (ZA cZ4 (ZA cZ13 (ZA cZ16 cZ19)))) V9.eq_1
end Vs

