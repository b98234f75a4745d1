/-
  Part of the proof that the law FnExactRouteAvailability returns true at every input; no condition beside the row's own.
-/
import Derived.Test.YtgafcocdchcgeaaAa
set_option linter.defProp false
set_option linter.unusedSimpArgs false
set_option linter.unusedVariables false
set_option maxHeartbeats 1000000
set_option maxRecDepth 8000
namespace Vs
open Go Go.Proofs
attribute [local irreducible] AWP stOps eff awpC callA callM
theorem VT1 : (∀ (f : Fl) (x : TFiber), e_TFiber f x = .agg [.i x.A, .i x.B, .i x.Length, .i x.Risk]) ∧
  (∀ (f : Fl) (x : TNetwork), e_TNetwork f x = .agg [.lst f 1 (x.Nodes.map AV.z), .lst f 4 (x.Fibers.map (e_TFiber f))]) ∧
  (∀ (f : Fl) (x : TOutage), e_TOutage f x = .agg [.i x.Unit, .lst f 1 (x.Down.map AV.i)]) ∧
  (∀ (f : Fl) (x : TRoute), e_TRoute f x = .agg [.i x.Start, .lst f 1 (x.Fibers.map AV.i)]) ∧
  (∀ (f : Fl) (x : List Int), e_Li f x = .lst f 1 (x.map AV.i)) := ⟨fun _ _ => rfl, fun _ _ => rfl, fun _ _ => rfl, fun _ _ => rfl, fun _ _ => rfl⟩
theorem VT2 : (∀ (f : Fl) (x : TFiber), (e_TFiber f x).nrm = e_TFiber .o x) ∧
  (∀ (f : Fl) (xs : List TFiber), (xs.map (e_TFiber f)).map AV.nrm = xs.map (e_TFiber .o)) ∧
  (∀ (f : Fl) (x : TFiber), (e_TFiber f x).als = e_TFiber f.als x) ∧
  (∀ (f : Fl) (xs : List TFiber), (xs.map (e_TFiber f)).map AV.als = xs.map (e_TFiber f.als)) ∧
  (∀ (f : Fl) (x : TFiber), (e_TFiber f x).fix = e_TFiber f.fix x) ∧
  (∀ (f : Fl) (xs : List TFiber), (xs.map (e_TFiber f)).map AV.fix = xs.map (e_TFiber f.fix)) ∧
  (∀ (f : Fl) (x : TNetwork), (e_TNetwork f x).nrm = e_TNetwork .o x) ∧
  (∀ (f : Fl) (xs : List TNetwork), (xs.map (e_TNetwork f)).map AV.nrm = xs.map (e_TNetwork .o)) ∧
  (∀ (f : Fl) (x : TNetwork), (e_TNetwork f x).als = e_TNetwork f.als x) ∧
  (∀ (f : Fl) (xs : List TNetwork), (xs.map (e_TNetwork f)).map AV.als = xs.map (e_TNetwork f.als)) ∧
  (∀ (f : Fl) (x : TNetwork), (e_TNetwork f x).fix = e_TNetwork f.fix x) ∧
  (∀ (f : Fl) (xs : List TNetwork), (xs.map (e_TNetwork f)).map AV.fix = xs.map (e_TNetwork f.fix)) ∧
  (∀ (f : Fl) (x : TOutage), (e_TOutage f x).nrm = e_TOutage .o x) ∧
  (∀ (f : Fl) (xs : List TOutage), (xs.map (e_TOutage f)).map AV.nrm = xs.map (e_TOutage .o)) ∧
  (∀ (f : Fl) (x : TOutage), (e_TOutage f x).als = e_TOutage f.als x) ∧
  (∀ (f : Fl) (xs : List TOutage), (xs.map (e_TOutage f)).map AV.als = xs.map (e_TOutage f.als)) ∧
  (∀ (f : Fl) (x : TOutage), (e_TOutage f x).fix = e_TOutage f.fix x) ∧
  (∀ (f : Fl) (xs : List TOutage), (xs.map (e_TOutage f)).map AV.fix = xs.map (e_TOutage f.fix)) ∧
  (∀ (f : Fl) (x : TRoute), (e_TRoute f x).nrm = e_TRoute .o x) ∧
  (∀ (f : Fl) (xs : List TRoute), (xs.map (e_TRoute f)).map AV.nrm = xs.map (e_TRoute .o)) ∧
  (∀ (f : Fl) (x : TRoute), (e_TRoute f x).als = e_TRoute f.als x) ∧
  (∀ (f : Fl) (xs : List TRoute), (xs.map (e_TRoute f)).map AV.als = xs.map (e_TRoute f.als)) ∧
  (∀ (f : Fl) (x : TRoute), (e_TRoute f x).fix = e_TRoute f.fix x) ∧
  (∀ (f : Fl) (xs : List TRoute), (xs.map (e_TRoute f)).map AV.fix = xs.map (e_TRoute f.fix)) ∧
  (∀ (f : Fl) (x : List Int), (e_Li f x).nrm = e_Li .o x) ∧
  (∀ (f : Fl) (xs : List (List Int)), (xs.map (e_Li f)).map AV.nrm = xs.map (e_Li .o)) ∧
  (∀ (f : Fl) (x : List Int), (e_Li f x).als = e_Li f.als x) ∧
  (∀ (f : Fl) (xs : List (List Int)), (xs.map (e_Li f)).map AV.als = xs.map (e_Li f.als)) ∧
  (∀ (f : Fl) (x : List Int), (e_Li f x).fix = e_Li f.fix x) ∧
  (∀ (f : Fl) (xs : List (List Int)), (xs.map (e_Li f)).map AV.fix = xs.map (e_Li f.fix)) :=
  ⟨@e_TFiber_nrm, @e_TFiber_nrmm, @e_TFiber_als, @e_TFiber_alsm, @e_TFiber_fix, @e_TFiber_fixm, @e_TNetwork_nrm, @e_TNetwork_nrmm, @e_TNetwork_als, @e_TNetwork_alsm, @e_TNetwork_fix, @e_TNetwork_fixm, @e_TOutage_nrm, @e_TOutage_nrmm, @e_TOutage_als, @e_TOutage_alsm, @e_TOutage_fix, @e_TOutage_fixm, @e_TRoute_nrm, @e_TRoute_nrmm, @e_TRoute_als, @e_TRoute_alsm, @e_TRoute_fix, @e_TRoute_fixm, @e_Li_nrm, @e_Li_nrmm, @e_Li_als, @e_Li_alsm, @e_Li_fix, @e_Li_fixm⟩
theorem VF1 : (∀ (f : Fl) (x : TFiber), (e_TFiber f x).fix = e_TFiber f.fix x) ∧
  (∀ (f : Fl) (xs : List TFiber), (xs.map (e_TFiber f)).map AV.fix = xs.map (e_TFiber f.fix)) ∧
  (∀ (f : Fl) (x : TNetwork), (e_TNetwork f x).fix = e_TNetwork f.fix x) ∧
  (∀ (f : Fl) (xs : List TNetwork), (xs.map (e_TNetwork f)).map AV.fix = xs.map (e_TNetwork f.fix)) ∧
  (∀ (f : Fl) (x : TOutage), (e_TOutage f x).fix = e_TOutage f.fix x) ∧
  (∀ (f : Fl) (xs : List TOutage), (xs.map (e_TOutage f)).map AV.fix = xs.map (e_TOutage f.fix)) ∧
  (∀ (f : Fl) (x : TRoute), (e_TRoute f x).fix = e_TRoute f.fix x) ∧
  (∀ (f : Fl) (xs : List TRoute), (xs.map (e_TRoute f)).map AV.fix = xs.map (e_TRoute f.fix)) ∧
  (∀ (f : Fl) (x : List Int), (e_Li f x).fix = e_Li f.fix x) ∧
  (∀ (f : Fl) (xs : List (List Int)), (xs.map (e_Li f)).map AV.fix = xs.map (e_Li f.fix)) :=
  ⟨@e_TFiber_fix, @e_TFiber_fixm, @e_TNetwork_fix, @e_TNetwork_fixm, @e_TOutage_fix, @e_TOutage_fixm, @e_TRoute_fix, @e_TRoute_fixm, @e_Li_fix, @e_Li_fixm⟩
theorem VZ1 : (∀ (x : TFiber), (e_TFiber .o x).fz = true) ∧
  (∀ (xs : List TFiber), fzL (xs.map (e_TFiber .o)) = true) ∧
  (∀ (x : TFiber), (e_TFiber .u x).ouB = true) ∧
  (∀ (xs : List TFiber), ouBL (xs.map (e_TFiber .u)) = true) ∧
  (∀ (x : TNetwork), (e_TNetwork .o x).fz = true) ∧
  (∀ (xs : List TNetwork), fzL (xs.map (e_TNetwork .o)) = true) ∧
  (∀ (x : TNetwork), (e_TNetwork .u x).ouB = true) ∧
  (∀ (xs : List TNetwork), ouBL (xs.map (e_TNetwork .u)) = true) ∧
  (∀ (x : TOutage), (e_TOutage .o x).fz = true) ∧
  (∀ (xs : List TOutage), fzL (xs.map (e_TOutage .o)) = true) ∧
  (∀ (x : TOutage), (e_TOutage .u x).ouB = true) ∧
  (∀ (xs : List TOutage), ouBL (xs.map (e_TOutage .u)) = true) ∧
  (∀ (x : TRoute), (e_TRoute .o x).fz = true) ∧
  (∀ (xs : List TRoute), fzL (xs.map (e_TRoute .o)) = true) ∧
  (∀ (x : TRoute), (e_TRoute .u x).ouB = true) ∧
  (∀ (xs : List TRoute), ouBL (xs.map (e_TRoute .u)) = true) ∧
  (∀ (x : List Int), (e_Li .o x).fz = true) ∧
  (∀ (xs : List (List Int)), fzL (xs.map (e_Li .o)) = true) ∧
  (∀ (x : List Int), (e_Li .u x).ouB = true) ∧
  (∀ (xs : List (List Int)), ouBL (xs.map (e_Li .u)) = true) :=
  ⟨@e_TFiber_fz, @e_TFiber_fzm, @e_TFiber_ou, @e_TFiber_oum, @e_TNetwork_fz, @e_TNetwork_fzm, @e_TNetwork_ou, @e_TNetwork_oum, @e_TOutage_fz, @e_TOutage_fzm, @e_TOutage_ou, @e_TOutage_oum, @e_TRoute_fz, @e_TRoute_fzm, @e_TRoute_ou, @e_TRoute_oum, @e_Li_fz, @e_Li_fzm, @e_Li_ou, @e_Li_oum⟩
theorem Zr {α : Type} (n : Nat) (a : α) : (List.replicate n a).length = n := List.length_replicate
theorem ZA {A B : Prop} (a : A) (b : B) : A ∧ B := ⟨a, b⟩
theorem ZF {A : Prop} (a : A) {P Q : Prop} (k : Q) (e : A → P = Q := by intro a; simp only [VS1, VS2, VS3, VS4, VS5, VS6, VT1, VT2, finM_ret, finM_nrm, decide_true, decide_false, List.nodup_nil, List.nodup_cons, oks_p, oks_m, oks_h, ne_eq, not_false_eq_true, Int.reduceEq, Int.reduceNe, true_and, Nat.reduceSub, Nat.reduceMul, ↓reduceIte, reduceCtorEq, Nat.reduceEqDiff, Nat.reduceAdd, Nat.reduceLeDiff, Int.reduceLE, a]; exact Eq.refl _) : P := (e a).mpr k
theorem ZG {P Q : Prop} (k : Q) (e : P = Q := by simp only [VA, VF1, ↓reduceIte, Nat.reduceEqDiff, Nat.reduceAdd, Nat.reduceMul, Nat.reduceSub, Nat.reduceLeDiff]; exact Eq.refl _) : P := e.mpr k
theorem ZL {A : Prop} (a : A) {B : Prop} (b : B) {P : Prop} (e : A → B → P := by intro a b; (try simp only [VS1, VS2, VS3, VS4, VS5, VS6, VT1, VT2, finM_ret, finM_nrm, decide_true, decide_false, List.nodup_nil, List.nodup_cons, oks_p, oks_m, oks_h, ne_eq, not_false_eq_true, Int.reduceEq, Int.reduceNe, true_and, Nat.reduceSub, Nat.reduceMul, ↓reduceIte, reduceCtorEq, Nat.reduceEqDiff, Nat.reduceAdd, Nat.reduceLeDiff, Int.reduceLE, a]); all_goals simp [qL, qJ, qJ0, qS, qX, qR, qM, Shp, sub, tupd, finM_ret, finM_nrm, VS1, VS2, VS3, VS4, VS5, VS6, VT1, VT2, b]) : P := e a b
theorem ZK {B : Prop} (b : B) {P : Prop} (e : B → P := by intro b; simp [qL, qJ, qJ0, qS, qX, qR, qM, Shp, sub, tupd, finM_ret, finM_nrm, VS1, VS2, VS3, VS4, VS5, VS6, VT1, VT2, b]) : P := e b
theorem ZS {A : Prop} (a : A) {W : Prop} (w : W) {ok : Oks} {ρ : Nat → Option Row} {d f : Nat} {args : List AV} {K : AV → List (Nat × Row) → Prop} {v : Value} (hk : K (.sc v) [])
    (e : A → W → ok.p f (args.map (snp ρ 4)) (.sc v) := by intro a w; simp only [VS1, VS2, VS3, VS4, VS5, VS6, VT1, VT2, finM_ret, finM_nrm, decide_true, decide_false, List.nodup_nil, List.nodup_cons, oks_p, oks_m, oks_h, ne_eq, not_false_eq_true, Int.reduceEq, Int.reduceNe, true_and, Nat.reduceSub, Nat.reduceMul, ↓reduceIte, reduceCtorEq, Nat.reduceEqDiff, Nat.reduceAdd, Nat.reduceLeDiff, Int.reduceLE, a]; exact w) : callA ok ρ d f args K := call_s (e a w) hk
theorem ZU {A : Prop} (a : A) {W : Prop} (w : W) {ok : Oks} {ρ : Nat → Option Row} {d f : Nat} {args : List AV} {K : AV → List (Nat × Row) → Prop} {res : AV} (hk : K (adopt 4 d res).1 (adopt 4 d res).2.1)
    (e : A → W → ok.p f (args.map (snp ρ 4)) res := by intro a w; simp only [VS1, VS2, VS3, VS4, VS5, VS6, VT1, VT2, finM_ret, finM_nrm, decide_true, decide_false, List.nodup_nil, List.nodup_cons, oks_p, oks_m, oks_h, ne_eq, not_false_eq_true, Int.reduceEq, Int.reduceNe, true_and, Nat.reduceSub, Nat.reduceMul, ↓reduceIte, reduceCtorEq, Nat.reduceEqDiff, Nat.reduceAdd, Nat.reduceLeDiff, Int.reduceLE, a]; exact w) (hu : res.allU := by simp [AV.allU, allUL, allUL_iff, VT1, VT2]) (hn : ∀ p ∈ (adopt 4 d res).2.1, ρ p.1 = none ∧ p.1 < 1000000000 := by simp only [VS1, VS2, VS3, VS4, VS5, VS6, VT1, VT2, finM_ret, finM_nrm, decide_true, decide_false, List.nodup_nil, List.nodup_cons, oks_p, oks_m, oks_h, ne_eq, not_false_eq_true, Int.reduceEq, Int.reduceNe, true_and, Nat.reduceSub, Nat.reduceMul, ↓reduceIte, reduceCtorEq, Nat.reduceEqDiff, Nat.reduceAdd, Nat.reduceLeDiff, Int.reduceLE, Nat.reduceLT]) : callA ok ρ d f args K := call_u (e a w) hu hn hk
theorem ZQ {P : Prop} (e : P := by simp [VS1, VS2, VS3, VS4, VS5, VS6, VT1, VT2]) : P := e
theorem ZW {A : Prop} (a : A) {W : Prop} (w : W) {ok : Oks} {ρ : Nat → Option Row} {d f : Nat} {args : List AV} {rs : List Nat} {K : AV → List (Nat × Row) → Prop} {res : AV} {outs : List (Nat × Row)}
    (e : A → W → ok.m f (args.map (AV.rg (cnm rs))) (rs.map (rowIn ρ rs)) res outs := by intro a w; simp only [VS1, VS2, VS3, VS4, VS5, VS6, VT1, VT2, finM_ret, finM_nrm, decide_true, decide_false, List.nodup_nil, List.nodup_cons, oks_p, oks_m, oks_h, ne_eq, not_false_eq_true, Int.reduceEq, Int.reduceNe, true_and, Nat.reduceSub, Nat.reduceMul, ↓reduceIte, reduceCtorEq, Nat.reduceEqDiff, Nat.reduceAdd, Nat.reduceLeDiff, Int.reduceLE, a]; first | exact w | (simp only [VS1, VS2, VS3, VS4, VS5, VS6, VT1, VT2, finM_ret, finM_nrm, decide_true, decide_false, List.nodup_nil, List.nodup_cons, oks_p, oks_m, oks_h, ne_eq, not_false_eq_true, Int.reduceEq, Int.reduceNe, true_and, Nat.reduceSub, Nat.reduceMul, ↓reduceIte, reduceCtorEq, Nat.reduceEqDiff, Nat.reduceAdd, Nat.reduceLeDiff, Int.reduceLE, a] at w; exact w))
    (h1 : rs.Nodup ∧ (∀ r ∈ rs, isLive (ρ r)) ∧ (∀ r ∈ rs, ∀ q ∈ oments (ρ r), q ∈ rs) ∧ (∀ r ∈ mentsL args, r ∈ rs) := by simp [VS1, VS2, VS3, VS4, VS5, VS6, VT1, VT2])
    (h2 : (outs.map fun p => bkn d rs p.1).Nodup ∧ (∀ p ∈ outs, 1000000000 ≤ p.1 → p.1 - 1000000000 < rs.length) ∧ (∀ p ∈ outs, p.1 < 1000000000 → ρ (bkn d rs p.1) = none ∧ bkn d rs p.1 < 1000000000))
    (hk : K (res.rg (bkn d rs)) (gone rs ++ outs.map (rowBk d rs))) : callM ok ρ d f args rs K := call_m (e a w) h1 h2 hk
def S_laws_szStringSL1 (aZ0 : List ByteArray) (v : Int × Int) : St := ⟨[(0, .lst .o 1 (aZ0.map AV.z)), (1, .i v.1), (5, .i v.2)], []⟩
def SX_laws_szStringSL1 (v : Int) : St := ⟨[(1, .i v)], []⟩
theorem w_laws_szStringSL1 (aZ0 : List ByteArray) (sZ2 : Int × Int) (o : (Int × Int) ⊕ (Int ⊕ Int)) (h : M_laws_szStringSL1 aZ0 sZ2 = some o) : AWP (OkS Try.prog) A59L1 (qL [0, 1, 5] [] (S_laws_szStringSL1 aZ0) (qS (qX 0 [1] [] (SX_laws_szStringSL1)) (qR V59 (fun r => .i r))) o) (S_laws_szStringSL1 aZ0 sZ2) := by
  unfold M_laws_szStringSL1 at h
  simp only [ZC, S_laws_szStringSL1, A59L1]
  obtain ⟨cZ3, h⟩ | ⟨cZ3, h⟩ := cond_s h
  · obtain ⟨yZ4, hyZ4, h⟩ := bind_s h
    obtain ⟨hyZ4a, hyZ4b⟩ := geti_s hyZ4
    obtain ⟨cZ5, h⟩ | ⟨cZ5, h⟩ := cond_s h
    · cases h
      exact ZL (ZA cZ3 (ZA hyZ4a (ZA hyZ4b cZ5))) V59.eq_1
    · cases h
      exact ZL (ZA cZ3 (ZA hyZ4a (ZA hyZ4b cZ5))) (ZA S_laws_szStringSL1.eq_1 SX_laws_szStringSL1.eq_1)
  · cases h
    exact ZL cZ3 (ZA S_laws_szStringSL1.eq_1 SX_laws_szStringSL1.eq_1)
theorem w_laws_szStringS (aZ0 : List ByteArray) (leftZ0 : Int) {r : Int} (h : M_laws_szStringS aZ0 leftZ0 = some r) : Ok Try.prog 59 [.lst .o 1 (aZ0.map AV.z), .i leftZ0] ((fun r => .i r) r) := by
  refine ok_of_body hmix m59 rfl ?_
  unfold M_laws_szStringS at h
  simp only [ZC, A59, V59, body_eq]
  obtain ⟨cZ1, h⟩ | ⟨cZ1, h⟩ := cond_s h
  · cases h
    exact ZL cZ1 V59.eq_1
  · obtain ⟨oZ6, hoZ6, h⟩ := bind_s h
    try refine ZF cZ1 ?_
    refine join_rule (o := oZ6) (blk_rule sideR (loop_rule (w_laws_szStringSL1 aZ0) hoZ6 ?_)) (fun vZ7 hv => ?_) (fun xZ8 hv e τ hne hq => ?_)
    · exact ZK (ZA S_laws_szStringSL1.eq_1 SX_laws_szStringSL1.eq_1)
    · subst hv
      simp only [] at h
      simp only [ZC, SX_laws_szStringSL1, A59R2]
      cases h
      exact ZL cZ1 V59.eq_1
    · subst hv
      simp only [] at h
      obtain ⟨rfl, qZ9⟩ := hq
      cases h
      exact qZ9
theorem w_laws_szFiberS (aZ0 : List TFiber) (leftZ0 : Int) {r : Int} (h : M_laws_szFiberS aZ0 leftZ0 = some r) : Ok Try.prog 60 [.lst .o 4 (aZ0.map (e_TFiber .o)), .i leftZ0] ((fun r => .i r) r) := by
  refine ok_of_body hmix m60 rfl ?_
  unfold M_laws_szFiberS at h
  simp only [ZC, A60, V60, body_eq]
  obtain ⟨cZ1, h⟩ | ⟨cZ1, h⟩ := cond_s h
  · cases h
    exact ZL cZ1 V60.eq_1
  · cases h
    exact ZL cZ1 V60.eq_1
theorem w_laws_szNetwork (aZ0 : TNetwork) (leftZ0 : Int) {r : Int} (h : M_laws_szNetwork aZ0 leftZ0 = some r) : Ok Try.prog 15 [.agg [.lst .o 1 (aZ0.Nodes.map AV.z), .lst .o 4 (aZ0.Fibers.map (e_TFiber .o))], .i leftZ0] ((fun r => .i r) r) := by
  refine ok_of_body hmix m15 rfl ?_
  unfold M_laws_szNetwork at h
  simp only [ZC, A15, V15, body_eq]
  obtain ⟨rZ1, hrZ1, h⟩ := bind_s h
  refine ZF trivial ?_
  refine ZS trivial (w_laws_szStringS _ _ hrZ1) ?_
  refine ZG ?_
  obtain ⟨cZ2, h⟩ | ⟨cZ2, h⟩ := cond_s h
  · cases h
    exact ZL cZ2 V15.eq_1
  · obtain ⟨rZ3, hrZ3, h⟩ := bind_s h
    refine ZF cZ2 ?_
    refine ZS cZ2 (w_laws_szFiberS _ _ hrZ3) ?_
    refine ZG ?_
    obtain ⟨cZ4, h⟩ | ⟨cZ4, h⟩ := cond_s h
    · cases h
      exact ZL (ZA cZ2 cZ4) V15.eq_1
    · cases h
      exact ZL (ZA cZ2 cZ4) V15.eq_1
theorem w_laws_szIntS (aZ0 : List Int) (leftZ0 : Int) {r : Int} (h : M_laws_szIntS aZ0 leftZ0 = some r) : Ok Try.prog 61 [.lst .o 1 (aZ0.map AV.i), .i leftZ0] ((fun r => .i r) r) := by
  refine ok_of_body hmix m61 rfl ?_
  unfold M_laws_szIntS at h
  simp only [ZC, A61, V61, body_eq]
  obtain ⟨cZ1, h⟩ | ⟨cZ1, h⟩ := cond_s h
  · cases h
    exact ZL cZ1 V61.eq_1
  · cases h
    exact ZL cZ1 V61.eq_1
theorem w_laws_szOutage (aZ0 : TOutage) (leftZ0 : Int) {r : Int} (h : M_laws_szOutage aZ0 leftZ0 = some r) : Ok Try.prog 16 [.agg [.i aZ0.Unit, .lst .o 1 (aZ0.Down.map AV.i)], .i leftZ0] ((fun r => .i r) r) := by
  refine ok_of_body hmix m16 rfl ?_
  unfold M_laws_szOutage at h
  simp only [ZC, A16, V16, body_eq]
  obtain ⟨rZ1, hrZ1, h⟩ := bind_s h
  refine ZF trivial ?_
  refine ZS trivial (w_laws_szIntS _ _ hrZ1) ?_
  refine ZG ?_
  obtain ⟨cZ2, h⟩ | ⟨cZ2, h⟩ := cond_s h
  · cases h
    exact ZL cZ2 V16.eq_1
  · cases h
    exact ZL cZ2 V16.eq_1
theorem w_laws_szRoute (aZ0 : TRoute) (leftZ0 : Int) {r : Int} (h : M_laws_szRoute aZ0 leftZ0 = some r) : Ok Try.prog 50 [.agg [.i aZ0.Start, .lst .o 1 (aZ0.Fibers.map AV.i)], .i leftZ0] ((fun r => .i r) r) := by
  refine ok_of_body hmix m50 rfl ?_
  unfold M_laws_szRoute at h
  simp only [ZC, A50, V50, body_eq]
  obtain ⟨rZ1, hrZ1, h⟩ := bind_s h
  refine ZF trivial ?_
  refine ZS trivial (w_laws_szIntS _ _ hrZ1) ?_
  refine ZG ?_
  obtain ⟨cZ2, h⟩ | ⟨cZ2, h⟩ := cond_s h
  · cases h
    exact ZL cZ2 V50.eq_1
  · cases h
    exact ZL cZ2 V50.eq_1
def S_laws_toStringSL1 (aZ0 : List ByteArray) (v : Int × List ByteArray) : St := ⟨[(0, .lst .o 1 (aZ0.map AV.z)), (3, .sl 3 0 v.2.length), (4, .i v.1)], [(3, .arr 1 (v.2.map AV.z))]⟩
def SX_laws_toStringSL1 (v : List ByteArray) : St := ⟨[(3, .sl 3 0 v.length)], [(3, .arr 1 (v.map AV.z))]⟩
theorem w_laws_toStringSL1 (aZ0 : List ByteArray) (sZ4 : Int × List ByteArray) (o : (Int × List ByteArray) ⊕ (List ByteArray)) (h : M_laws_toStringSL1 aZ0 sZ4 = some o) : AWP (OkS Try.prog) A63L1 (qL [0, 3, 4] [3] (S_laws_toStringSL1 aZ0) (qX 0 [3] [3] (SX_laws_toStringSL1)) o) (S_laws_toStringSL1 aZ0 sZ4) := by
  unfold M_laws_toStringSL1 at h
  simp only [ZC, S_laws_toStringSL1, A63L1]
  obtain ⟨cZ5, h⟩ | ⟨cZ5, h⟩ := cond_s h
  · obtain ⟨yZ6, hyZ6, h⟩ := bind_s h
    obtain ⟨hyZ6a, hyZ6b⟩ := geti_s hyZ6
    obtain ⟨kZ7, hkZ7, h⟩ := bind_s h
    obtain ⟨hkZ7a, hkZ7b⟩ := grd_s hkZ7
    obtain ⟨yZ8, hyZ8, h⟩ := bind_s h
    obtain ⟨lZ9, hlZ9, h⟩ := bnd_s h
    have eZ10 : (sZ4.2.map AV.z).set (Int.toNat sZ4.1) (.z yZ6) = lZ9.map AV.z := by rw [← hlZ9, List.map_set]
    cases h
    exact ZL (ZA cZ5 (ZA hyZ6a (ZA hyZ6b (ZA hkZ7a (ZA hkZ7b (ZA hyZ8 eZ10)))))) (ZA S_laws_toStringSL1.eq_1 (ZA SX_laws_toStringSL1.eq_1 hlZ9.symm))
  · cases h
    exact ZL cZ5 (ZA S_laws_toStringSL1.eq_1 SX_laws_toStringSL1.eq_1)
theorem w_laws_toStringS (aZ0 : List ByteArray) {r : List ByteArray} (h : M_laws_toStringS aZ0 = some r) : Ok Try.prog 63 [.lst .o 1 (aZ0.map AV.z)] ((fun r => .lst .u 1 (r.map AV.z)) r) := by
  refine ok_of_body hmix m63 rfl ?_
  unfold M_laws_toStringS at h
  simp only [ZC, A63, V63, body_eq]
  obtain ⟨uZ1, huZ1, h⟩ := bind_s h
  obtain ⟨huZ11, huZ12, huZ13, huZ14⟩ := grd_s huZ1
  obtain ⟨lZ2, hlZ2, h⟩ := bnd_s h
  have eZ3 : List.replicate (Int.toNat (aZ0.length : Int)) (.z (⟨#[]⟩ : ByteArray) : AV) = lZ2.map AV.z := by rw [← hlZ2, List.map_replicate]
  obtain ⟨oZ11, hoZ11, h⟩ := bind_s h
  try refine ZF (ZA huZ11 (ZA huZ12 (ZA huZ13 (ZA huZ14 eZ3)))) ?_
  refine join_rule0 (blk_rule0 (loop_rule (w_laws_toStringSL1 aZ0) hoZ11 ?_)) ?_
  · exact ZK (ZA S_laws_toStringSL1.eq_1 (ZA SX_laws_toStringSL1.eq_1 (ZA hlZ2.symm @Zr)))
  · simp only [ZC, SX_laws_toStringSL1, A63R2]
    cases h
    exact ZL (ZA huZ11 (ZA huZ12 (ZA huZ13 (ZA huZ14 eZ3)))) V63.eq_1
theorem w_laws_toFiber (aZ0 : TFiber) {r : TFiber} (h : M_laws_toFiber aZ0 = some r) : Ok Try.prog 112 [.agg [.i aZ0.A, .i aZ0.B, .i aZ0.Length, .i aZ0.Risk]] ((fun r => .agg [.i r.A, .i r.B, .i r.Length, .i r.Risk]) r) := by
  refine ok_of_body hmix m112 rfl ?_
  unfold M_laws_toFiber at h
  simp only [ZC, A112, V112, body_eq]
  cases h
  exact ZL trivial V112.eq_1
def S_laws_toFiberSL1 (aZ0 : List TFiber) (v : Int × List TFiber) : St := ⟨[(0, .lst .o 4 (aZ0.map (e_TFiber .o))), (3, .sl 3 0 v.2.length), (4, .i v.1)], [(3, .arr 4 (v.2.map (e_TFiber .u)))]⟩
def SX_laws_toFiberSL1 (v : List TFiber) : St := ⟨[(3, .sl 3 0 v.length)], [(3, .arr 4 (v.map (e_TFiber .u)))]⟩
theorem w_laws_toFiberSL1 (aZ0 : List TFiber) (sZ4 : Int × List TFiber) (o : (Int × List TFiber) ⊕ (List TFiber)) (h : M_laws_toFiberSL1 aZ0 sZ4 = some o) : AWP (OkS Try.prog) A64L1 (qL [0, 3, 4] [3] (S_laws_toFiberSL1 aZ0) (qX 0 [3] [3] (SX_laws_toFiberSL1)) o) (S_laws_toFiberSL1 aZ0 sZ4) := by
  unfold M_laws_toFiberSL1 at h
  simp only [ZC, S_laws_toFiberSL1, A64L1]
  obtain ⟨cZ5, h⟩ | ⟨cZ5, h⟩ := cond_s h
  · obtain ⟨yZ6, hyZ6, h⟩ := bind_s h
    obtain ⟨hyZ6a, hyZ6b⟩ := geti_s hyZ6
    obtain ⟨rZ7, hrZ7, h⟩ := bind_s h
    refine ZF (ZA cZ5 (ZA hyZ6a hyZ6b)) ?_
    refine ZU (ZA cZ5 (ZA hyZ6a hyZ6b)) (w_laws_toFiber _ hrZ7) ?_
    refine ZG ?_
    obtain ⟨kZ8, hkZ8, h⟩ := bind_s h
    obtain ⟨hkZ8a, hkZ8b⟩ := grd_s hkZ8
    obtain ⟨yZ9, hyZ9, h⟩ := bind_s h
    obtain ⟨lZ10, hlZ10, h⟩ := bnd_s h
    have eZ11 : (sZ4.2.map (e_TFiber .u)).set (Int.toNat sZ4.1) (.agg [.i rZ7.A, .i rZ7.B, .i rZ7.Length, .i rZ7.Risk]) = lZ10.map (e_TFiber .u) := by rw [← hlZ10, List.map_set]; rfl
    cases h
    exact ZL (ZA cZ5 (ZA hyZ6a (ZA hyZ6b (ZA hkZ8a (ZA hkZ8b (ZA hyZ9 eZ11)))))) (ZA S_laws_toFiberSL1.eq_1 (ZA SX_laws_toFiberSL1.eq_1 hlZ10.symm))
  · cases h
    exact ZL cZ5 (ZA S_laws_toFiberSL1.eq_1 SX_laws_toFiberSL1.eq_1)
theorem w_laws_toFiberS (aZ0 : List TFiber) {r : List TFiber} (h : M_laws_toFiberS aZ0 = some r) : Ok Try.prog 64 [.lst .o 4 (aZ0.map (e_TFiber .o))] ((fun r => .lst .u 4 (r.map (e_TFiber .u))) r) := by
  refine ok_of_body hmix m64 rfl ?_
  unfold M_laws_toFiberS at h
  simp only [ZC, A64, V64, body_eq]
  obtain ⟨uZ1, huZ1, h⟩ := bind_s h
  obtain ⟨huZ11, huZ12, huZ13, huZ14⟩ := grd_s huZ1
  obtain ⟨lZ2, hlZ2, h⟩ := bnd_s h
  have eZ3 : List.replicate (Int.toNat (aZ0.length : Int)) (.agg [.i 0, .i 0, .i 0, .i 0] : AV) = lZ2.map (e_TFiber .u) := by rw [← hlZ2, List.map_replicate]; rfl
  obtain ⟨oZ12, hoZ12, h⟩ := bind_s h
  try refine ZF (ZA huZ11 (ZA huZ12 (ZA huZ13 (ZA huZ14 eZ3)))) ?_
  refine join_rule0 (blk_rule0 (loop_rule (w_laws_toFiberSL1 aZ0) hoZ12 ?_)) ?_
  · exact ZK (ZA S_laws_toFiberSL1.eq_1 (ZA SX_laws_toFiberSL1.eq_1 (ZA hlZ2.symm @Zr)))
  · simp only [ZC, SX_laws_toFiberSL1, A64R2]
    cases h
    exact ZL (ZA huZ11 (ZA huZ12 (ZA huZ13 (ZA huZ14 eZ3)))) V64.eq_1
theorem w_laws_toNetwork (aZ0 : TNetwork) {r : TNetwork} (h : M_laws_toNetwork aZ0 = some r) : Ok Try.prog 18 [.agg [.lst .o 1 (aZ0.Nodes.map AV.z), .lst .o 4 (aZ0.Fibers.map (e_TFiber .o))]] ((fun r => .agg [.lst .u 1 (r.Nodes.map AV.z), .lst .u 4 (r.Fibers.map (e_TFiber .u))]) r) := by
  refine ok_of_body hmix m18 rfl ?_
  unfold M_laws_toNetwork at h
  simp only [ZC, A18, V18, body_eq]
  obtain ⟨rZ1, hrZ1, h⟩ := bind_s h
  refine ZF trivial ?_
  refine ZU trivial (w_laws_toStringS _ hrZ1) ?_
  refine ZG ?_
  obtain ⟨rZ2, hrZ2, h⟩ := bind_s h
  refine ZF trivial ?_
  refine ZU trivial (w_laws_toFiberS _ hrZ2) ?_
  refine ZG ?_
  cases h
  exact ZL trivial V18.eq_1
def S_laws_toIntSL1 (aZ0 : List Int) (v : Int × List Int) : St := ⟨[(0, .lst .o 1 (aZ0.map AV.i)), (3, .sl 3 0 v.2.length), (4, .i v.1)], [(3, .arr 1 (v.2.map AV.i))]⟩
def SX_laws_toIntSL1 (v : List Int) : St := ⟨[(3, .sl 3 0 v.length)], [(3, .arr 1 (v.map AV.i))]⟩
theorem w_laws_toIntSL1 (aZ0 : List Int) (sZ4 : Int × List Int) (o : (Int × List Int) ⊕ (List Int)) (h : M_laws_toIntSL1 aZ0 sZ4 = some o) : AWP (OkS Try.prog) A26L1 (qL [0, 3, 4] [3] (S_laws_toIntSL1 aZ0) (qX 0 [3] [3] (SX_laws_toIntSL1)) o) (S_laws_toIntSL1 aZ0 sZ4) := by
  unfold M_laws_toIntSL1 at h
  simp only [ZC, S_laws_toIntSL1, A26L1]
  obtain ⟨cZ5, h⟩ | ⟨cZ5, h⟩ := cond_s h
  · obtain ⟨yZ6, hyZ6, h⟩ := bind_s h
    obtain ⟨hyZ6a, hyZ6b⟩ := geti_s hyZ6
    obtain ⟨kZ7, hkZ7, h⟩ := bind_s h
    obtain ⟨hkZ7a, hkZ7b⟩ := grd_s hkZ7
    obtain ⟨yZ8, hyZ8, h⟩ := bind_s h
    obtain ⟨lZ9, hlZ9, h⟩ := bnd_s h
    have eZ10 : (sZ4.2.map AV.i).set (Int.toNat sZ4.1) (.i yZ6) = lZ9.map AV.i := by rw [← hlZ9, List.map_set]
    cases h
    exact ZL (ZA cZ5 (ZA hyZ6a (ZA hyZ6b (ZA hkZ7a (ZA hkZ7b (ZA hyZ8 eZ10)))))) (ZA S_laws_toIntSL1.eq_1 (ZA SX_laws_toIntSL1.eq_1 hlZ9.symm))
  · cases h
    exact ZL cZ5 (ZA S_laws_toIntSL1.eq_1 SX_laws_toIntSL1.eq_1)
theorem w_laws_toIntS (aZ0 : List Int) {r : List Int} (h : M_laws_toIntS aZ0 = some r) : Ok Try.prog 26 [.lst .o 1 (aZ0.map AV.i)] ((fun r => .lst .u 1 (r.map AV.i)) r) := by
  refine ok_of_body hmix m26 rfl ?_
  unfold M_laws_toIntS at h
  simp only [ZC, A26, V26, body_eq]
  obtain ⟨uZ1, huZ1, h⟩ := bind_s h
  obtain ⟨huZ11, huZ12, huZ13, huZ14⟩ := grd_s huZ1
  obtain ⟨lZ2, hlZ2, h⟩ := bnd_s h
  have eZ3 : List.replicate (Int.toNat (aZ0.length : Int)) (.i 0 : AV) = lZ2.map AV.i := by rw [← hlZ2, List.map_replicate]
  obtain ⟨oZ11, hoZ11, h⟩ := bind_s h
  try refine ZF (ZA huZ11 (ZA huZ12 (ZA huZ13 (ZA huZ14 eZ3)))) ?_
  refine join_rule0 (blk_rule0 (loop_rule (w_laws_toIntSL1 aZ0) hoZ11 ?_)) ?_
  · exact ZK (ZA S_laws_toIntSL1.eq_1 (ZA SX_laws_toIntSL1.eq_1 (ZA hlZ2.symm @Zr)))
  · simp only [ZC, SX_laws_toIntSL1, A26R2]
    cases h
    exact ZL (ZA huZ11 (ZA huZ12 (ZA huZ13 (ZA huZ14 eZ3)))) V26.eq_1
theorem w_laws_toOutage (aZ0 : TOutage) {r : TOutage} (h : M_laws_toOutage aZ0 = some r) : Ok Try.prog 19 [.agg [.i aZ0.Unit, .lst .o 1 (aZ0.Down.map AV.i)]] ((fun r => .agg [.i r.Unit, .lst .u 1 (r.Down.map AV.i)]) r) := by
  refine ok_of_body hmix m19 rfl ?_
  unfold M_laws_toOutage at h
  simp only [ZC, A19, V19, body_eq]
  obtain ⟨rZ1, hrZ1, h⟩ := bind_s h
  refine ZF trivial ?_
  refine ZU trivial (w_laws_toIntS _ hrZ1) ?_
  refine ZG ?_
  cases h
  exact ZL trivial V19.eq_1
theorem w_laws_toRoute (aZ0 : TRoute) {r : TRoute} (h : M_laws_toRoute aZ0 = some r) : Ok Try.prog 52 [.agg [.i aZ0.Start, .lst .o 1 (aZ0.Fibers.map AV.i)]] ((fun r => .agg [.i r.Start, .lst .u 1 (r.Fibers.map AV.i)]) r) := by
  refine ok_of_body hmix m52 rfl ?_
  unfold M_laws_toRoute at h
  simp only [ZC, A52, V52, body_eq]
  obtain ⟨rZ1, hrZ1, h⟩ := bind_s h
  refine ZF trivial ?_
  refine ZU trivial (w_laws_toIntS _ hrZ1) ?_
  refine ZG ?_
  cases h
  exact ZL trivial V52.eq_1
theorem w_spec_l1In (xZ0 : Int) (aZ0 : Int) (bZ0 : Int) {r : Bool} (h : M_spec_l1In xZ0 aZ0 bZ0 = some r) : Ok Try.prog 72 [.i xZ0, .i aZ0, .i bZ0] ((fun r => .b r) r) := by
  refine ok_of_body hmix m72 rfl ?_
  unfold M_spec_l1In at h
  simp only [ZC, A72, V72, body_eq]
  obtain ⟨cZ1, h⟩ | ⟨cZ1, h⟩ := cond_s h
  · cases h
    exact ZL cZ1 V72.eq_1
  · cases h
    exact ZL cZ1 V72.eq_1
theorem w_spec_l2Sign (bZ0 : Int) {r : Bool} (h : M_spec_l2Sign bZ0 = some r) : Ok Try.prog 144 [.sc (.int .u8 bZ0)] ((fun r => .b r) r) := by
  refine ok_of_body hmix m144 rfl ?_
  unfold M_spec_l2Sign at h
  simp only [ZC, A144, V144, body_eq]
  obtain ⟨cZ1, h⟩ | ⟨cZ1, h⟩ := cond_s h
  · obtain ⟨cZ2, h⟩ | ⟨cZ2, h⟩ := cond_s h
    · cases h
      exact ZL (ZA cZ1 cZ2) V144.eq_1
    · obtain ⟨cZ3, h⟩ | ⟨cZ3, h⟩ := cond_s h
      · cases h
        exact ZL (ZA cZ1 (ZA cZ2 cZ3)) V144.eq_1
      · cases h
        exact ZL (ZA cZ1 (ZA cZ2 cZ3)) V144.eq_1
  · obtain ⟨cZ4, h⟩ | ⟨cZ4, h⟩ := cond_s h
    · cases h
      exact ZL (ZA cZ1 cZ4) V144.eq_1
    · cases h
      exact ZL (ZA cZ1 cZ4) V144.eq_1
def S_spec_l2NameL1 (sZ0 : ByteArray) (v : Int) : St := ⟨[(0, .z sZ0), (3, .i v)], []⟩
def SX_spec_l2NameL1 (v : Unit) : St := ⟨[], []⟩
theorem w_spec_l2NameL1 (sZ0 : ByteArray) (sZ7 : Int) (o : Int ⊕ (Unit ⊕ Bool)) (h : M_spec_l2NameL1 sZ0 sZ7 = some o) : AWP (OkS Try.prog) A127L2 (qL [0, 3] [] (S_spec_l2NameL1 sZ0) (qS (qX 0 [] [] (SX_spec_l2NameL1)) (qR V127 (fun r => .b r))) o) (S_spec_l2NameL1 sZ0 sZ7) := by
  unfold M_spec_l2NameL1 at h
  simp only [ZC, S_spec_l2NameL1, A127L2]
  obtain ⟨cZ8, h⟩ | ⟨cZ8, h⟩ := cond_s h
  · obtain ⟨yZ9, hyZ9, h⟩ := bind_s h
    obtain ⟨hyZ9a, hyZ9b⟩ := getz_s hyZ9
    obtain ⟨rZ10, hrZ10, h⟩ := bind_s h
    refine ZF (ZA cZ8 (ZA hyZ9a hyZ9b)) ?_
    refine ZS (ZA cZ8 (ZA hyZ9a hyZ9b)) (w_spec_l2Sign _ hrZ10) ?_
    refine ZG ?_
    obtain ⟨cZ11, h⟩ | ⟨cZ11, h⟩ := cond_s h
    · cases h
      exact ZL (ZA cZ8 (ZA hyZ9a (ZA hyZ9b cZ11))) V127.eq_1
    · cases h
      exact ZL (ZA cZ8 (ZA hyZ9a (ZA hyZ9b cZ11))) (ZA S_spec_l2NameL1.eq_1 SX_spec_l2NameL1.eq_1)
  · cases h
    exact ZL cZ8 (ZA S_spec_l2NameL1.eq_1 SX_spec_l2NameL1.eq_1)
theorem w_spec_l2Name (sZ0 : ByteArray) {r : Bool} (h : M_spec_l2Name sZ0 = some r) : Ok Try.prog 127 [.z sZ0] ((fun r => .b r) r) := by
  refine ok_of_body hmix m127 rfl ?_
  unfold M_spec_l2Name at h
  simp only [ZC, A127, V127, body_eq]
  obtain ⟨oZ5, hoZ5, h⟩ := bind_s h
  try refine ZF trivial ?_
  refine join_rule0 (sh := (fun v => ⟨[(0, .z sZ0), (17, .b v)], []⟩)) (s := oZ5) ?_ ?_
  · replace h := hoZ5
    obtain ⟨rZ1, hrZ1, h⟩ := bind_s h
    refine ZF trivial ?_
    refine ZS trivial (w_spec_l1In _ _ _ hrZ1) ?_
    refine ZG ?_
    obtain ⟨cZ2, h⟩ | ⟨cZ2, h⟩ := cond_s h
    · cases h
      exact ZL cZ2 trivial
    · obtain ⟨yZ3, hyZ3, h⟩ := bind_s h
      obtain ⟨hyZ3a, hyZ3b⟩ := getz_s hyZ3
      obtain ⟨cZ4, h⟩ | ⟨cZ4, h⟩ := cond_s h
      · cases h
        exact ZL (ZA cZ2 (ZA hyZ3a (ZA hyZ3b cZ4))) trivial
      · cases h
        exact ZL (ZA cZ2 (ZA hyZ3a (ZA hyZ3b cZ4))) trivial
  · simp only [ZC, A127R1]
    obtain ⟨cZ6, h⟩ | ⟨cZ6, h⟩ := cond_s h
    · cases h
      exact ZL cZ6 V127.eq_1
    · obtain ⟨oZ12, hoZ12, h⟩ := bind_s h
      try refine ZF cZ6 ?_
      refine join_rule (o := oZ12) (blk_rule sideR (loop_rule (w_spec_l2NameL1 sZ0) hoZ12 ?_)) (fun vZ13 hv => ?_) (fun xZ14 hv e τ hne hq => ?_)
      · exact ZK (ZA S_spec_l2NameL1.eq_1 SX_spec_l2NameL1.eq_1)
      · subst hv
        simp only [] at h
        simp only [ZC, SX_spec_l2NameL1, A127R3]
        cases h
        exact ZL cZ6 V127.eq_1
      · subst hv
        simp only [] at h
        obtain ⟨rfl, qZ15⟩ := hq
        cases h
        exact qZ15
def S_spec_l2FindL1 (listZ0 : List ByteArray) (nameZ0 : ByteArray) (v : Int) : St := ⟨[(0, .lst .o 1 (listZ0.map AV.z)), (1, .z nameZ0), (5, .i v)], []⟩
def SX_spec_l2FindL1 (v : Unit) : St := ⟨[], []⟩
theorem w_spec_l2FindL1 (listZ0 : List ByteArray) (nameZ0 : ByteArray) (sZ1 : Int) (o : Int ⊕ (Unit ⊕ Int)) (h : M_spec_l2FindL1 listZ0 nameZ0 sZ1 = some o) : AWP (OkS Try.prog) A128L1 (qL [0, 1, 5] [] (S_spec_l2FindL1 listZ0 nameZ0) (qS (qX 0 [] [] (SX_spec_l2FindL1)) (qR V128 (fun r => .i r))) o) (S_spec_l2FindL1 listZ0 nameZ0 sZ1) := by
  unfold M_spec_l2FindL1 at h
  simp only [ZC, S_spec_l2FindL1, A128L1]
  obtain ⟨cZ2, h⟩ | ⟨cZ2, h⟩ := cond_s h
  · obtain ⟨yZ3, hyZ3, h⟩ := bind_s h
    obtain ⟨hyZ3a, hyZ3b⟩ := geti_s hyZ3
    obtain ⟨cZ4, h⟩ | ⟨cZ4, h⟩ := cond_s h
    · cases h
      exact ZL (ZA cZ2 (ZA hyZ3a (ZA hyZ3b cZ4))) V128.eq_1
    · cases h
      exact ZL (ZA cZ2 (ZA hyZ3a (ZA hyZ3b cZ4))) (ZA S_spec_l2FindL1.eq_1 SX_spec_l2FindL1.eq_1)
  · cases h
    exact ZL cZ2 (ZA S_spec_l2FindL1.eq_1 SX_spec_l2FindL1.eq_1)
theorem w_spec_l2Find (listZ0 : List ByteArray) (nameZ0 : ByteArray) {r : Int} (h : M_spec_l2Find listZ0 nameZ0 = some r) : Ok Try.prog 128 [.lst .o 1 (listZ0.map AV.z), .z nameZ0] ((fun r => .i r) r) := by
  refine ok_of_body hmix m128 rfl ?_
  unfold M_spec_l2Find at h
  simp only [ZC, A128, V128, body_eq]
  obtain ⟨oZ5, hoZ5, h⟩ := bind_s h
  try refine ZF trivial ?_
  refine join_rule (o := oZ5) (blk_rule sideR (loop_rule (w_spec_l2FindL1 listZ0 nameZ0) hoZ5 ?_)) (fun vZ6 hv => ?_) (fun xZ7 hv e τ hne hq => ?_)
  · exact ZK (ZA S_spec_l2FindL1.eq_1 SX_spec_l2FindL1.eq_1)
  · subst hv
    simp only [] at h
    simp only [ZC, SX_spec_l2FindL1, A128R2]
    cases h
    exact ZL trivial V128.eq_1
  · subst hv
    simp only [] at h
    obtain ⟨rfl, qZ8⟩ := hq
    cases h
    exact qZ8
theorem w_spec_l2Fiber (fZ0 : TFiber) (nodesZ0 : Int) {r : Bool} (h : M_spec_l2Fiber fZ0 nodesZ0 = some r) : Ok Try.prog 129 [.agg [.i fZ0.A, .i fZ0.B, .i fZ0.Length, .i fZ0.Risk], .i nodesZ0] ((fun r => .b r) r) := by
  refine ok_of_body hmix m129 rfl ?_
  unfold M_spec_l2Fiber at h
  simp only [ZC, A129, V129, body_eq]
  obtain ⟨rZ1, hrZ1, h⟩ := bind_s h
  refine ZF trivial ?_
  refine ZS trivial (w_spec_l1In _ _ _ hrZ1) ?_
  refine ZG ?_
  obtain ⟨cZ2, h⟩ | ⟨cZ2, h⟩ := cond_s h
  · obtain ⟨rZ3, hrZ3, h⟩ := bind_s h
    refine ZF cZ2 ?_
    refine ZS cZ2 (w_spec_l1In _ _ _ hrZ3) ?_
    refine ZG ?_
    obtain ⟨cZ4, h⟩ | ⟨cZ4, h⟩ := cond_s h
    · obtain ⟨rZ5, hrZ5, h⟩ := bind_s h
      refine ZF (ZA cZ2 cZ4) ?_
      refine ZS (ZA cZ2 cZ4) (w_spec_l1In _ _ _ hrZ5) ?_
      refine ZG ?_
      obtain ⟨cZ6, h⟩ | ⟨cZ6, h⟩ := cond_s h
      · obtain ⟨rZ7, hrZ7, h⟩ := bind_s h
        refine ZF (ZA cZ2 (ZA cZ4 cZ6)) ?_
        refine ZS (ZA cZ2 (ZA cZ4 cZ6)) (w_spec_l1In _ _ _ hrZ7) ?_
        refine ZG ?_
        cases h
        exact ZL (ZA cZ2 (ZA cZ4 cZ6)) V129.eq_1
      · cases h
        exact ZL (ZA cZ2 (ZA cZ4 cZ6)) V129.eq_1
    · cases h
      exact ZL (ZA cZ2 cZ4) V129.eq_1
  · cases h
    exact ZL cZ2 V129.eq_1
theorem w_spec_l2Before (fZ0 : TFiber) (gZ0 : TFiber) {r : Int} (h : M_spec_l2Before fZ0 gZ0 = some r) : Ok Try.prog 130 [.agg [.i fZ0.A, .i fZ0.B, .i fZ0.Length, .i fZ0.Risk], .agg [.i gZ0.A, .i gZ0.B, .i gZ0.Length, .i gZ0.Risk]] ((fun r => .i r) r) := by
  refine ok_of_body hmix m130 rfl ?_
  unfold M_spec_l2Before at h
  simp only [ZC, A130, V130, body_eq]
  obtain ⟨cZ1, h⟩ | ⟨cZ1, h⟩ := cond_s h
  · cases h
    exact ZL cZ1 V130.eq_1
  · obtain ⟨cZ2, h⟩ | ⟨cZ2, h⟩ := cond_s h
    · cases h
      exact ZL (ZA cZ1 cZ2) V130.eq_1
    · obtain ⟨cZ3, h⟩ | ⟨cZ3, h⟩ := cond_s h
      · cases h
        exact ZL (ZA cZ1 (ZA cZ2 cZ3)) V130.eq_1
      · cases h
        exact ZL (ZA cZ1 (ZA cZ2 cZ3)) V130.eq_1
def S_spec_l2GoodL1 (nZ0 : TNetwork) (v : Int) : St := ⟨[(1, .pt 1 0 0), (3, .i v)], [(1, .var (.agg [.lst .o 1 (nZ0.Nodes.map AV.z), .lst .o 4 (nZ0.Fibers.map (e_TFiber .o))]))]⟩
def SX_spec_l2GoodL1 (nZ0 : TNetwork) (v : Unit) : St := ⟨[(1, .pt 1 0 0)], [(1, .var (.agg [.lst .o 1 (nZ0.Nodes.map AV.z), .lst .o 4 (nZ0.Fibers.map (e_TFiber .o))]))]⟩
theorem w_spec_l2GoodL1 (nZ0 : TNetwork) (sZ5 : Int) (o : Int ⊕ (Unit ⊕ Bool)) (h : M_spec_l2GoodL1 nZ0 sZ5 = some o) : AWP (OkS Try.prog) A98L3 (qL [1, 3] [1] (S_spec_l2GoodL1 nZ0) (qS (qX 0 [1] [1] (SX_spec_l2GoodL1 nZ0)) (qR V98 (fun r => .b r))) o) (S_spec_l2GoodL1 nZ0 sZ5) := by
  unfold M_spec_l2GoodL1 at h
  simp only [ZC, S_spec_l2GoodL1, A98L3]
  obtain ⟨cZ6, h⟩ | ⟨cZ6, h⟩ := cond_s h
  · obtain ⟨oZ11, hoZ11, h⟩ := bind_s h
    try refine ZF cZ6 ?_
    refine join_rule0 (sh := (fun v => ⟨[(1, .pt 1 0 0), (3, .i sZ5), (41, .b v)], [(1, .var (.agg [.lst .o 1 (nZ0.Nodes.map AV.z), .lst .o 4 (nZ0.Fibers.map (e_TFiber .o))]))]⟩)) (s := oZ11) ?_ ?_
    · replace h := hoZ11
      obtain ⟨yZ7, hyZ7, h⟩ := bind_s h
      obtain ⟨hyZ7a, hyZ7b⟩ := geti_s hyZ7
      obtain ⟨rZ8, hrZ8, h⟩ := bind_s h
      refine ZF (ZA cZ6 (ZA hyZ7a hyZ7b)) ?_
      refine ZS (ZA cZ6 (ZA hyZ7a hyZ7b)) (w_spec_l2Name _ hrZ8) ?_
      refine ZG ?_
      obtain ⟨cZ9, h⟩ | ⟨cZ9, h⟩ := cond_s h
      · cases h
        exact ZL (ZA cZ6 (ZA hyZ7a (ZA hyZ7b cZ9))) trivial
      · obtain ⟨rZ10, hrZ10, h⟩ := bind_s h
        refine ZF (ZA cZ6 (ZA hyZ7a (ZA hyZ7b cZ9))) ?_
        refine ZS (ZA cZ6 (ZA hyZ7a (ZA hyZ7b cZ9))) (w_spec_l2Find _ _ hrZ10) ?_
        refine ZG ?_
        cases h
        exact ZL (ZA cZ6 (ZA hyZ7a (ZA hyZ7b cZ9))) trivial
    · simp only [ZC, A98R2]
      obtain ⟨cZ12, h⟩ | ⟨cZ12, h⟩ := cond_s h
      · cases h
        exact ZL (ZA cZ6 cZ12) V98.eq_1
      · cases h
        exact ZL (ZA cZ6 cZ12) (ZA S_spec_l2GoodL1.eq_1 SX_spec_l2GoodL1.eq_1)
  · cases h
    exact ZL cZ6 (ZA S_spec_l2GoodL1.eq_1 SX_spec_l2GoodL1.eq_1)
def S_spec_l2GoodL2 (nZ0 : TNetwork) (v : Int) : St := ⟨[(1, .pt 1 0 0), (4, .i v)], [(1, .var (.agg [.lst .o 1 (nZ0.Nodes.map AV.z), .lst .o 4 (nZ0.Fibers.map (e_TFiber .o))]))]⟩
def SX_spec_l2GoodL2 (v : Unit) : St := ⟨[], []⟩
theorem w_spec_l2GoodL2 (nZ0 : TNetwork) (sZ16 : Int) (o : Int ⊕ (Unit ⊕ Bool)) (h : M_spec_l2GoodL2 nZ0 sZ16 = some o) : AWP (OkS Try.prog) A98L6 (qL [1, 4] [1] (S_spec_l2GoodL2 nZ0) (qS (qX 2 [] [] (SX_spec_l2GoodL2)) (qR V98 (fun r => .b r))) o) (S_spec_l2GoodL2 nZ0 sZ16) := by
  unfold M_spec_l2GoodL2 at h
  simp only [ZC, S_spec_l2GoodL2, A98L6]
  obtain ⟨cZ17, h⟩ | ⟨cZ17, h⟩ := cond_s h
  · obtain ⟨oZ24, hoZ24, h⟩ := bind_s h
    try refine ZF cZ17 ?_
    refine join_rule0 (sh := (fun v => ⟨[(1, .pt 1 0 0), (4, .i sZ16), (77, .b v)], [(1, .var (.agg [.lst .o 1 (nZ0.Nodes.map AV.z), .lst .o 4 (nZ0.Fibers.map (e_TFiber .o))]))]⟩)) (s := oZ24) ?_ ?_
    · replace h := hoZ24
      obtain ⟨yZ18, hyZ18, h⟩ := bind_s h
      obtain ⟨hyZ18a, hyZ18b⟩ := geti_s hyZ18
      obtain ⟨rZ19, hrZ19, h⟩ := bind_s h
      refine ZF (ZA cZ17 (ZA hyZ18a hyZ18b)) ?_
      refine ZS (ZA cZ17 (ZA hyZ18a hyZ18b)) (w_spec_l2Fiber _ _ hrZ19) ?_
      refine ZG ?_
      obtain ⟨cZ20, h⟩ | ⟨cZ20, h⟩ := cond_s h
      · cases h
        exact ZL (ZA cZ17 (ZA hyZ18a (ZA hyZ18b cZ20))) trivial
      · obtain ⟨cZ21, h⟩ | ⟨cZ21, h⟩ := cond_s h
        · obtain ⟨yZ22, hyZ22, h⟩ := bind_s h
          obtain ⟨hyZ22a, hyZ22b⟩ := geti_s hyZ22
          obtain ⟨rZ23, hrZ23, h⟩ := bind_s h
          refine ZF (ZA cZ17 (ZA hyZ18a (ZA hyZ18b (ZA cZ20 (ZA cZ21 (ZA hyZ22a hyZ22b)))))) ?_
          refine ZS (ZA cZ17 (ZA hyZ18a (ZA hyZ18b (ZA cZ20 (ZA cZ21 (ZA hyZ22a hyZ22b)))))) (w_spec_l2Before _ _ hrZ23) ?_
          refine ZG ?_
          cases h
          exact ZL (ZA cZ17 (ZA hyZ18a (ZA hyZ18b (ZA cZ20 (ZA cZ21 (ZA hyZ22a hyZ22b)))))) trivial
        · cases h
          exact ZL (ZA cZ17 (ZA hyZ18a (ZA hyZ18b (ZA cZ20 cZ21)))) trivial
    · simp only [ZC, A98R5]
      obtain ⟨cZ25, h⟩ | ⟨cZ25, h⟩ := cond_s h
      · cases h
        exact ZL (ZA cZ17 cZ25) V98.eq_1
      · cases h
        exact ZL (ZA cZ17 cZ25) (ZA S_spec_l2GoodL2.eq_1 SX_spec_l2GoodL2.eq_1)
  · cases h
    exact ZL cZ17 (ZA S_spec_l2GoodL2.eq_1 SX_spec_l2GoodL2.eq_1)
theorem w_spec_l2Good (nZ0 : TNetwork) {r : Bool} (h : M_spec_l2Good nZ0 = some r) : Ok Try.prog 98 [.agg [.lst .o 1 (nZ0.Nodes.map AV.z), .lst .o 4 (nZ0.Fibers.map (e_TFiber .o))]] ((fun r => .b r) r) := by
  refine ok_of_body hmix m98 rfl ?_
  unfold M_spec_l2Good at h
  simp only [ZC, A98, V98, body_eq]
  obtain ⟨oZ3, hoZ3, h⟩ := bind_s h
  try refine ZF trivial ?_
  refine join_rule0 (sh := (fun v => ⟨[(1, .pt 1 0 0), (15, .b v)], [(1, .var (.agg [.lst .o 1 (nZ0.Nodes.map AV.z), .lst .o 4 (nZ0.Fibers.map (e_TFiber .o))]))]⟩)) (s := oZ3) ?_ ?_
  · replace h := hoZ3
    obtain ⟨rZ1, hrZ1, h⟩ := bind_s h
    refine ZF trivial ?_
    refine ZS trivial (w_spec_l1In _ _ _ hrZ1) ?_
    refine ZG ?_
    obtain ⟨cZ2, h⟩ | ⟨cZ2, h⟩ := cond_s h
    · cases h
      exact ZL cZ2 trivial
    · cases h
      exact ZL cZ2 trivial
  · simp only [ZC, A98R1]
    obtain ⟨cZ4, h⟩ | ⟨cZ4, h⟩ := cond_s h
    · cases h
      exact ZL cZ4 V98.eq_1
    · obtain ⟨oZ13, hoZ13, h⟩ := bind_s h
      try refine ZF cZ4 ?_
      refine join_rule (o := oZ13) (blk_rule sideR (loop_rule (w_spec_l2GoodL1 nZ0) hoZ13 ?_)) (fun vZ14 hv => ?_) (fun xZ15 hv e τ hne hq => ?_)
      · exact ZK (ZA S_spec_l2GoodL1.eq_1 SX_spec_l2GoodL1.eq_1)
      · subst hv
        simp only [] at h
        simp only [ZC, SX_spec_l2GoodL1, A98R4]
        obtain ⟨oZ26, hoZ26, h⟩ := bind_s h
        try refine ZF cZ4 ?_
        refine join_rule (o := oZ26) (blk_rule sideR (loop_rule (w_spec_l2GoodL2 nZ0) hoZ26 ?_)) (fun vZ27 hv => ?_) (fun xZ28 hv e τ hne hq => ?_)
        · exact ZK (ZA S_spec_l2GoodL2.eq_1 SX_spec_l2GoodL2.eq_1)
        · subst hv
          simp only [] at h
          simp only [ZC, SX_spec_l2GoodL2, A98R7]
          cases h
          exact ZL cZ4 V98.eq_1
        · subst hv
          simp only [] at h
          obtain ⟨rfl, qZ29⟩ := hq
          cases h
          exact qZ29
      · subst hv
        simp only [] at h
        obtain ⟨rfl, qZ30⟩ := hq
        cases h
        exact qZ30
def S_spec_l2GroupL1 (nZ0 : TNetwork) (fiberZ0 : Int) (v : Int × List Int) : St := ⟨[(1, .i fiberZ0), (2, .pt 2 0 0), (5, .sl 5 0 v.2.length), (6, .i v.1)], [(2, .var (.agg [.lst .o 1 (nZ0.Nodes.map AV.z), .lst .o 4 (nZ0.Fibers.map (e_TFiber .o))])), (5, .arr 1 (v.2.map AV.i))]⟩
def SX_spec_l2GroupL1 (v : List Int) : St := ⟨[(5, .sl 5 0 v.length)], [(5, .arr 1 (v.map AV.i))]⟩
theorem w_spec_l2GroupL1 (nZ0 : TNetwork) (fiberZ0 : Int) (sZ7 : Int × List Int) (o : (Int × List Int) ⊕ (List Int)) (h : M_spec_l2GroupL1 nZ0 fiberZ0 sZ7 = some o) : AWP (OkS Try.prog) A124L1 (qL [1, 2, 5, 6] [2, 5] (S_spec_l2GroupL1 nZ0 fiberZ0) (qX 0 [5] [5] (SX_spec_l2GroupL1)) o) (S_spec_l2GroupL1 nZ0 fiberZ0 sZ7) := by
  unfold M_spec_l2GroupL1 at h
  simp only [ZC, S_spec_l2GroupL1, A124L1]
  obtain ⟨cZ8, h⟩ | ⟨cZ8, h⟩ := cond_s h
  · obtain ⟨yZ9, hyZ9, h⟩ := bind_s h
    obtain ⟨hyZ9a, hyZ9b⟩ := geti_s hyZ9
    obtain ⟨yZ10, hyZ10, h⟩ := bind_s h
    obtain ⟨hyZ10a, hyZ10b⟩ := geti_s hyZ10
    obtain ⟨cZ11, h⟩ | ⟨cZ11, h⟩ := cond_s h
    · obtain ⟨lZ12, hlZ12, h⟩ := bnd_s h
      have eZ13 : Row.arr 1 [(.i sZ7.1 : AV)] = Row.arr 1 (lZ12.map AV.i) := by rw [← hlZ12]; rfl
      have eZ14 : lZ12.length = 1 := by rw [← hlZ12]; rfl
      obtain ⟨uZ15, huZ15, h⟩ := bind_s h
      have huZ15g := grd_s huZ15
      obtain ⟨lZ16, hlZ16, h⟩ := bnd_s h
      have eZ17 : sZ7.2.map AV.i ++ lZ12.map AV.i = lZ16.map AV.i := by rw [← hlZ16, List.map_append]
      have eZ18 : sZ7.2.length + 1 = lZ16.length := by simp [← hlZ12, ← hlZ16] <;> omega
      rw [eZ18] at huZ15g
      cases h
      exact ZL (ZA cZ8 (ZA hyZ9a (ZA hyZ9b (ZA hyZ10a (ZA hyZ10b (ZA cZ11 (ZA eZ13 (ZA eZ14 (ZA huZ15g (ZA eZ17 eZ18)))))))))) (ZA S_spec_l2GroupL1.eq_1 (ZA SX_spec_l2GroupL1.eq_1 (ZA hlZ12.symm (ZA hlZ16.symm eZ14))))
    · cases h
      exact ZL (ZA cZ8 (ZA hyZ9a (ZA hyZ9b (ZA hyZ10a (ZA hyZ10b cZ11))))) (ZA S_spec_l2GroupL1.eq_1 SX_spec_l2GroupL1.eq_1)
  · cases h
    exact ZL cZ8 (ZA S_spec_l2GroupL1.eq_1 SX_spec_l2GroupL1.eq_1)
theorem w_spec_l2Group (nZ0 : TNetwork) (fiberZ0 : Int) {r : List Int} (h : M_spec_l2Group nZ0 fiberZ0 = some r) : Ok Try.prog 124 [.agg [.lst .o 1 (nZ0.Nodes.map AV.z), .lst .o 4 (nZ0.Fibers.map (e_TFiber .o))], .i fiberZ0] ((fun r => .lst .u 1 (r.map AV.i)) r) := by
  refine ok_of_body hmix m124 rfl ?_
  unfold M_spec_l2Group at h
  simp only [ZC, A124, V124, body_eq]
  obtain ⟨yZ1, hyZ1, h⟩ := bind_s h
  obtain ⟨hyZ1a, hyZ1b⟩ := geti_s hyZ1
  obtain ⟨cZ2, h⟩ | ⟨cZ2, h⟩ := cond_s h
  · obtain ⟨lZ3, hlZ3, h⟩ := bnd_s h
    have eZ4 : Row.arr 1 [(.i fiberZ0 : AV)] = Row.arr 1 (lZ3.map AV.i) := by rw [← hlZ3]; rfl
    have eZ5 : lZ3.length = 1 := by rw [← hlZ3]; rfl
    have nZ6 : sub (lZ3.map AV.i) 0 1 = lZ3.map AV.i := sub_n _ (by simp [← hlZ3])
    cases h
    exact ZL (ZA hyZ1a (ZA hyZ1b (ZA cZ2 (ZA eZ4 (ZA eZ5 nZ6))))) (ZA V124.eq_1 (ZA hlZ3.symm eZ5))
  · obtain ⟨oZ19, hoZ19, h⟩ := bind_s h
    try refine ZF (ZA hyZ1a (ZA hyZ1b cZ2)) ?_
    refine join_rule0 (blk_rule0 (loop_rule (w_spec_l2GroupL1 nZ0 fiberZ0) hoZ19 ?_)) ?_
    · exact ZK (ZA S_spec_l2GroupL1.eq_1 SX_spec_l2GroupL1.eq_1)
    · simp only [ZC, SX_spec_l2GroupL1, A124R2]
      cases h
      exact ZL (ZA hyZ1a (ZA hyZ1b cZ2)) V124.eq_1
def S_spec_l2GroupsL2 (nZ0 : TNetwork) (sZ1 : Int × List (List Int)) (v : Int) : St := ⟨[(1, .pt 1 0 0), (3, .sl 3 0 sZ1.2.length), (4, .i sZ1.1), (5, .i v)], [(1, .var (.agg [.lst .o 1 (nZ0.Nodes.map AV.z), .lst .o 4 (nZ0.Fibers.map (e_TFiber .o))])), (3, .arr 1 (sZ1.2.map (e_Li .u)))]⟩
def SX_spec_l2GroupsL2 (nZ0 : TNetwork) (sZ1 : Int × List (List Int)) (v : List (List Int)) : St := ⟨[(1, .pt 1 0 0), (3, .sl 3 0 v.length), (4, .i sZ1.1)], [(1, .var (.agg [.lst .o 1 (nZ0.Nodes.map AV.z), .lst .o 4 (nZ0.Fibers.map (e_TFiber .o))])), (3, .arr 1 (v.map (e_Li .u)))]⟩
theorem w_spec_l2GroupsL2 (nZ0 : TNetwork) (sZ1 : Int × List (List Int)) (sZ3 : Int) (o : Int ⊕ (List (List Int))) (h : M_spec_l2GroupsL2 nZ0 sZ1 sZ3 = some o) : AWP (OkS Try.prog) A92L1 (qL [1, 3, 4, 5] [1, 3] (S_spec_l2GroupsL2 nZ0 sZ1) (qX 2 [1, 3, 4] [1, 3] (SX_spec_l2GroupsL2 nZ0 sZ1)) o) (S_spec_l2GroupsL2 nZ0 sZ1 sZ3) := by
  unfold M_spec_l2GroupsL2 at h
  simp only [ZC, S_spec_l2GroupsL2, A92L1]
  obtain ⟨cZ4, h⟩ | ⟨cZ4, h⟩ := cond_s h
  · obtain ⟨yZ5, hyZ5, h⟩ := bind_s h
    obtain ⟨hyZ5a, hyZ5b⟩ := geti_s hyZ5
    obtain ⟨cZ6, h⟩ | ⟨cZ6, h⟩ := cond_s h
    · obtain ⟨rZ7, hrZ7, h⟩ := bind_s h
      refine ZF (ZA cZ4 (ZA hyZ5a (ZA hyZ5b cZ6))) ?_
      refine ZU (ZA cZ4 (ZA hyZ5a (ZA hyZ5b cZ6))) (w_spec_l2Group _ _ hrZ7) ?_
      refine ZG ?_
      obtain ⟨lZ8, hlZ8, h⟩ := bnd_s h
      have eZ9 : Row.arr 1 [(.lst .u 1 (rZ7.map AV.i) : AV)] = Row.arr 1 (lZ8.map (e_Li .u)) := by rw [← hlZ8]; rfl
      have eZ10 : lZ8.length = 1 := by rw [← hlZ8]; rfl
      obtain ⟨uZ11, huZ11, h⟩ := bind_s h
      have huZ11g := grd_s huZ11
      obtain ⟨lZ12, hlZ12, h⟩ := bnd_s h
      have eZ13 : sZ1.2.map (e_Li .u) ++ lZ8.map (e_Li .u) = lZ12.map (e_Li .u) := by rw [← hlZ12, List.map_append]
      have eZ14 : sZ1.2.length + 1 = lZ12.length := by simp [← hlZ8, ← hlZ12] <;> omega
      rw [eZ14] at huZ11g
      cases h
      exact ZL (ZA cZ4 (ZA hyZ5a (ZA hyZ5b (ZA cZ6 (ZA eZ9 (ZA eZ10 (ZA huZ11g (ZA eZ13 eZ14)))))))) (ZA S_spec_l2GroupsL2.eq_1 (ZA SX_spec_l2GroupsL2.eq_1 (ZA hlZ8.symm (ZA hlZ12.symm eZ10))))
    · cases h
      exact ZL (ZA cZ4 (ZA hyZ5a (ZA hyZ5b cZ6))) (ZA S_spec_l2GroupsL2.eq_1 SX_spec_l2GroupsL2.eq_1)
  · cases h
    exact ZL cZ4 (ZA S_spec_l2GroupsL2.eq_1 SX_spec_l2GroupsL2.eq_1)
def S_spec_l2GroupsL1 (nZ0 : TNetwork) (v : Int × List (List Int)) : St := ⟨[(1, .pt 1 0 0), (3, .sl 3 0 v.2.length), (4, .i v.1)], [(1, .var (.agg [.lst .o 1 (nZ0.Nodes.map AV.z), .lst .o 4 (nZ0.Fibers.map (e_TFiber .o))])), (3, .arr 1 (v.2.map (e_Li .u)))]⟩
def SX_spec_l2GroupsL1 (nZ0 : TNetwork) (v : List (List Int)) : St := ⟨[(1, .pt 1 0 0), (3, .sl 3 0 v.length)], [(1, .var (.agg [.lst .o 1 (nZ0.Nodes.map AV.z), .lst .o 4 (nZ0.Fibers.map (e_TFiber .o))])), (3, .arr 1 (v.map (e_Li .u)))]⟩
theorem w_spec_l2GroupsL1 (nZ0 : TNetwork) (sZ1 : Int × List (List Int)) (o : (Int × List (List Int)) ⊕ (List (List Int))) (h : M_spec_l2GroupsL1 nZ0 sZ1 = some o) : AWP (OkS Try.prog) A92L3 (qL [1, 3, 4] [1, 3] (S_spec_l2GroupsL1 nZ0) (qX 0 [1, 3] [1, 3] (SX_spec_l2GroupsL1 nZ0)) o) (S_spec_l2GroupsL1 nZ0 sZ1) := by
  unfold M_spec_l2GroupsL1 at h
  simp only [ZC, S_spec_l2GroupsL1, A92L3]
  obtain ⟨cZ2, h⟩ | ⟨cZ2, h⟩ := cond_s h
  · obtain ⟨oZ17, hoZ17, h⟩ := bind_s h
    try refine ZF cZ2 ?_
    refine join_rule0 (sh := (fun v => ⟨[(1, .pt 1 0 0), (3, .sl 3 0 v.length), (4, .i sZ1.1)], [(1, .var (.agg [.lst .o 1 (nZ0.Nodes.map AV.z), .lst .o 4 (nZ0.Fibers.map (e_TFiber .o))])), (3, .arr 1 (v.map (e_Li .u)))]⟩)) (s := oZ17) ?_ ?_
    · replace h := hoZ17
      obtain ⟨oZ15, hoZ15, h⟩ := bind_s h
      try refine ZF cZ2 ?_
      first | refine tail_rule0 (blk_rule0 (loop_rule (w_spec_l2GroupsL2 nZ0 sZ1) hoZ15 ?_)) (fun τ qZ16 => ?_) | refine tail_blk0 (loop_rule (w_spec_l2GroupsL2 nZ0 sZ1) hoZ15 ?_) (fun τ qZ16 => ?_)
      · exact ZK (ZA S_spec_l2GroupsL2.eq_1 SX_spec_l2GroupsL2.eq_1)
      · cases h
        try refine ZF trivial ?_
        refine ⟨rfl, Shp.sub qZ16 (by decide) (by decide) ?_⟩
        exact ZK SX_spec_l2GroupsL2.eq_1
    · simp only [ZC, A92R2]
      cases h
      exact ZL cZ2 (ZA S_spec_l2GroupsL1.eq_1 SX_spec_l2GroupsL1.eq_1)
  · cases h
    exact ZL cZ2 (ZA S_spec_l2GroupsL1.eq_1 SX_spec_l2GroupsL1.eq_1)
def S_spec_l2GroupsL3 (nZ0 : TNetwork) (v : Int × List (List Int)) : St := ⟨[(1, .pt 1 0 0), (3, .sl 3 0 v.2.length), (6, .i v.1)], [(1, .var (.agg [.lst .o 1 (nZ0.Nodes.map AV.z), .lst .o 4 (nZ0.Fibers.map (e_TFiber .o))])), (3, .arr 1 (v.2.map (e_Li .u)))]⟩
def SX_spec_l2GroupsL3 (v : List (List Int)) : St := ⟨[(3, .sl 3 0 v.length)], [(3, .arr 1 (v.map (e_Li .u)))]⟩
theorem w_spec_l2GroupsL3 (nZ0 : TNetwork) (sZ19 : Int × List (List Int)) (o : (Int × List (List Int)) ⊕ (List (List Int))) (h : M_spec_l2GroupsL3 nZ0 sZ19 = some o) : AWP (OkS Try.prog) A92L5 (qL [1, 3, 6] [1, 3] (S_spec_l2GroupsL3 nZ0) (qX 4 [3] [3] (SX_spec_l2GroupsL3)) o) (S_spec_l2GroupsL3 nZ0 sZ19) := by
  unfold M_spec_l2GroupsL3 at h
  simp only [ZC, S_spec_l2GroupsL3, A92L5]
  obtain ⟨cZ20, h⟩ | ⟨cZ20, h⟩ := cond_s h
  · obtain ⟨yZ21, hyZ21, h⟩ := bind_s h
    obtain ⟨hyZ21a, hyZ21b⟩ := geti_s hyZ21
    obtain ⟨cZ22, h⟩ | ⟨cZ22, h⟩ := cond_s h
    · obtain ⟨lZ23, hlZ23, h⟩ := bnd_s h
      have eZ24 : Row.arr 1 [(.i sZ19.1 : AV)] = Row.arr 1 (lZ23.map AV.i) := by rw [← hlZ23]; rfl
      have eZ25 : lZ23.length = 1 := by rw [← hlZ23]; rfl
      have nZ26 : sub (lZ23.map AV.i) 0 1 = lZ23.map AV.i := sub_n _ (by simp [← hlZ23])
      obtain ⟨lZ27, hlZ27, h⟩ := bnd_s h
      have eZ28 : Row.arr 1 [(.lst .u 1 (lZ23.map AV.i) : AV)] = Row.arr 1 (lZ27.map (e_Li .u)) := by rw [← hlZ27]; rfl
      have eZ29 : lZ27.length = 1 := by rw [← hlZ27]; rfl
      obtain ⟨uZ30, huZ30, h⟩ := bind_s h
      have huZ30g := grd_s huZ30
      obtain ⟨lZ31, hlZ31, h⟩ := bnd_s h
      have eZ32 : sZ19.2.map (e_Li .u) ++ lZ27.map (e_Li .u) = lZ31.map (e_Li .u) := by rw [← hlZ31, List.map_append]
      have eZ33 : sZ19.2.length + 1 = lZ31.length := by simp [← hlZ23, ← hlZ27, ← hlZ31] <;> omega
      rw [eZ33] at huZ30g
      cases h
      exact ZL (ZA cZ20 (ZA hyZ21a (ZA hyZ21b (ZA cZ22 (ZA eZ24 (ZA eZ25 (ZA nZ26 (ZA eZ28 (ZA eZ29 (ZA huZ30g (ZA eZ32 eZ33))))))))))) (ZA S_spec_l2GroupsL3.eq_1 (ZA SX_spec_l2GroupsL3.eq_1 (ZA hlZ23.symm (ZA hlZ27.symm (ZA hlZ31.symm (ZA eZ25 eZ29))))))
    · cases h
      exact ZL (ZA cZ20 (ZA hyZ21a (ZA hyZ21b cZ22))) (ZA S_spec_l2GroupsL3.eq_1 SX_spec_l2GroupsL3.eq_1)
  · cases h
    exact ZL cZ20 (ZA S_spec_l2GroupsL3.eq_1 SX_spec_l2GroupsL3.eq_1)
theorem w_spec_l2Groups (nZ0 : TNetwork) {r : List (List Int)} (h : M_spec_l2Groups nZ0 = some r) : Ok Try.prog 92 [.agg [.lst .o 1 (nZ0.Nodes.map AV.z), .lst .o 4 (nZ0.Fibers.map (e_TFiber .o))]] ((fun r => .lst .u 1 (r.map (e_Li .u))) r) := by
  refine ok_of_body hmix m92 rfl ?_
  unfold M_spec_l2Groups at h
  simp only [ZC, A92, V92, body_eq]
  obtain ⟨oZ18, hoZ18, h⟩ := bind_s h
  try refine ZF trivial ?_
  refine join_rule0 (blk_rule0 (loop_rule (w_spec_l2GroupsL1 nZ0) hoZ18 ?_)) ?_
  · exact ZK (ZA S_spec_l2GroupsL1.eq_1 SX_spec_l2GroupsL1.eq_1)
  · simp only [ZC, SX_spec_l2GroupsL1, A92R4]
    obtain ⟨oZ34, hoZ34, h⟩ := bind_s h
    try refine ZF trivial ?_
    refine join_rule0 (blk_rule0 (loop_rule (w_spec_l2GroupsL3 nZ0) hoZ34 ?_)) ?_
    · exact ZK (ZA S_spec_l2GroupsL3.eq_1 SX_spec_l2GroupsL3.eq_1)
    · simp only [ZC, SX_spec_l2GroupsL3, A92R6]
      cases h
      exact ZL trivial V92.eq_1
def S_spec_l16GoodL1 (oZ0 : TOutage) (v : Int) : St := ⟨[(3, .pt 3 0 0), (5, .i v)], [(3, .var (.agg [.i oZ0.Unit, .lst .o 1 (oZ0.Down.map AV.i)]))]⟩
def SX_spec_l16GoodL1 (v : Unit) : St := ⟨[], []⟩
theorem w_spec_l16GoodL1 (oZ0 : TOutage) (sZ8 : Int) (o : Int ⊕ (Unit ⊕ Bool)) (h : M_spec_l16GoodL1 oZ0 sZ8 = some o) : AWP (OkS Try.prog) A62L2 (qL [3, 5] [3] (S_spec_l16GoodL1 oZ0) (qS (qX 0 [] [] (SX_spec_l16GoodL1)) (qR V62 (fun r => .b r))) o) (S_spec_l16GoodL1 oZ0 sZ8) := by
  unfold M_spec_l16GoodL1 at h
  simp only [ZC, S_spec_l16GoodL1, A62L2]
  obtain ⟨cZ9, h⟩ | ⟨cZ9, h⟩ := cond_s h
  · obtain ⟨yZ10, hyZ10, h⟩ := bind_s h
    obtain ⟨hyZ10a, hyZ10b⟩ := geti_s hyZ10
    obtain ⟨rZ11, hrZ11, h⟩ := bind_s h
    refine ZF (ZA cZ9 (ZA hyZ10a hyZ10b)) ?_
    refine ZS (ZA cZ9 (ZA hyZ10a hyZ10b)) (w_spec_l1In _ _ _ hrZ11) ?_
    refine ZG ?_
    obtain ⟨cZ12, h⟩ | ⟨cZ12, h⟩ := cond_s h
    · cases h
      exact ZL (ZA cZ9 (ZA hyZ10a (ZA hyZ10b cZ12))) V62.eq_1
    · cases h
      exact ZL (ZA cZ9 (ZA hyZ10a (ZA hyZ10b cZ12))) (ZA S_spec_l16GoodL1.eq_1 SX_spec_l16GoodL1.eq_1)
  · cases h
    exact ZL cZ9 (ZA S_spec_l16GoodL1.eq_1 SX_spec_l16GoodL1.eq_1)
theorem w_spec_l16Good (nZ0 : TNetwork) (oZ0 : TOutage) {r : Bool} (h : M_spec_l16Good nZ0 oZ0 = some r) : Ok Try.prog 62 [.agg [.lst .o 1 (nZ0.Nodes.map AV.z), .lst .o 4 (nZ0.Fibers.map (e_TFiber .o))], .agg [.i oZ0.Unit, .lst .o 1 (oZ0.Down.map AV.i)]] ((fun r => .b r) r) := by
  refine ok_of_body hmix m62 rfl ?_
  unfold M_spec_l16Good at h
  simp only [ZC, A62, V62, body_eq]
  obtain ⟨oZ6, hoZ6, h⟩ := bind_s h
  try refine ZF trivial ?_
  refine join_rule0 (sh := (fun v => ⟨[(3, .pt 3 0 0), (23, .b v)], [(3, .var (.agg [.i oZ0.Unit, .lst .o 1 (oZ0.Down.map AV.i)]))]⟩)) (s := oZ6) ?_ ?_
  · replace h := hoZ6
    obtain ⟨rZ1, hrZ1, h⟩ := bind_s h
    refine ZF trivial ?_
    refine ZS trivial (w_spec_l2Good _ hrZ1) ?_
    refine ZG ?_
    obtain ⟨cZ2, h⟩ | ⟨cZ2, h⟩ := cond_s h
    · cases h
      exact ZL cZ2 trivial
    · obtain ⟨rZ3, hrZ3, h⟩ := bind_s h
      refine ZF cZ2 ?_
      refine ZS cZ2 (w_spec_l1In _ _ _ hrZ3) ?_
      refine ZG ?_
      obtain ⟨cZ4, h⟩ | ⟨cZ4, h⟩ := cond_s h
      · cases h
        exact ZL (ZA cZ2 cZ4) trivial
      · obtain ⟨rZ5, hrZ5, h⟩ := bind_s h
        refine ZF (ZA cZ2 cZ4) ?_
        refine ZU (ZA cZ2 cZ4) (w_spec_l2Groups _ hrZ5) ?_
        refine ZG ?_
        cases h
        exact ZL (ZA cZ2 cZ4) trivial
  · simp only [ZC, A62R1]
    obtain ⟨cZ7, h⟩ | ⟨cZ7, h⟩ := cond_s h
    · cases h
      exact ZL cZ7 V62.eq_1
    · obtain ⟨oZ13, hoZ13, h⟩ := bind_s h
      try refine ZF cZ7 ?_
      refine join_rule (o := oZ13) (blk_rule sideR (loop_rule (w_spec_l16GoodL1 oZ0) hoZ13 ?_)) (fun vZ14 hv => ?_) (fun xZ15 hv e τ hne hq => ?_)
      · exact ZK (ZA S_spec_l16GoodL1.eq_1 SX_spec_l16GoodL1.eq_1)
      · subst hv
        simp only [] at h
        simp only [ZC, SX_spec_l16GoodL1, A62R3]
        cases h
        exact ZL cZ7 V62.eq_1
      · subst hv
        simp only [] at h
        obtain ⟨rfl, qZ16⟩ := hq
        cases h
        exact qZ16
theorem w_spec_l2Other (nZ0 : TNetwork) (fiberZ0 : Int) (nodeZ0 : Int) {r : Int} (h : M_spec_l2Other nZ0 fiberZ0 nodeZ0 = some r) : Ok Try.prog 146 [.agg [.lst .o 1 (nZ0.Nodes.map AV.z), .lst .o 4 (nZ0.Fibers.map (e_TFiber .o))], .i fiberZ0, .i nodeZ0] ((fun r => .i r) r) := by
  refine ok_of_body hmix m146 rfl ?_
  unfold M_spec_l2Other at h
  simp only [ZC, A146, V146, body_eq]
  obtain ⟨yZ1, hyZ1, h⟩ := bind_s h
  obtain ⟨hyZ1a, hyZ1b⟩ := geti_s hyZ1
  obtain ⟨cZ2, h⟩ | ⟨cZ2, h⟩ := cond_s h
  · cases h
    exact ZL (ZA hyZ1a (ZA hyZ1b cZ2)) V146.eq_1
  · obtain ⟨cZ3, h⟩ | ⟨cZ3, h⟩ := cond_s h
    · cases h
      exact ZL (ZA hyZ1a (ZA hyZ1b (ZA cZ2 cZ3))) V146.eq_1
    · cases h
      exact ZL (ZA hyZ1a (ZA hyZ1b (ZA cZ2 cZ3))) V146.eq_1
def S_spec_l1HasL1 (lZ0 : List Int) (nZ0 : Int) (v : Int) : St := ⟨[(0, .lst .o 1 (lZ0.map AV.i)), (1, .i nZ0), (5, .i v)], []⟩
def SX_spec_l1HasL1 (v : Unit) : St := ⟨[], []⟩
theorem w_spec_l1HasL1 (lZ0 : List Int) (nZ0 : Int) (sZ1 : Int) (o : Int ⊕ (Unit ⊕ Bool)) (h : M_spec_l1HasL1 lZ0 nZ0 sZ1 = some o) : AWP (OkS Try.prog) A147L1 (qL [0, 1, 5] [] (S_spec_l1HasL1 lZ0 nZ0) (qS (qX 0 [] [] (SX_spec_l1HasL1)) (qR V147 (fun r => .b r))) o) (S_spec_l1HasL1 lZ0 nZ0 sZ1) := by
  unfold M_spec_l1HasL1 at h
  simp only [ZC, S_spec_l1HasL1, A147L1]
  obtain ⟨cZ2, h⟩ | ⟨cZ2, h⟩ := cond_s h
  · obtain ⟨yZ3, hyZ3, h⟩ := bind_s h
    obtain ⟨hyZ3a, hyZ3b⟩ := geti_s hyZ3
    obtain ⟨cZ4, h⟩ | ⟨cZ4, h⟩ := cond_s h
    · cases h
      exact ZL (ZA cZ2 (ZA hyZ3a (ZA hyZ3b cZ4))) V147.eq_1
    · cases h
      exact ZL (ZA cZ2 (ZA hyZ3a (ZA hyZ3b cZ4))) (ZA S_spec_l1HasL1.eq_1 SX_spec_l1HasL1.eq_1)
  · cases h
    exact ZL cZ2 (ZA S_spec_l1HasL1.eq_1 SX_spec_l1HasL1.eq_1)
theorem w_spec_l1Has (lZ0 : List Int) (nZ0 : Int) {r : Bool} (h : M_spec_l1Has lZ0 nZ0 = some r) : Ok Try.prog 147 [.lst .o 1 (lZ0.map AV.i), .i nZ0] ((fun r => .b r) r) := by
  refine ok_of_body hmix m147 rfl ?_
  unfold M_spec_l1Has at h
  simp only [ZC, A147, V147, body_eq]
  obtain ⟨oZ5, hoZ5, h⟩ := bind_s h
  try refine ZF trivial ?_
  refine join_rule (o := oZ5) (blk_rule sideR (loop_rule (w_spec_l1HasL1 lZ0 nZ0) hoZ5 ?_)) (fun vZ6 hv => ?_) (fun xZ7 hv e τ hne hq => ?_)
  · exact ZK (ZA S_spec_l1HasL1.eq_1 SX_spec_l1HasL1.eq_1)
  · subst hv
    simp only [] at h
    simp only [ZC, SX_spec_l1HasL1, A147R2]
    cases h
    exact ZL trivial V147.eq_1
  · subst hv
    simp only [] at h
    obtain ⟨rfl, qZ8⟩ := hq
    cases h
    exact qZ8
def S_spec_l4WalkL1 (nZ0 : TNetwork) (rZ0 : TRoute) (v : Int × List Int) : St := ⟨[(2, .pt 2 0 0), (3, .pt 3 0 0), (6, .sl 6 0 v.2.length), (7, .i v.1)], [(2, .var (.agg [.lst .o 1 (nZ0.Nodes.map AV.z), .lst .o 4 (nZ0.Fibers.map (e_TFiber .o))])), (3, .var (.agg [.i rZ0.Start, .lst .o 1 (rZ0.Fibers.map AV.i)])), (6, .arr 1 (v.2.map AV.i))]⟩
def SX_spec_l4WalkL1 (v : List Int) : St := ⟨[(6, .sl 6 0 v.length)], [(6, .arr 1 (v.map AV.i))]⟩
theorem w_spec_l4WalkL1 (nZ0 : TNetwork) (rZ0 : TRoute) (sZ8 : Int × List Int) (o : (Int × List Int) ⊕ ((List Int) ⊕ (List Int × Bool))) (h : M_spec_l4WalkL1 nZ0 rZ0 sZ8 = some o) : AWP (OkS Try.prog) A134L3 (qL [2, 3, 6, 7] [2, 3, 6] (S_spec_l4WalkL1 nZ0 rZ0) (qS (qX 0 [6] [6] (SX_spec_l4WalkL1)) (qR V134 (fun r => .tup [.lst .u 1 (r.1.map AV.i), .b r.2]))) o) (S_spec_l4WalkL1 nZ0 rZ0 sZ8) := by
  unfold M_spec_l4WalkL1 at h
  simp only [ZC, S_spec_l4WalkL1, A134L3]
  obtain ⟨cZ9, h⟩ | ⟨cZ9, h⟩ := cond_s h
  · obtain ⟨yZ10, hyZ10, h⟩ := bind_s h
    obtain ⟨hyZ10a, hyZ10b⟩ := geti_s hyZ10
    obtain ⟨rZ11, hrZ11, h⟩ := bind_s h
    refine ZF (ZA cZ9 (ZA hyZ10a hyZ10b)) ?_
    refine ZS (ZA cZ9 (ZA hyZ10a hyZ10b)) (w_spec_l1In _ _ _ hrZ11) ?_
    refine ZG ?_
    obtain ⟨cZ12, h⟩ | ⟨cZ12, h⟩ := cond_s h
    · cases h
      exact ZL (ZA cZ9 (ZA hyZ10a (ZA hyZ10b cZ12))) V134.eq_1
    · obtain ⟨kZ13, hkZ13, h⟩ := bind_s h
      obtain ⟨hkZ13a, hkZ13b⟩ := grd_s hkZ13
      obtain ⟨yZ14, hyZ14, h⟩ := bind_s h
      obtain ⟨rZ15, hrZ15, h⟩ := bind_s h
      refine ZF (ZA cZ9 (ZA hyZ10a (ZA hyZ10b (ZA cZ12 (ZA hkZ13a (ZA hkZ13b hyZ14)))))) ?_
      refine ZS (ZA cZ9 (ZA hyZ10a (ZA hyZ10b (ZA cZ12 (ZA hkZ13a (ZA hkZ13b hyZ14)))))) (w_spec_l2Other _ _ _ hrZ15) ?_
      refine ZG ?_
      obtain ⟨oZ18, hoZ18, h⟩ := bind_s h
      try refine ZF (ZA cZ9 (ZA hyZ10a (ZA hyZ10b (ZA cZ12 (ZA hkZ13a (ZA hkZ13b hyZ14)))))) ?_
      refine join_rule0 (sh := (fun v => ⟨[(2, .pt 2 0 0), (3, .pt 3 0 0), (6, .sl 6 0 sZ8.2.length), (7, .i sZ8.1), (8, .i rZ15), (65, .b v)], [(2, .var (.agg [.lst .o 1 (nZ0.Nodes.map AV.z), .lst .o 4 (nZ0.Fibers.map (e_TFiber .o))])), (3, .var (.agg [.i rZ0.Start, .lst .o 1 (rZ0.Fibers.map AV.i)])), (6, .arr 1 (sZ8.2.map AV.i))]⟩)) (s := oZ18) ?_ ?_
      · replace h := hoZ18
        obtain ⟨cZ16, h⟩ | ⟨cZ16, h⟩ := cond_s h
        · cases h
          exact ZL (ZA cZ9 (ZA hyZ10a (ZA hyZ10b (ZA cZ12 (ZA hkZ13a (ZA hkZ13b (ZA hyZ14 cZ16))))))) trivial
        · obtain ⟨rZ17, hrZ17, h⟩ := bind_s h
          refine ZF (ZA cZ9 (ZA hyZ10a (ZA hyZ10b (ZA cZ12 (ZA hkZ13a (ZA hkZ13b (ZA hyZ14 cZ16))))))) ?_
          refine ZS (ZA cZ9 (ZA hyZ10a (ZA hyZ10b (ZA cZ12 (ZA hkZ13a (ZA hkZ13b (ZA hyZ14 cZ16))))))) (w_spec_l1Has _ _ hrZ17) ?_
          refine ZG ?_
          cases h
          exact ZL (ZA cZ9 (ZA hyZ10a (ZA hyZ10b (ZA cZ12 (ZA hkZ13a (ZA hkZ13b (ZA hyZ14 cZ16))))))) trivial
      · simp only [ZC, A134R2]
        obtain ⟨cZ19, h⟩ | ⟨cZ19, h⟩ := cond_s h
        · cases h
          exact ZL (ZA cZ9 (ZA hyZ10a (ZA hyZ10b (ZA cZ12 (ZA hkZ13a (ZA hkZ13b (ZA hyZ14 cZ19))))))) V134.eq_1
        · obtain ⟨lZ20, hlZ20, h⟩ := bnd_s h
          have eZ21 : Row.arr 1 [(.i rZ15 : AV)] = Row.arr 1 (lZ20.map AV.i) := by rw [← hlZ20]; rfl
          have eZ22 : lZ20.length = 1 := by rw [← hlZ20]; rfl
          obtain ⟨uZ23, huZ23, h⟩ := bind_s h
          have huZ23g := grd_s huZ23
          obtain ⟨lZ24, hlZ24, h⟩ := bnd_s h
          have eZ25 : sZ8.2.map AV.i ++ lZ20.map AV.i = lZ24.map AV.i := by rw [← hlZ24, List.map_append]
          have eZ26 : sZ8.2.length + 1 = lZ24.length := by simp [← hlZ20, ← hlZ24] <;> omega
          rw [eZ26] at huZ23g
          cases h
          exact ZL (ZA cZ9 (ZA hyZ10a (ZA hyZ10b (ZA cZ12 (ZA hkZ13a (ZA hkZ13b (ZA hyZ14 (ZA cZ19 (ZA eZ21 (ZA eZ22 (ZA huZ23g (ZA eZ25 eZ26)))))))))))) (ZA S_spec_l4WalkL1.eq_1 (ZA SX_spec_l4WalkL1.eq_1 (ZA hlZ20.symm (ZA hlZ24.symm eZ22))))
  · cases h
    exact ZL cZ9 (ZA S_spec_l4WalkL1.eq_1 SX_spec_l4WalkL1.eq_1)
theorem w_spec_l4Walk (nZ0 : TNetwork) (rZ0 : TRoute) {r : List Int × Bool} (h : M_spec_l4Walk nZ0 rZ0 = some r) : Ok Try.prog 134 [.agg [.lst .o 1 (nZ0.Nodes.map AV.z), .lst .o 4 (nZ0.Fibers.map (e_TFiber .o))], .agg [.i rZ0.Start, .lst .o 1 (rZ0.Fibers.map AV.i)]] ((fun r => .tup [.lst .u 1 (r.1.map AV.i), .b r.2]) r) := by
  refine ok_of_body hmix m134 rfl ?_
  unfold M_spec_l4Walk at h
  simp only [ZC, A134, V134, body_eq]
  obtain ⟨lZ1, hlZ1, h⟩ := bnd_s h
  have eZ2 : Row.arr 1 [(.i rZ0.Start : AV)] = Row.arr 1 (lZ1.map AV.i) := by rw [← hlZ1]; rfl
  have eZ3 : lZ1.length = 1 := by rw [← hlZ1]; rfl
  obtain ⟨oZ6, hoZ6, h⟩ := bind_s h
  try refine ZF (ZA eZ2 eZ3) ?_
  refine join_rule0 (sh := (fun v => ⟨[(2, .pt 2 0 0), (3, .pt 3 0 0), (6, .sl 6 0 lZ1.length), (25, .b v)], [(2, .var (.agg [.lst .o 1 (nZ0.Nodes.map AV.z), .lst .o 4 (nZ0.Fibers.map (e_TFiber .o))])), (3, .var (.agg [.i rZ0.Start, .lst .o 1 (rZ0.Fibers.map AV.i)])), (6, .arr 1 (lZ1.map AV.i))]⟩)) (s := oZ6) ?_ ?_
  · replace h := hoZ6
    obtain ⟨rZ4, hrZ4, h⟩ := bind_s h
    refine ZF (ZA eZ2 eZ3) ?_
    refine ZS (ZA eZ2 eZ3) (w_spec_l1In _ _ _ hrZ4) ?_
    refine ZG ?_
    obtain ⟨cZ5, h⟩ | ⟨cZ5, h⟩ := cond_s h
    · cases h
      exact ZL (ZA eZ2 (ZA eZ3 cZ5)) (ZA hlZ1.symm eZ3)
    · cases h
      exact ZL (ZA eZ2 (ZA eZ3 cZ5)) (ZA hlZ1.symm eZ3)
  · simp only [ZC, A134R1]
    obtain ⟨cZ7, h⟩ | ⟨cZ7, h⟩ := cond_s h
    · cases h
      exact ZL (ZA eZ2 (ZA eZ3 cZ7)) (ZA V134.eq_1 eZ3)
    · obtain ⟨oZ27, hoZ27, h⟩ := bind_s h
      try refine ZF (ZA eZ2 (ZA eZ3 cZ7)) ?_
      refine join_rule (o := oZ27) (blk_rule sideR (loop_rule (w_spec_l4WalkL1 nZ0 rZ0) hoZ27 ?_)) (fun vZ28 hv => ?_) (fun xZ29 hv e τ hne hq => ?_)
      · exact ZK (ZA S_spec_l4WalkL1.eq_1 (ZA SX_spec_l4WalkL1.eq_1 eZ3))
      · subst hv
        simp only [] at h
        simp only [ZC, SX_spec_l4WalkL1, A134R4]
        cases h
        exact ZL (ZA eZ2 (ZA eZ3 cZ7)) (ZA V134.eq_1 eZ3)
      · subst hv
        simp only [] at h
        obtain ⟨rfl, qZ30⟩ := hq
        cases h
        exact qZ30
theorem w_spec_l4Good (nZ0 : TNetwork) (rZ0 : TRoute) {r : Bool} (h : M_spec_l4Good nZ0 rZ0 = some r) : Ok Try.prog 104 [.agg [.lst .o 1 (nZ0.Nodes.map AV.z), .lst .o 4 (nZ0.Fibers.map (e_TFiber .o))], .agg [.i rZ0.Start, .lst .o 1 (rZ0.Fibers.map AV.i)]] ((fun r => .b r) r) := by
  refine ok_of_body hmix m104 rfl ?_
  unfold M_spec_l4Good at h
  simp only [ZC, A104, V104, body_eq]
  obtain ⟨rZ1, hrZ1, h⟩ := bind_s h
  refine ZF trivial ?_
  refine ZS trivial (w_spec_l2Good _ hrZ1) ?_
  refine ZG ?_
  obtain ⟨cZ2, h⟩ | ⟨cZ2, h⟩ := cond_s h
  · cases h
    exact ZL cZ2 V104.eq_1
  · obtain ⟨rZ3, hrZ3, h⟩ := bind_s h
    refine ZF cZ2 ?_
    refine ZU cZ2 (w_spec_l4Walk _ _ hrZ3) ?_
    refine ZG ?_
    cases h
    exact ZL cZ2 V104.eq_1
def S_spec_l6MaskL1 (listZ0 : List Int) (v : Int × Int) : St := ⟨[(0, .lst .o 1 (listZ0.map AV.i)), (3, .i v.1), (4, .i v.2)], []⟩
def SX_spec_l6MaskL1 (v : Int) : St := ⟨[(3, .i v)], []⟩
theorem w_spec_l6MaskL1 (listZ0 : List Int) (sZ1 : Int × Int) (o : (Int × Int) ⊕ Int) (h : M_spec_l6MaskL1 listZ0 sZ1 = some o) : AWP (OkS Try.prog) A77L1 (qL [0, 3, 4] [] (S_spec_l6MaskL1 listZ0) (qX 0 [3] [] (SX_spec_l6MaskL1)) o) (S_spec_l6MaskL1 listZ0 sZ1) := by
  unfold M_spec_l6MaskL1 at h
  simp only [ZC, S_spec_l6MaskL1, A77L1]
  obtain ⟨cZ2, h⟩ | ⟨cZ2, h⟩ := cond_s h
  · obtain ⟨yZ3, hyZ3, h⟩ := bind_s h
    obtain ⟨hyZ3a, hyZ3b⟩ := geti_s hyZ3
    obtain ⟨uZ4, huZ4, h⟩ := bind_s h
    have huZ4g := grd_s huZ4
    cases h
    exact ZL (ZA cZ2 (ZA hyZ3a (ZA hyZ3b huZ4g))) (ZA S_spec_l6MaskL1.eq_1 SX_spec_l6MaskL1.eq_1)
  · cases h
    exact ZL cZ2 (ZA S_spec_l6MaskL1.eq_1 SX_spec_l6MaskL1.eq_1)
theorem w_spec_l6Mask (listZ0 : List Int) {r : Int} (h : M_spec_l6Mask listZ0 = some r) : Ok Try.prog 77 [.lst .o 1 (listZ0.map AV.i)] ((fun r => .i r) r) := by
  refine ok_of_body hmix m77 rfl ?_
  unfold M_spec_l6Mask at h
  simp only [ZC, A77, V77, body_eq]
  obtain ⟨oZ5, hoZ5, h⟩ := bind_s h
  try refine ZF trivial ?_
  refine join_rule0 (blk_rule0 (loop_rule (w_spec_l6MaskL1 listZ0) hoZ5 ?_)) ?_
  · exact ZK (ZA S_spec_l6MaskL1.eq_1 SX_spec_l6MaskL1.eq_1)
  · simp only [ZC, SX_spec_l6MaskL1, A77R2]
    cases h
    exact ZL trivial V77.eq_1
def S_spec_l16GoneL1 (groupsZ0 : List (List Int)) (maskZ0 : Int) (v : Int × Int) : St := ⟨[(0, .lst .o 1 (groupsZ0.map (e_Li .o))), (1, .i maskZ0), (5, .i v.1), (6, .i v.2)], []⟩
def SX_spec_l16GoneL1 (v : Int) : St := ⟨[(5, .i v)], []⟩
theorem w_spec_l16GoneL1 (groupsZ0 : List (List Int)) (maskZ0 : Int) (sZ1 : Int × Int) (o : (Int × Int) ⊕ Int) (h : M_spec_l16GoneL1 groupsZ0 maskZ0 sZ1 = some o) : AWP (OkS Try.prog) A94L1 (qL [0, 1, 5, 6] [] (S_spec_l16GoneL1 groupsZ0 maskZ0) (qX 0 [5] [] (SX_spec_l16GoneL1)) o) (S_spec_l16GoneL1 groupsZ0 maskZ0 sZ1) := by
  unfold M_spec_l16GoneL1 at h
  simp only [ZC, S_spec_l16GoneL1, A94L1]
  obtain ⟨cZ2, h⟩ | ⟨cZ2, h⟩ := cond_s h
  · obtain ⟨uZ3, huZ3, h⟩ := bind_s h
    have huZ3g := grd_s huZ3
    obtain ⟨cZ4, h⟩ | ⟨cZ4, h⟩ := cond_s h
    · obtain ⟨yZ5, hyZ5, h⟩ := bind_s h
      obtain ⟨hyZ5a, hyZ5b⟩ := geti_s hyZ5
      obtain ⟨rZ6, hrZ6, h⟩ := bind_s h
      refine ZF (ZA cZ2 (ZA huZ3g (ZA cZ4 (ZA hyZ5a hyZ5b)))) ?_
      refine ZS (ZA cZ2 (ZA huZ3g (ZA cZ4 (ZA hyZ5a hyZ5b)))) (w_spec_l6Mask _ hrZ6) ?_
      refine ZG ?_
      cases h
      exact ZL (ZA cZ2 (ZA huZ3g (ZA cZ4 (ZA hyZ5a hyZ5b)))) (ZA S_spec_l16GoneL1.eq_1 SX_spec_l16GoneL1.eq_1)
    · cases h
      exact ZL (ZA cZ2 (ZA huZ3g cZ4)) (ZA S_spec_l16GoneL1.eq_1 SX_spec_l16GoneL1.eq_1)
  · cases h
    exact ZL cZ2 (ZA S_spec_l16GoneL1.eq_1 SX_spec_l16GoneL1.eq_1)
theorem w_spec_l16Gone (groupsZ0 : List (List Int)) (maskZ0 : Int) {r : Int} (h : M_spec_l16Gone groupsZ0 maskZ0 = some r) : Ok Try.prog 94 [.lst .o 1 (groupsZ0.map (e_Li .o)), .i maskZ0] ((fun r => .i r) r) := by
  refine ok_of_body hmix m94 rfl ?_
  unfold M_spec_l16Gone at h
  simp only [ZC, A94, V94, body_eq]
  obtain ⟨oZ7, hoZ7, h⟩ := bind_s h
  try refine ZF trivial ?_
  refine join_rule0 (blk_rule0 (loop_rule (w_spec_l16GoneL1 groupsZ0 maskZ0) hoZ7 ?_)) ?_
  · exact ZK (ZA S_spec_l16GoneL1.eq_1 SX_spec_l16GoneL1.eq_1)
  · simp only [ZC, SX_spec_l16GoneL1, A94R2]
    cases h
    exact ZL trivial V94.eq_1
def S_spec_l16WeightL1 (oZ0 : TOutage) (maskZ0 : Int) (v : Int × Int) : St := ⟨[(1, .i maskZ0), (2, .pt 2 0 0), (5, .i v.1), (6, .i v.2)], [(2, .var (.agg [.i oZ0.Unit, .lst .o 1 (oZ0.Down.map AV.i)]))]⟩
def SX_spec_l16WeightL1 (v : Int) : St := ⟨[(5, .i v)], []⟩
theorem w_spec_l16WeightL1 (oZ0 : TOutage) (maskZ0 : Int) (sZ1 : Int × Int) (o : (Int × Int) ⊕ Int) (h : M_spec_l16WeightL1 oZ0 maskZ0 sZ1 = some o) : AWP (OkS Try.prog) A76L1 (qL [1, 2, 5, 6] [2] (S_spec_l16WeightL1 oZ0 maskZ0) (qX 0 [5] [] (SX_spec_l16WeightL1)) o) (S_spec_l16WeightL1 oZ0 maskZ0 sZ1) := by
  unfold M_spec_l16WeightL1 at h
  simp only [ZC, S_spec_l16WeightL1, A76L1]
  obtain ⟨cZ2, h⟩ | ⟨cZ2, h⟩ := cond_s h
  · obtain ⟨uZ3, huZ3, h⟩ := bind_s h
    have huZ3g := grd_s huZ3
    obtain ⟨cZ4, h⟩ | ⟨cZ4, h⟩ := cond_s h
    · obtain ⟨yZ5, hyZ5, h⟩ := bind_s h
      obtain ⟨hyZ5a, hyZ5b⟩ := geti_s hyZ5
      cases h
      exact ZL (ZA cZ2 (ZA huZ3g (ZA cZ4 (ZA hyZ5a hyZ5b)))) (ZA S_spec_l16WeightL1.eq_1 SX_spec_l16WeightL1.eq_1)
    · obtain ⟨yZ6, hyZ6, h⟩ := bind_s h
      obtain ⟨hyZ6a, hyZ6b⟩ := geti_s hyZ6
      cases h
      exact ZL (ZA cZ2 (ZA huZ3g (ZA cZ4 (ZA hyZ6a hyZ6b)))) (ZA S_spec_l16WeightL1.eq_1 SX_spec_l16WeightL1.eq_1)
  · cases h
    exact ZL cZ2 (ZA S_spec_l16WeightL1.eq_1 SX_spec_l16WeightL1.eq_1)
theorem w_spec_l16Weight (oZ0 : TOutage) (maskZ0 : Int) {r : Int} (h : M_spec_l16Weight oZ0 maskZ0 = some r) : Ok Try.prog 76 [.agg [.i oZ0.Unit, .lst .o 1 (oZ0.Down.map AV.i)], .i maskZ0] ((fun r => .i r) r) := by
  refine ok_of_body hmix m76 rfl ?_
  unfold M_spec_l16Weight at h
  simp only [ZC, A76, V76, body_eq]
  obtain ⟨oZ7, hoZ7, h⟩ := bind_s h
  try refine ZF trivial ?_
  refine join_rule0 (blk_rule0 (loop_rule (w_spec_l16WeightL1 oZ0 maskZ0) hoZ7 ?_)) ?_
  · exact ZK (ZA S_spec_l16WeightL1.eq_1 SX_spec_l16WeightL1.eq_1)
  · simp only [ZC, SX_spec_l16WeightL1, A76R2]
    cases h
    exact ZL trivial V76.eq_1
def S_spec_PairAvailabilityL1 (oZ0 : TOutage) (aZ0 : TRoute) (bZ0 : TRoute) (rZ8 : List (List Int)) (v : Int × Int) : St := ⟨[(5, .pt 5 0 0), (6, .pt 6 0 0), (7, .pt 7 0 0), (10, .sl 10 0 rZ8.length), (11, .i v.1), (12, .i v.2)], [(5, .var (.agg [.i oZ0.Unit, .lst .o 1 (oZ0.Down.map AV.i)])), (6, .var (.agg [.i aZ0.Start, .lst .o 1 (aZ0.Fibers.map AV.i)])), (7, .var (.agg [.i bZ0.Start, .lst .o 1 (bZ0.Fibers.map AV.i)])), (10, .arr 1 (rZ8.map (e_Li .u)))]⟩
def SX_spec_PairAvailabilityL1 (v : Int) : St := ⟨[(11, .i v)], []⟩
theorem w_spec_PairAvailabilityL1 (oZ0 : TOutage) (aZ0 : TRoute) (bZ0 : TRoute) (rZ8 : List (List Int)) (sZ9 : Int × Int) (o : (Int × Int) ⊕ Int) (h : M_spec_PairAvailabilityL1 oZ0 aZ0 bZ0 rZ8 sZ9 = some o) : AWP (OkS Try.prog) A51L3 (qL [5, 6, 7, 10, 11, 12] [5, 6, 7, 10] (S_spec_PairAvailabilityL1 oZ0 aZ0 bZ0 rZ8) (qX 0 [11] [] (SX_spec_PairAvailabilityL1)) o) (S_spec_PairAvailabilityL1 oZ0 aZ0 bZ0 rZ8 sZ9) := by
  unfold M_spec_PairAvailabilityL1 at h
  simp only [ZC, S_spec_PairAvailabilityL1, A51L3]
  obtain ⟨uZ10, huZ10, h⟩ := bind_s h
  have huZ10g := grd_s huZ10
  obtain ⟨cZ11, h⟩ | ⟨cZ11, h⟩ := cond_s h
  · obtain ⟨rZ12, hrZ12, h⟩ := bind_s h
    refine ZF (ZA huZ10g cZ11) ?_
    refine ZS (ZA huZ10g cZ11) (w_spec_l16Gone _ _ hrZ12) ?_
    refine ZG ?_
    obtain ⟨oZ16, hoZ16, h⟩ := bind_s h
    try refine ZF (ZA huZ10g cZ11) ?_
    refine join_rule0 (sh := (fun v => ⟨[(5, .pt 5 0 0), (6, .pt 6 0 0), (7, .pt 7 0 0), (10, .sl 10 0 rZ8.length), (11, .i sZ9.1), (12, .i sZ9.2), (56, .b v)], [(5, .var (.agg [.i oZ0.Unit, .lst .o 1 (oZ0.Down.map AV.i)])), (6, .var (.agg [.i aZ0.Start, .lst .o 1 (aZ0.Fibers.map AV.i)])), (7, .var (.agg [.i bZ0.Start, .lst .o 1 (bZ0.Fibers.map AV.i)])), (10, .arr 1 (rZ8.map (e_Li .u)))]⟩)) (s := oZ16) ?_ ?_
    · replace h := hoZ16
      obtain ⟨rZ13, hrZ13, h⟩ := bind_s h
      refine ZF (ZA huZ10g cZ11) ?_
      refine ZS (ZA huZ10g cZ11) (w_spec_l6Mask _ hrZ13) ?_
      refine ZG ?_
      obtain ⟨cZ14, h⟩ | ⟨cZ14, h⟩ := cond_s h
      · cases h
        exact ZL (ZA huZ10g (ZA cZ11 cZ14)) trivial
      · obtain ⟨rZ15, hrZ15, h⟩ := bind_s h
        refine ZF (ZA huZ10g (ZA cZ11 cZ14)) ?_
        refine ZS (ZA huZ10g (ZA cZ11 cZ14)) (w_spec_l6Mask _ hrZ15) ?_
        refine ZG ?_
        cases h
        exact ZL (ZA huZ10g (ZA cZ11 cZ14)) trivial
    · simp only [ZC, A51R2]
      obtain ⟨cZ17, h⟩ | ⟨cZ17, h⟩ := cond_s h
      · obtain ⟨rZ18, hrZ18, h⟩ := bind_s h
        refine ZF (ZA huZ10g (ZA cZ11 cZ17)) ?_
        refine ZS (ZA huZ10g (ZA cZ11 cZ17)) (w_spec_l16Weight _ _ hrZ18) ?_
        refine ZG ?_
        cases h
        exact ZL (ZA huZ10g (ZA cZ11 cZ17)) (ZA S_spec_PairAvailabilityL1.eq_1 SX_spec_PairAvailabilityL1.eq_1)
      · cases h
        exact ZL (ZA huZ10g (ZA cZ11 cZ17)) (ZA S_spec_PairAvailabilityL1.eq_1 SX_spec_PairAvailabilityL1.eq_1)
  · cases h
    exact ZL (ZA huZ10g cZ11) (ZA S_spec_PairAvailabilityL1.eq_1 SX_spec_PairAvailabilityL1.eq_1)
theorem w_spec_PairAvailability (nZ0 : TNetwork) (oZ0 : TOutage) (aZ0 : TRoute) (bZ0 : TRoute) {r : Int × Bool} (h : M_spec_PairAvailability nZ0 oZ0 aZ0 bZ0 = some r) : Ok Try.prog 51 [.agg [.lst .o 1 (nZ0.Nodes.map AV.z), .lst .o 4 (nZ0.Fibers.map (e_TFiber .o))], .agg [.i oZ0.Unit, .lst .o 1 (oZ0.Down.map AV.i)], .agg [.i aZ0.Start, .lst .o 1 (aZ0.Fibers.map AV.i)], .agg [.i bZ0.Start, .lst .o 1 (bZ0.Fibers.map AV.i)]] ((fun r => .tup [.i r.1, .b r.2]) r) := by
  refine ok_of_body hmix m51 rfl ?_
  unfold M_spec_PairAvailability at h
  simp only [ZC, A51, V51, body_eq]
  obtain ⟨oZ6, hoZ6, h⟩ := bind_s h
  try refine ZF trivial ?_
  refine join_rule0 (sh := (fun v => ⟨[(4, .pt 4 0 0), (5, .pt 5 0 0), (6, .pt 6 0 0), (7, .pt 7 0 0), (29, .b v)], [(4, .var (.agg [.lst .o 1 (nZ0.Nodes.map AV.z), .lst .o 4 (nZ0.Fibers.map (e_TFiber .o))])), (5, .var (.agg [.i oZ0.Unit, .lst .o 1 (oZ0.Down.map AV.i)])), (6, .var (.agg [.i aZ0.Start, .lst .o 1 (aZ0.Fibers.map AV.i)])), (7, .var (.agg [.i bZ0.Start, .lst .o 1 (bZ0.Fibers.map AV.i)]))]⟩)) (s := oZ6) ?_ ?_
  · replace h := hoZ6
    obtain ⟨rZ1, hrZ1, h⟩ := bind_s h
    refine ZF trivial ?_
    refine ZS trivial (w_spec_l16Good _ _ hrZ1) ?_
    refine ZG ?_
    obtain ⟨cZ2, h⟩ | ⟨cZ2, h⟩ := cond_s h
    · cases h
      exact ZL cZ2 trivial
    · obtain ⟨rZ3, hrZ3, h⟩ := bind_s h
      refine ZF cZ2 ?_
      refine ZS cZ2 (w_spec_l4Good _ _ hrZ3) ?_
      refine ZG ?_
      obtain ⟨cZ4, h⟩ | ⟨cZ4, h⟩ := cond_s h
      · cases h
        exact ZL (ZA cZ2 cZ4) trivial
      · obtain ⟨rZ5, hrZ5, h⟩ := bind_s h
        refine ZF (ZA cZ2 cZ4) ?_
        refine ZS (ZA cZ2 cZ4) (w_spec_l4Good _ _ hrZ5) ?_
        refine ZG ?_
        cases h
        exact ZL (ZA cZ2 cZ4) trivial
  · simp only [ZC, A51R1]
    obtain ⟨cZ7, h⟩ | ⟨cZ7, h⟩ := cond_s h
    · cases h
      exact ZL cZ7 V51.eq_1
    · obtain ⟨rZ8, hrZ8, h⟩ := bind_s h
      refine ZF cZ7 ?_
      refine ZU cZ7 (w_spec_l2Groups _ hrZ8) ?_
      refine ZG ?_
      obtain ⟨oZ19, hoZ19, h⟩ := bind_s h
      try refine ZF cZ7 ?_
      refine join_rule0 (blk_rule0 (loop_rule (w_spec_PairAvailabilityL1 oZ0 aZ0 bZ0 rZ8) hoZ19 ?_)) ?_
      · exact ZK (ZA S_spec_PairAvailabilityL1.eq_1 SX_spec_PairAvailabilityL1.eq_1)
      · simp only [ZC, SX_spec_PairAvailabilityL1, A51R4]
        cases h
        exact ZL cZ7 V51.eq_1
theorem w_spec_RouteAvailability (nZ0 : TNetwork) (oZ0 : TOutage) (rZ0 : TRoute) {r : Int × Bool} (h : M_spec_RouteAvailability nZ0 oZ0 rZ0 = some r) : Ok Try.prog 55 [.agg [.lst .o 1 (nZ0.Nodes.map AV.z), .lst .o 4 (nZ0.Fibers.map (e_TFiber .o))], .agg [.i oZ0.Unit, .lst .o 1 (oZ0.Down.map AV.i)], .agg [.i rZ0.Start, .lst .o 1 (rZ0.Fibers.map AV.i)]] ((fun r => .tup [.i r.1, .b r.2]) r) := by
  refine ok_of_body hmix m55 rfl ?_
  unfold M_spec_RouteAvailability at h
  simp only [ZC, A55, V55, body_eq]
  obtain ⟨rZ1, hrZ1, h⟩ := bind_s h
  refine ZF trivial ?_
  refine ZU trivial (w_spec_PairAvailability _ _ _ _ hrZ1) ?_
  refine ZG ?_
  cases h
  exact ZL trivial V55.eq_1
theorem w_impl_within (nZ0 : Int) (lowZ0 : Int) (highZ0 : Int) {r : Bool} (h : M_impl_within nZ0 lowZ0 highZ0 = some r) : Ok Try.prog 66 [.i nZ0, .i lowZ0, .i highZ0] ((fun r => .b r) r) := by
  refine ok_of_body hmix m66 rfl ?_
  unfold M_impl_within at h
  simp only [ZC, A66, V66, body_eq]
  obtain ⟨cZ1, h⟩ | ⟨cZ1, h⟩ := cond_s h
  · cases h
    exact ZL cZ1 V66.eq_1
  · cases h
    exact ZL cZ1 V66.eq_1
def S_impl_isNameL1 (sZ0 : ByteArray) (v : Int) : St := ⟨[(0, .z sZ0), (7, .i (sZ0.size : Int)), (8, .i v)], []⟩
def SX_impl_isNameL1 (sZ0 : ByteArray) (v : Unit) : St := ⟨[(0, .z sZ0)], []⟩
theorem w_impl_isNameL1 (sZ0 : ByteArray) (sZ1 : Int) (o : Int ⊕ (Unit ⊕ Bool)) (h : M_impl_isNameL1 sZ0 sZ1 = some o) : AWP (OkS Try.prog) A113L2 (qL [0, 7, 8] [] (S_impl_isNameL1 sZ0) (qS (qX 0 [0] [] (SX_impl_isNameL1 sZ0)) (qR V113 (fun r => .b r))) o) (S_impl_isNameL1 sZ0 sZ1) := by
  unfold M_impl_isNameL1 at h
  simp only [ZC, S_impl_isNameL1, A113L2]
  obtain ⟨cZ2, h⟩ | ⟨cZ2, h⟩ := cond_s h
  · obtain ⟨oZ7, hoZ7, h⟩ := bind_s h
    try refine ZF cZ2 ?_
    refine join_rule0 (sh := (fun v => ⟨[(0, .z sZ0), (3, .i sZ1), (4, .b v.1), (5, .b v.2), (7, .i (sZ0.size : Int)), (8, .i sZ1)], []⟩)) (s := oZ7) ?_ ?_
    · replace h := hoZ7
      obtain ⟨yZ3, hyZ3, h⟩ := bind_s h
      obtain ⟨hyZ3a, hyZ3b⟩ := getz_s hyZ3
      obtain ⟨cZ4, h⟩ | ⟨cZ4, h⟩ := cond_s h
      · obtain ⟨cZ5, h⟩ | ⟨cZ5, h⟩ := cond_s h
        · cases h
          exact ZL (ZA cZ2 (ZA hyZ3a (ZA hyZ3b (ZA cZ4 cZ5)))) trivial
        · cases h
          exact ZL (ZA cZ2 (ZA hyZ3a (ZA hyZ3b (ZA cZ4 cZ5)))) trivial
      · obtain ⟨cZ6, h⟩ | ⟨cZ6, h⟩ := cond_s h
        · cases h
          exact ZL (ZA cZ2 (ZA hyZ3a (ZA hyZ3b (ZA cZ4 cZ6)))) trivial
        · cases h
          exact ZL (ZA cZ2 (ZA hyZ3a (ZA hyZ3b (ZA cZ4 cZ6)))) trivial
    · simp only [ZC, A113R1]
      obtain ⟨cZ8, h⟩ | ⟨cZ8, h⟩ := cond_s h
      · obtain ⟨cZ9, h⟩ | ⟨cZ9, h⟩ := cond_s h
        · cases h
          exact ZL (ZA cZ2 (ZA cZ8 cZ9)) V113.eq_1
        · obtain ⟨cZ10, h⟩ | ⟨cZ10, h⟩ := cond_s h
          · cases h
            exact ZL (ZA cZ2 (ZA cZ8 (ZA cZ9 cZ10))) V113.eq_1
          · cases h
            exact ZL (ZA cZ2 (ZA cZ8 (ZA cZ9 cZ10))) (ZA S_impl_isNameL1.eq_1 SX_impl_isNameL1.eq_1)
      · cases h
        exact ZL (ZA cZ2 cZ8) (ZA S_impl_isNameL1.eq_1 SX_impl_isNameL1.eq_1)
  · cases h
    exact ZL cZ2 (ZA S_impl_isNameL1.eq_1 SX_impl_isNameL1.eq_1)
theorem w_impl_isName (sZ0 : ByteArray) {r : Bool} (h : M_impl_isName sZ0 = some r) : Ok Try.prog 113 [.z sZ0] ((fun r => .b r) r) := by
  refine ok_of_body hmix m113 rfl ?_
  unfold M_impl_isName at h
  simp only [ZC, A113, V113, body_eq]
  obtain ⟨oZ11, hoZ11, h⟩ := bind_s h
  try refine ZF trivial ?_
  refine join_rule (o := oZ11) (blk_rule sideR (loop_rule (w_impl_isNameL1 sZ0) hoZ11 ?_)) (fun vZ12 hv => ?_) (fun xZ13 hv e τ hne hq => ?_)
  · exact ZK (ZA S_impl_isNameL1.eq_1 SX_impl_isNameL1.eq_1)
  · subst hv
    simp only [] at h
    simp only [ZC, SX_impl_isNameL1, A113R3]
    obtain ⟨rZ14, hrZ14, h⟩ := bind_s h
    refine ZF trivial ?_
    refine ZS trivial (w_impl_within _ _ _ hrZ14) ?_
    refine ZG ?_
    cases h
    exact ZL trivial V113.eq_1
  · subst hv
    simp only [] at h
    obtain ⟨rfl, qZ15⟩ := hq
    cases h
    exact qZ15
def S_slices_Index_Lstring_stringL1 (sZ0 : List ByteArray) (vZ0 : ByteArray) (v : Int) : St := ⟨[(0, .lst .o 1 (sZ0.map AV.z)), (1, .z vZ0), (7, .i (sZ0.length : Int)), (8, .i v)], []⟩
def SX_slices_Index_Lstring_stringL1 (v : Unit) : St := ⟨[], []⟩
theorem w_slices_Index_Lstring_stringL1 (sZ0 : List ByteArray) (vZ0 : ByteArray) (sZ1 : Int) (o : Int ⊕ (Unit ⊕ Int)) (h : M_slices_Index_Lstring_stringL1 sZ0 vZ0 sZ1 = some o) : AWP (OkS Try.prog) A139L1 (qL [0, 1, 7, 8] [] (S_slices_Index_Lstring_stringL1 sZ0 vZ0) (qS (qX 0 [] [] (SX_slices_Index_Lstring_stringL1)) (qR V139 (fun r => .i r))) o) (S_slices_Index_Lstring_stringL1 sZ0 vZ0 sZ1) := by
  unfold M_slices_Index_Lstring_stringL1 at h
  simp only [ZC, S_slices_Index_Lstring_stringL1, A139L1]
  obtain ⟨cZ2, h⟩ | ⟨cZ2, h⟩ := cond_s h
  · obtain ⟨yZ3, hyZ3, h⟩ := bind_s h
    obtain ⟨hyZ3a, hyZ3b⟩ := geti_s hyZ3
    obtain ⟨cZ4, h⟩ | ⟨cZ4, h⟩ := cond_s h
    · cases h
      exact ZL (ZA cZ2 (ZA hyZ3a (ZA hyZ3b cZ4))) V139.eq_1
    · cases h
      exact ZL (ZA cZ2 (ZA hyZ3a (ZA hyZ3b cZ4))) (ZA S_slices_Index_Lstring_stringL1.eq_1 SX_slices_Index_Lstring_stringL1.eq_1)
  · cases h
    exact ZL cZ2 (ZA S_slices_Index_Lstring_stringL1.eq_1 SX_slices_Index_Lstring_stringL1.eq_1)
theorem w_slices_Index_Lstring_string (sZ0 : List ByteArray) (vZ0 : ByteArray) {r : Int} (h : M_slices_Index_Lstring_string sZ0 vZ0 = some r) : Ok Try.prog 139 [.lst .o 1 (sZ0.map AV.z), .z vZ0] ((fun r => .i r) r) := by
  refine ok_of_body hmix m139 rfl ?_
  unfold M_slices_Index_Lstring_string at h
  simp only [ZC, A139, V139, body_eq]
  obtain ⟨oZ5, hoZ5, h⟩ := bind_s h
  try refine ZF trivial ?_
  refine join_rule (o := oZ5) (blk_rule sideR (loop_rule (w_slices_Index_Lstring_stringL1 sZ0 vZ0) hoZ5 ?_)) (fun vZ6 hv => ?_) (fun xZ7 hv e τ hne hq => ?_)
  · exact ZK (ZA S_slices_Index_Lstring_stringL1.eq_1 SX_slices_Index_Lstring_stringL1.eq_1)
  · subst hv
    simp only [] at h
    simp only [ZC, SX_slices_Index_Lstring_stringL1, A139R2]
    cases h
    exact ZL trivial V139.eq_1
  · subst hv
    simp only [] at h
    obtain ⟨rfl, qZ8⟩ := hq
    cases h
    exact qZ8
theorem w_slices_Contains_Lstring_string (sZ0 : List ByteArray) (vZ0 : ByteArray) {r : Bool} (h : M_slices_Contains_Lstring_string sZ0 vZ0 = some r) : Ok Try.prog 114 [.lst .o 1 (sZ0.map AV.z), .z vZ0] ((fun r => .b r) r) := by
  refine ok_of_body hmix m114 rfl ?_
  unfold M_slices_Contains_Lstring_string at h
  simp only [ZC, A114, V114, body_eq]
  obtain ⟨rZ1, hrZ1, h⟩ := bind_s h
  refine ZF trivial ?_
  refine ZS trivial (w_slices_Index_Lstring_string _ _ hrZ1) ?_
  refine ZG ?_
  cases h
  exact ZL trivial V114.eq_1
theorem w_cmp_isNaN_int (xZ0 : Int) {r : Bool} (h : M_cmp_isNaN_int xZ0 = some r) : Ok Try.prog 151 [.i xZ0] ((fun r => .b r) r) := by
  refine ok_of_body hmix m151 rfl ?_
  unfold M_cmp_isNaN_int at h
  simp only [ZC, A151, V151, body_eq]
  cases h
  exact ZL trivial V151.eq_1
theorem w_cmp_Compare_int (xZ0 : Int) (yZ0 : Int) {r : Int} (h : M_cmp_Compare_int xZ0 yZ0 = some r) : Ok Try.prog 141 [.i xZ0, .i yZ0] ((fun r => .i r) r) := by
  refine ok_of_body hmix m141 rfl ?_
  unfold M_cmp_Compare_int at h
  simp only [ZC, A141, V141, body_eq]
  obtain ⟨rZ1, hrZ1, h⟩ := bind_s h
  refine ZF trivial ?_
  refine ZS trivial (w_cmp_isNaN_int _ hrZ1) ?_
  refine ZG ?_
  obtain ⟨rZ2, hrZ2, h⟩ := bind_s h
  refine ZF trivial ?_
  refine ZS trivial (w_cmp_isNaN_int _ hrZ2) ?_
  refine ZG ?_
  obtain ⟨cZ3, h⟩ | ⟨cZ3, h⟩ := cond_s h
  · obtain ⟨cZ4, h⟩ | ⟨cZ4, h⟩ := cond_s h
    · cases h
      exact ZL (ZA cZ3 cZ4) V141.eq_1
    · cases h
      exact ZL (ZA cZ3 cZ4) V141.eq_1
  · obtain ⟨cZ5, h⟩ | ⟨cZ5, h⟩ := cond_s h
    · cases h
      exact ZL (ZA cZ3 cZ5) V141.eq_1
    · obtain ⟨cZ6, h⟩ | ⟨cZ6, h⟩ := cond_s h
      · cases h
        exact ZL (ZA cZ3 (ZA cZ5 cZ6)) V141.eq_1
      · obtain ⟨cZ7, h⟩ | ⟨cZ7, h⟩ := cond_s h
        · cases h
          exact ZL (ZA cZ3 (ZA cZ5 (ZA cZ6 cZ7))) V141.eq_1
        · cases h
          exact ZL (ZA cZ3 (ZA cZ5 (ZA cZ6 cZ7))) V141.eq_1
def S_cmp_Or_intL1 (valsZ0 : List Int) (v : Int) : St := ⟨[(3, .i 0), (6, .lst .o 1 (valsZ0.map AV.i)), (7, .i (valsZ0.length : Int)), (8, .i v)], []⟩
def SX_cmp_Or_intL1 (v : Unit) : St := ⟨[(3, .i 0)], []⟩
theorem w_cmp_Or_intL1 (valsZ0 : List Int) (sZ1 : Int) (o : Int ⊕ (Unit ⊕ Int)) (h : M_cmp_Or_intL1 valsZ0 sZ1 = some o) : AWP (OkS Try.prog) A140L1 (qL [3, 6, 7, 8] [] (S_cmp_Or_intL1 valsZ0) (qS (qX 0 [3] [] (SX_cmp_Or_intL1)) (qR V140 (fun r => .i r))) o) (S_cmp_Or_intL1 valsZ0 sZ1) := by
  unfold M_cmp_Or_intL1 at h
  simp only [ZC, S_cmp_Or_intL1, A140L1]
  obtain ⟨cZ2, h⟩ | ⟨cZ2, h⟩ := cond_s h
  · obtain ⟨yZ3, hyZ3, h⟩ := bind_s h
    obtain ⟨hyZ3a, hyZ3b⟩ := geti_s hyZ3
    obtain ⟨cZ4, h⟩ | ⟨cZ4, h⟩ := cond_s h
    · cases h
      exact ZL (ZA cZ2 (ZA hyZ3a (ZA hyZ3b cZ4))) V140.eq_1
    · cases h
      exact ZL (ZA cZ2 (ZA hyZ3a (ZA hyZ3b cZ4))) (ZA S_cmp_Or_intL1.eq_1 SX_cmp_Or_intL1.eq_1)
  · cases h
    exact ZL cZ2 (ZA S_cmp_Or_intL1.eq_1 SX_cmp_Or_intL1.eq_1)
theorem w_cmp_Or_int (valsZ0 : List Int) {r : Int} (h : M_cmp_Or_int valsZ0 = some r) : Ok Try.prog 140 [.lst .o 1 (valsZ0.map AV.i)] ((fun r => .i r) r) := by
  refine ok_of_body hmix m140 rfl ?_
  unfold M_cmp_Or_int at h
  simp only [ZC, A140, V140, body_eq]
  obtain ⟨oZ5, hoZ5, h⟩ := bind_s h
  try refine ZF trivial ?_
  refine join_rule (o := oZ5) (blk_rule sideR (loop_rule (w_cmp_Or_intL1 valsZ0) hoZ5 ?_)) (fun vZ6 hv => ?_) (fun xZ7 hv e τ hne hq => ?_)
  · exact ZK (ZA S_cmp_Or_intL1.eq_1 SX_cmp_Or_intL1.eq_1)
  · subst hv
    simp only [] at h
    simp only [ZC, SX_cmp_Or_intL1, A140R2]
    cases h
    exact ZL trivial V140.eq_1
  · subst hv
    simp only [] at h
    obtain ⟨rfl, qZ8⟩ := hq
    cases h
    exact qZ8
theorem w_impl_compareFibers (aZ0 : TFiber) (bZ0 : TFiber) {r : Int} (h : M_impl_compareFibers aZ0 bZ0 = some r) : Ok Try.prog 115 [.agg [.i aZ0.A, .i aZ0.B, .i aZ0.Length, .i aZ0.Risk], .agg [.i bZ0.A, .i bZ0.B, .i bZ0.Length, .i bZ0.Risk]] ((fun r => .i r) r) := by
  refine ok_of_body hmix m115 rfl ?_
  unfold M_impl_compareFibers at h
  simp only [ZC, A115, V115, body_eq]
  obtain ⟨rZ1, hrZ1, h⟩ := bind_s h
  refine ZF trivial ?_
  refine ZS trivial (w_cmp_Compare_int _ _ hrZ1) ?_
  refine ZG ?_
  obtain ⟨rZ2, hrZ2, h⟩ := bind_s h
  refine ZF trivial ?_
  refine ZS trivial (w_cmp_Compare_int _ _ hrZ2) ?_
  refine ZG ?_
  obtain ⟨rZ3, hrZ3, h⟩ := bind_s h
  refine ZF trivial ?_
  refine ZS trivial (w_cmp_Compare_int _ _ hrZ3) ?_
  refine ZG ?_
  obtain ⟨rZ4, hrZ4, h⟩ := bind_s h
  refine ZF trivial ?_
  refine ZS trivial (w_cmp_Compare_int _ _ hrZ4) ?_
  refine ZG ?_
  obtain ⟨lZ5, hlZ5, h⟩ := bnd_s h
  have eZ6 : Row.arr 1 [(.i rZ1 : AV), (.i rZ2 : AV), (.i rZ3 : AV), (.i rZ4 : AV)] = Row.arr 1 (lZ5.map AV.i) := by rw [← hlZ5]; rfl
  have eZ7 : lZ5.length = 4 := by rw [← hlZ5]; rfl
  have nZ8 : sub (lZ5.map AV.i) 0 4 = lZ5.map AV.i := sub_n _ (by simp [← hlZ5])
  obtain ⟨rZ9, hrZ9, h⟩ := bind_s h
  refine ZF (ZA eZ6 (ZA eZ7 nZ8)) ?_
  refine ZS (ZA eZ6 (ZA eZ7 nZ8)) (w_cmp_Or_int _ hrZ9) ?_
  refine ZG ?_
  cases h
  exact ZL (ZA eZ6 (ZA eZ7 nZ8)) (ZA V115.eq_1 (ZA hlZ5.symm eZ7))
def S_impl_IsValidNetworkL1 (nZ0 : TNetwork) (v : Int) : St := ⟨[(1, .pt 1 0 0), (8, .lst .o 1 (nZ0.Nodes.map AV.z)), (9, .i (nZ0.Nodes.length : Int)), (10, .i v)], [(1, .var (.agg [.lst .o 1 (nZ0.Nodes.map AV.z), .lst .o 4 (nZ0.Fibers.map (e_TFiber .o))]))]⟩
def SX_impl_IsValidNetworkL1 (nZ0 : TNetwork) (v : Unit) : St := ⟨[(1, .pt 1 0 0)], [(1, .var (.agg [.lst .o 1 (nZ0.Nodes.map AV.z), .lst .o 4 (nZ0.Fibers.map (e_TFiber .o))]))]⟩
theorem w_impl_IsValidNetworkL1 (nZ0 : TNetwork) (sZ1 : Int) (o : Int ⊕ (Unit ⊕ Bool)) (h : M_impl_IsValidNetworkL1 nZ0 sZ1 = some o) : AWP (OkS Try.prog) A65L1 (qL [1, 8, 9, 10] [1] (S_impl_IsValidNetworkL1 nZ0) (qS (qX 0 [1] [1] (SX_impl_IsValidNetworkL1 nZ0)) (qR V65 (fun r => .b r))) o) (S_impl_IsValidNetworkL1 nZ0 sZ1) := by
  unfold M_impl_IsValidNetworkL1 at h
  simp only [ZC, S_impl_IsValidNetworkL1, A65L1]
  obtain ⟨cZ2, h⟩ | ⟨cZ2, h⟩ := cond_s h
  · obtain ⟨yZ3, hyZ3, h⟩ := bind_s h
    obtain ⟨hyZ3a, hyZ3b⟩ := geti_s hyZ3
    obtain ⟨rZ4, hrZ4, h⟩ := bind_s h
    refine ZF (ZA cZ2 (ZA hyZ3a hyZ3b)) ?_
    refine ZS (ZA cZ2 (ZA hyZ3a hyZ3b)) (w_impl_isName _ hrZ4) ?_
    refine ZG ?_
    obtain ⟨cZ5, h⟩ | ⟨cZ5, h⟩ := cond_s h
    · cases h
      exact ZL (ZA cZ2 (ZA hyZ3a (ZA hyZ3b cZ5))) V65.eq_1
    · obtain ⟨lZ6, hlZ6, h⟩ := bind_s h
      obtain ⟨hlZ6a, hlZ6b, hlZ6c, hlZ6d, hlZ6e⟩ := slT_s AV.z hlZ6
      obtain ⟨rZ7, hrZ7, h⟩ := bind_s h
      refine ZF (ZA cZ2 (ZA hyZ3a (ZA hyZ3b (ZA cZ5 (ZA hlZ6a (ZA hlZ6b (ZA hlZ6c (ZA hlZ6d hlZ6e)))))))) ?_
      refine ZS (ZA cZ2 (ZA hyZ3a (ZA hyZ3b (ZA cZ5 (ZA hlZ6a (ZA hlZ6b (ZA hlZ6c (ZA hlZ6d hlZ6e)))))))) (w_slices_Contains_Lstring_string _ _ hrZ7) ?_
      refine ZG ?_
      obtain ⟨cZ8, h⟩ | ⟨cZ8, h⟩ := cond_s h
      · cases h
        exact ZL (ZA cZ2 (ZA hyZ3a (ZA hyZ3b (ZA cZ5 (ZA hlZ6a (ZA hlZ6b (ZA hlZ6c (ZA hlZ6d (ZA hlZ6e cZ8))))))))) V65.eq_1
      · cases h
        exact ZL (ZA cZ2 (ZA hyZ3a (ZA hyZ3b (ZA cZ5 (ZA hlZ6a (ZA hlZ6b (ZA hlZ6c (ZA hlZ6d (ZA hlZ6e cZ8))))))))) (ZA S_impl_IsValidNetworkL1.eq_1 SX_impl_IsValidNetworkL1.eq_1)
  · cases h
    exact ZL cZ2 (ZA S_impl_IsValidNetworkL1.eq_1 SX_impl_IsValidNetworkL1.eq_1)
def S_impl_IsValidNetworkL2 (nZ0 : TNetwork) (v : Int) : St := ⟨[(1, .pt 1 0 0), (28, .lst .o 4 (nZ0.Fibers.map (e_TFiber .o))), (29, .i (nZ0.Fibers.length : Int)), (30, .i v)], [(1, .var (.agg [.lst .o 1 (nZ0.Nodes.map AV.z), .lst .o 4 (nZ0.Fibers.map (e_TFiber .o))]))]⟩
def SX_impl_IsValidNetworkL2 (nZ0 : TNetwork) (v : Unit) : St := ⟨[(1, .pt 1 0 0)], [(1, .var (.agg [.lst .o 1 (nZ0.Nodes.map AV.z), .lst .o 4 (nZ0.Fibers.map (e_TFiber .o))]))]⟩
theorem w_impl_IsValidNetworkL2 (nZ0 : TNetwork) (sZ12 : Int) (o : Int ⊕ (Unit ⊕ Bool)) (h : M_impl_IsValidNetworkL2 nZ0 sZ12 = some o) : AWP (OkS Try.prog) A65L3 (qL [1, 28, 29, 30] [1] (S_impl_IsValidNetworkL2 nZ0) (qS (qX 2 [1] [1] (SX_impl_IsValidNetworkL2 nZ0)) (qR V65 (fun r => .b r))) o) (S_impl_IsValidNetworkL2 nZ0 sZ12) := by
  unfold M_impl_IsValidNetworkL2 at h
  simp only [ZC, S_impl_IsValidNetworkL2, A65L3]
  obtain ⟨cZ13, h⟩ | ⟨cZ13, h⟩ := cond_s h
  · obtain ⟨yZ14, hyZ14, h⟩ := bind_s h
    obtain ⟨hyZ14a, hyZ14b⟩ := geti_s hyZ14
    obtain ⟨cZ15, h⟩ | ⟨cZ15, h⟩ := cond_s h
    · cases h
      exact ZL (ZA cZ13 (ZA hyZ14a (ZA hyZ14b cZ15))) V65.eq_1
    · obtain ⟨cZ16, h⟩ | ⟨cZ16, h⟩ := cond_s h
      · cases h
        exact ZL (ZA cZ13 (ZA hyZ14a (ZA hyZ14b (ZA cZ15 cZ16)))) V65.eq_1
      · obtain ⟨cZ17, h⟩ | ⟨cZ17, h⟩ := cond_s h
        · cases h
          exact ZL (ZA cZ13 (ZA hyZ14a (ZA hyZ14b (ZA cZ15 (ZA cZ16 cZ17))))) V65.eq_1
        · obtain ⟨rZ18, hrZ18, h⟩ := bind_s h
          refine ZF (ZA cZ13 (ZA hyZ14a (ZA hyZ14b (ZA cZ15 (ZA cZ16 cZ17))))) ?_
          refine ZS (ZA cZ13 (ZA hyZ14a (ZA hyZ14b (ZA cZ15 (ZA cZ16 cZ17))))) (w_impl_within _ _ _ hrZ18) ?_
          refine ZG ?_
          obtain ⟨cZ19, h⟩ | ⟨cZ19, h⟩ := cond_s h
          · cases h
            exact ZL (ZA cZ13 (ZA hyZ14a (ZA hyZ14b (ZA cZ15 (ZA cZ16 (ZA cZ17 cZ19)))))) V65.eq_1
          · obtain ⟨rZ20, hrZ20, h⟩ := bind_s h
            refine ZF (ZA cZ13 (ZA hyZ14a (ZA hyZ14b (ZA cZ15 (ZA cZ16 (ZA cZ17 cZ19)))))) ?_
            refine ZS (ZA cZ13 (ZA hyZ14a (ZA hyZ14b (ZA cZ15 (ZA cZ16 (ZA cZ17 cZ19)))))) (w_impl_within _ _ _ hrZ20) ?_
            refine ZG ?_
            obtain ⟨cZ21, h⟩ | ⟨cZ21, h⟩ := cond_s h
            · cases h
              exact ZL (ZA cZ13 (ZA hyZ14a (ZA hyZ14b (ZA cZ15 (ZA cZ16 (ZA cZ17 (ZA cZ19 cZ21))))))) V65.eq_1
            · obtain ⟨cZ22, h⟩ | ⟨cZ22, h⟩ := cond_s h
              · obtain ⟨yZ23, hyZ23, h⟩ := bind_s h
                obtain ⟨hyZ23a, hyZ23b⟩ := geti_s hyZ23
                obtain ⟨rZ24, hrZ24, h⟩ := bind_s h
                refine ZF (ZA cZ13 (ZA hyZ14a (ZA hyZ14b (ZA cZ15 (ZA cZ16 (ZA cZ17 (ZA cZ19 (ZA cZ21 (ZA cZ22 (ZA hyZ23a hyZ23b)))))))))) ?_
                refine ZS (ZA cZ13 (ZA hyZ14a (ZA hyZ14b (ZA cZ15 (ZA cZ16 (ZA cZ17 (ZA cZ19 (ZA cZ21 (ZA cZ22 (ZA hyZ23a hyZ23b)))))))))) (w_impl_compareFibers _ _ hrZ24) ?_
                refine ZG ?_
                obtain ⟨cZ25, h⟩ | ⟨cZ25, h⟩ := cond_s h
                · cases h
                  exact ZL (ZA cZ13 (ZA hyZ14a (ZA hyZ14b (ZA cZ15 (ZA cZ16 (ZA cZ17 (ZA cZ19 (ZA cZ21 (ZA cZ22 (ZA hyZ23a (ZA hyZ23b cZ25))))))))))) V65.eq_1
                · cases h
                  exact ZL (ZA cZ13 (ZA hyZ14a (ZA hyZ14b (ZA cZ15 (ZA cZ16 (ZA cZ17 (ZA cZ19 (ZA cZ21 (ZA cZ22 (ZA hyZ23a (ZA hyZ23b cZ25))))))))))) (ZA S_impl_IsValidNetworkL2.eq_1 SX_impl_IsValidNetworkL2.eq_1)
              · cases h
                exact ZL (ZA cZ13 (ZA hyZ14a (ZA hyZ14b (ZA cZ15 (ZA cZ16 (ZA cZ17 (ZA cZ19 (ZA cZ21 cZ22)))))))) (ZA S_impl_IsValidNetworkL2.eq_1 SX_impl_IsValidNetworkL2.eq_1)
  · cases h
    exact ZL cZ13 (ZA S_impl_IsValidNetworkL2.eq_1 SX_impl_IsValidNetworkL2.eq_1)
theorem w_impl_IsValidNetwork (nZ0 : TNetwork) {r : Bool} (h : M_impl_IsValidNetwork nZ0 = some r) : Ok Try.prog 65 [.agg [.lst .o 1 (nZ0.Nodes.map AV.z), .lst .o 4 (nZ0.Fibers.map (e_TFiber .o))]] ((fun r => .b r) r) := by
  refine ok_of_body hmix m65 rfl ?_
  unfold M_impl_IsValidNetwork at h
  simp only [ZC, A65, V65, body_eq]
  obtain ⟨oZ9, hoZ9, h⟩ := bind_s h
  try refine ZF trivial ?_
  refine join_rule (o := oZ9) (blk_rule sideR (loop_rule (w_impl_IsValidNetworkL1 nZ0) hoZ9 ?_)) (fun vZ10 hv => ?_) (fun xZ11 hv e τ hne hq => ?_)
  · exact ZK (ZA S_impl_IsValidNetworkL1.eq_1 SX_impl_IsValidNetworkL1.eq_1)
  · subst hv
    simp only [] at h
    simp only [ZC, SX_impl_IsValidNetworkL1, A65R2]
    obtain ⟨oZ26, hoZ26, h⟩ := bind_s h
    try refine ZF trivial ?_
    refine join_rule (o := oZ26) (blk_rule sideR (loop_rule (w_impl_IsValidNetworkL2 nZ0) hoZ26 ?_)) (fun vZ27 hv => ?_) (fun xZ28 hv e τ hne hq => ?_)
    · exact ZK (ZA S_impl_IsValidNetworkL2.eq_1 SX_impl_IsValidNetworkL2.eq_1)
    · subst hv
      simp only [] at h
      simp only [ZC, SX_impl_IsValidNetworkL2, A65R4]
      obtain ⟨rZ29, hrZ29, h⟩ := bind_s h
      refine ZF trivial ?_
      refine ZS trivial (w_impl_within _ _ _ hrZ29) ?_
      refine ZG ?_
      obtain ⟨cZ30, h⟩ | ⟨cZ30, h⟩ := cond_s h
      · cases h
        exact ZL cZ30 V65.eq_1
      · cases h
        exact ZL cZ30 V65.eq_1
    · subst hv
      simp only [] at h
      obtain ⟨rfl, qZ31⟩ := hq
      cases h
      exact qZ31
  · subst hv
    simp only [] at h
    obtain ⟨rfl, qZ32⟩ := hq
    cases h
    exact qZ32
def S_impl_groupsL2 (nZ0 : TNetwork) (sZ1 : Int × List (List Int)) (v : Int × List Int) : St := ⟨[(1, .pt 1 0 0), (3, .sl 3 0 sZ1.2.length), (4, .i sZ1.1), (5, .sl 5 0 v.2.length), (17, .lst .o 4 (nZ0.Fibers.map (e_TFiber .o))), (18, .i (nZ0.Fibers.length : Int)), (19, .i v.1)], [(1, .var (.agg [.lst .o 1 (nZ0.Nodes.map AV.z), .lst .o 4 (nZ0.Fibers.map (e_TFiber .o))])), (3, .arr 1 (sZ1.2.map (e_Li .u))), (5, .arr 1 (v.2.map AV.i))]⟩
def SX_impl_groupsL2 (nZ0 : TNetwork) (sZ1 : Int × List (List Int)) (v : List Int) : St := ⟨[(1, .pt 1 0 0), (3, .sl 3 0 sZ1.2.length), (4, .i sZ1.1), (5, .sl 5 0 v.length)], [(1, .var (.agg [.lst .o 1 (nZ0.Nodes.map AV.z), .lst .o 4 (nZ0.Fibers.map (e_TFiber .o))])), (3, .arr 1 (sZ1.2.map (e_Li .u))), (5, .arr 1 (v.map AV.i))]⟩
theorem w_impl_groupsL2 (nZ0 : TNetwork) (sZ1 : Int × List (List Int)) (sZ3 : Int × List Int) (o : (Int × List Int) ⊕ (List Int)) (h : M_impl_groupsL2 nZ0 sZ1 sZ3 = some o) : AWP (OkS Try.prog) A67L1 (qL [1, 3, 4, 5, 17, 18, 19] [1, 3, 5] (S_impl_groupsL2 nZ0 sZ1) (qX 2 [1, 3, 4, 5] [1, 3, 5] (SX_impl_groupsL2 nZ0 sZ1)) o) (S_impl_groupsL2 nZ0 sZ1 sZ3) := by
  unfold M_impl_groupsL2 at h
  simp only [ZC, S_impl_groupsL2, A67L1]
  obtain ⟨cZ4, h⟩ | ⟨cZ4, h⟩ := cond_s h
  · obtain ⟨yZ5, hyZ5, h⟩ := bind_s h
    obtain ⟨hyZ5a, hyZ5b⟩ := geti_s hyZ5
    obtain ⟨cZ6, h⟩ | ⟨cZ6, h⟩ := cond_s h
    · obtain ⟨lZ7, hlZ7, h⟩ := bnd_s h
      have eZ8 : Row.arr 1 [(.i sZ3.1 : AV)] = Row.arr 1 (lZ7.map AV.i) := by rw [← hlZ7]; rfl
      have eZ9 : lZ7.length = 1 := by rw [← hlZ7]; rfl
      obtain ⟨uZ10, huZ10, h⟩ := bind_s h
      have huZ10g := grd_s huZ10
      obtain ⟨lZ11, hlZ11, h⟩ := bnd_s h
      have eZ12 : sZ3.2.map AV.i ++ lZ7.map AV.i = lZ11.map AV.i := by rw [← hlZ11, List.map_append]
      have eZ13 : sZ3.2.length + 1 = lZ11.length := by simp [← hlZ7, ← hlZ11] <;> omega
      rw [eZ13] at huZ10g
      cases h
      exact ZL (ZA cZ4 (ZA hyZ5a (ZA hyZ5b (ZA cZ6 (ZA eZ8 (ZA eZ9 (ZA huZ10g (ZA eZ12 eZ13)))))))) (ZA S_impl_groupsL2.eq_1 (ZA SX_impl_groupsL2.eq_1 (ZA hlZ7.symm (ZA hlZ11.symm eZ9))))
    · cases h
      exact ZL (ZA cZ4 (ZA hyZ5a (ZA hyZ5b cZ6))) (ZA S_impl_groupsL2.eq_1 SX_impl_groupsL2.eq_1)
  · cases h
    exact ZL cZ4 (ZA S_impl_groupsL2.eq_1 SX_impl_groupsL2.eq_1)
def S_impl_groupsL1 (nZ0 : TNetwork) (v : Int × List (List Int)) : St := ⟨[(1, .pt 1 0 0), (3, .sl 3 0 v.2.length), (4, .i v.1)], [(1, .var (.agg [.lst .o 1 (nZ0.Nodes.map AV.z), .lst .o 4 (nZ0.Fibers.map (e_TFiber .o))])), (3, .arr 1 (v.2.map (e_Li .u)))]⟩
def SX_impl_groupsL1 (nZ0 : TNetwork) (v : List (List Int)) : St := ⟨[(1, .pt 1 0 0), (3, .sl 3 0 v.length)], [(1, .var (.agg [.lst .o 1 (nZ0.Nodes.map AV.z), .lst .o 4 (nZ0.Fibers.map (e_TFiber .o))])), (3, .arr 1 (v.map (e_Li .u)))]⟩
theorem w_impl_groupsL1 (nZ0 : TNetwork) (sZ1 : Int × List (List Int)) (o : (Int × List (List Int)) ⊕ (List (List Int))) (h : M_impl_groupsL1 nZ0 sZ1 = some o) : AWP (OkS Try.prog) A67L3 (qL [1, 3, 4] [1, 3] (S_impl_groupsL1 nZ0) (qX 0 [1, 3] [1, 3] (SX_impl_groupsL1 nZ0)) o) (S_impl_groupsL1 nZ0 sZ1) := by
  unfold M_impl_groupsL1 at h
  simp only [ZC, S_impl_groupsL1, A67L3]
  obtain ⟨cZ2, h⟩ | ⟨cZ2, h⟩ := cond_s h
  · obtain ⟨oZ14, hoZ14, h⟩ := bind_s h
    try refine ZF cZ2 ?_
    refine join_rule0 (blk_rule0 (loop_rule (w_impl_groupsL2 nZ0 sZ1) hoZ14 ?_)) ?_
    · exact ZK (ZA S_impl_groupsL2.eq_1 SX_impl_groupsL2.eq_1)
    · simp only [ZC, SX_impl_groupsL2, A67R2]
      obtain ⟨cZ15, h⟩ | ⟨cZ15, h⟩ := cond_s h
      · obtain ⟨lZ16, hlZ16, h⟩ := bnd_s h
        have eZ17 : Row.arr 1 [(.lst .u 1 (oZ14.map AV.i) : AV)] = Row.arr 1 (lZ16.map (e_Li .u)) := by rw [← hlZ16]; rfl
        have eZ18 : lZ16.length = 1 := by rw [← hlZ16]; rfl
        obtain ⟨uZ19, huZ19, h⟩ := bind_s h
        have huZ19g := grd_s huZ19
        obtain ⟨lZ20, hlZ20, h⟩ := bnd_s h
        have eZ21 : sZ1.2.map (e_Li .u) ++ lZ16.map (e_Li .u) = lZ20.map (e_Li .u) := by rw [← hlZ20, List.map_append]
        have eZ22 : sZ1.2.length + 1 = lZ20.length := by simp [← hlZ16, ← hlZ20] <;> omega
        rw [eZ22] at huZ19g
        cases h
        exact ZL (ZA cZ2 (ZA cZ15 (ZA eZ17 (ZA eZ18 (ZA huZ19g (ZA eZ21 eZ22)))))) (ZA S_impl_groupsL1.eq_1 (ZA SX_impl_groupsL1.eq_1 (ZA hlZ16.symm (ZA hlZ20.symm eZ18))))
      · cases h
        exact ZL (ZA cZ2 cZ15) (ZA S_impl_groupsL1.eq_1 SX_impl_groupsL1.eq_1)
  · cases h
    exact ZL cZ2 (ZA S_impl_groupsL1.eq_1 SX_impl_groupsL1.eq_1)
def S_impl_groupsL3 (nZ0 : TNetwork) (v : Int × List (List Int)) : St := ⟨[(3, .sl 3 0 v.2.length), (41, .lst .o 4 (nZ0.Fibers.map (e_TFiber .o))), (42, .i (nZ0.Fibers.length : Int)), (43, .i v.1)], [(3, .arr 1 (v.2.map (e_Li .u)))]⟩
def SX_impl_groupsL3 (v : List (List Int)) : St := ⟨[(3, .sl 3 0 v.length)], [(3, .arr 1 (v.map (e_Li .u)))]⟩
theorem w_impl_groupsL3 (nZ0 : TNetwork) (sZ24 : Int × List (List Int)) (o : (Int × List (List Int)) ⊕ (List (List Int))) (h : M_impl_groupsL3 nZ0 sZ24 = some o) : AWP (OkS Try.prog) A67L5 (qL [3, 41, 42, 43] [3] (S_impl_groupsL3 nZ0) (qX 4 [3] [3] (SX_impl_groupsL3)) o) (S_impl_groupsL3 nZ0 sZ24) := by
  unfold M_impl_groupsL3 at h
  simp only [ZC, S_impl_groupsL3, A67L5]
  obtain ⟨cZ25, h⟩ | ⟨cZ25, h⟩ := cond_s h
  · obtain ⟨yZ26, hyZ26, h⟩ := bind_s h
    obtain ⟨hyZ26a, hyZ26b⟩ := geti_s hyZ26
    obtain ⟨cZ27, h⟩ | ⟨cZ27, h⟩ := cond_s h
    · obtain ⟨lZ28, hlZ28, h⟩ := bnd_s h
      have eZ29 : Row.arr 1 [(.i sZ24.1 : AV)] = Row.arr 1 (lZ28.map AV.i) := by rw [← hlZ28]; rfl
      have eZ30 : lZ28.length = 1 := by rw [← hlZ28]; rfl
      have nZ31 : sub (lZ28.map AV.i) 0 1 = lZ28.map AV.i := sub_n _ (by simp [← hlZ28])
      obtain ⟨lZ32, hlZ32, h⟩ := bnd_s h
      have eZ33 : Row.arr 1 [(.lst .u 1 (lZ28.map AV.i) : AV)] = Row.arr 1 (lZ32.map (e_Li .u)) := by rw [← hlZ32]; rfl
      have eZ34 : lZ32.length = 1 := by rw [← hlZ32]; rfl
      obtain ⟨uZ35, huZ35, h⟩ := bind_s h
      have huZ35g := grd_s huZ35
      obtain ⟨lZ36, hlZ36, h⟩ := bnd_s h
      have eZ37 : sZ24.2.map (e_Li .u) ++ lZ32.map (e_Li .u) = lZ36.map (e_Li .u) := by rw [← hlZ36, List.map_append]
      have eZ38 : sZ24.2.length + 1 = lZ36.length := by simp [← hlZ28, ← hlZ32, ← hlZ36] <;> omega
      rw [eZ38] at huZ35g
      cases h
      exact ZL (ZA cZ25 (ZA hyZ26a (ZA hyZ26b (ZA cZ27 (ZA eZ29 (ZA eZ30 (ZA nZ31 (ZA eZ33 (ZA eZ34 (ZA huZ35g (ZA eZ37 eZ38))))))))))) (ZA S_impl_groupsL3.eq_1 (ZA SX_impl_groupsL3.eq_1 (ZA hlZ28.symm (ZA hlZ32.symm (ZA hlZ36.symm (ZA eZ30 eZ34))))))
    · cases h
      exact ZL (ZA cZ25 (ZA hyZ26a (ZA hyZ26b cZ27))) (ZA S_impl_groupsL3.eq_1 SX_impl_groupsL3.eq_1)
  · cases h
    exact ZL cZ25 (ZA S_impl_groupsL3.eq_1 SX_impl_groupsL3.eq_1)
theorem w_impl_groups (nZ0 : TNetwork) {r : List (List Int)} (h : M_impl_groups nZ0 = some r) : Ok Try.prog 67 [.agg [.lst .o 1 (nZ0.Nodes.map AV.z), .lst .o 4 (nZ0.Fibers.map (e_TFiber .o))]] ((fun r => .lst .u 1 (r.map (e_Li .u))) r) := by
  refine ok_of_body hmix m67 rfl ?_
  unfold M_impl_groups at h
  simp only [ZC, A67, V67, body_eq]
  obtain ⟨oZ23, hoZ23, h⟩ := bind_s h
  try refine ZF trivial ?_
  refine join_rule0 (blk_rule0 (loop_rule (w_impl_groupsL1 nZ0) hoZ23 ?_)) ?_
  · exact ZK (ZA S_impl_groupsL1.eq_1 SX_impl_groupsL1.eq_1)
  · simp only [ZC, SX_impl_groupsL1, A67R4]
    obtain ⟨oZ39, hoZ39, h⟩ := bind_s h
    try refine ZF trivial ?_
    refine join_rule0 (blk_rule0 (loop_rule (w_impl_groupsL3 nZ0) hoZ39 ?_)) ?_
    · exact ZK (ZA S_impl_groupsL3.eq_1 SX_impl_groupsL3.eq_1)
    · simp only [ZC, SX_impl_groupsL3, A67R6]
      cases h
      exact ZL trivial V67.eq_1
def S_slices_IndexFunc_Lint_intL1 (sZ0 : List Int) (F_fZ0 : Nat) (C_fZ0 : List AV) (v : Int) : St := ⟨[(0, .lst .o 1 (sZ0.map AV.i)), (1, .fn F_fZ0 C_fZ0), (7, .i (sZ0.length : Int)), (8, .i v)], []⟩
def SX_slices_IndexFunc_Lint_intL1 (v : Unit) : St := ⟨[], []⟩
theorem w_slices_IndexFunc_Lint_intL1 (sZ0 : List Int) (fZ0 : Int → Option Bool) (F_fZ0 : Nat) (C_fZ0 : List AV) (hC_fZ0 : Fixed C_fZ0) (hf_fZ0 : ∀ (x0 : Int) (r : Bool), fZ0 x0 = some r → Ok Try.prog F_fZ0 ((.i x0) :: C_fZ0) (.b r)) (sZ1 : Int) (o : Int ⊕ (Unit ⊕ Int)) (h : M_slices_IndexFunc_Lint_intL1 sZ0 fZ0 sZ1 = some o) : AWP (OkS Try.prog) A116L1 (qL [0, 1, 7, 8] [] (S_slices_IndexFunc_Lint_intL1 sZ0 F_fZ0 C_fZ0) (qS (qX 0 [] [] (SX_slices_IndexFunc_Lint_intL1)) (qR V116 (fun r => .i r))) o) (S_slices_IndexFunc_Lint_intL1 sZ0 F_fZ0 C_fZ0 sZ1) := by
  unfold M_slices_IndexFunc_Lint_intL1 at h
  simp only [ZC, S_slices_IndexFunc_Lint_intL1, A116L1]
  obtain ⟨cZ2, h⟩ | ⟨cZ2, h⟩ := cond_s h
  · obtain ⟨yZ3, hyZ3, h⟩ := bind_s h
    obtain ⟨hyZ3a, hyZ3b⟩ := geti_s hyZ3
    obtain ⟨rZ4, hrZ4, h⟩ := bind_s h
    refine ZF (ZA cZ2 (ZA hyZ3a hyZ3b)) ?_
    refine ZS (ZA cZ2 (ZA hyZ3a (ZA hyZ3b hC_fZ0.1))) (hf_fZ0 _ _ hrZ4) ?_
    refine ZG ?_
    obtain ⟨cZ5, h⟩ | ⟨cZ5, h⟩ := cond_s h
    · cases h
      exact ZL (ZA cZ2 (ZA hyZ3a (ZA hyZ3b cZ5))) (ZA V116.eq_1 (ZA hC_fZ0.2 ((fixed_ren hC_fZ0))))
    · cases h
      exact ZL (ZA cZ2 (ZA hyZ3a (ZA hyZ3b cZ5))) (ZA S_slices_IndexFunc_Lint_intL1.eq_1 (ZA SX_slices_IndexFunc_Lint_intL1.eq_1 (ZA hC_fZ0.2 ((fixed_ren hC_fZ0)))))
  · cases h
    exact ZL cZ2 (ZA S_slices_IndexFunc_Lint_intL1.eq_1 (ZA SX_slices_IndexFunc_Lint_intL1.eq_1 (ZA hC_fZ0.2 ((fixed_ren hC_fZ0)))))
theorem w_slices_IndexFunc_Lint_int (sZ0 : List Int) (fZ0 : Int → Option Bool) {r : Int} (h : M_slices_IndexFunc_Lint_int sZ0 fZ0 = some r) (F_fZ0 : Nat) (C_fZ0 : List AV) (hC_fZ0 : Fixed C_fZ0) (hf_fZ0 : ∀ (x0 : Int) (r : Bool), fZ0 x0 = some r → Ok Try.prog F_fZ0 ((.i x0) :: C_fZ0) (.b r)) : Ok Try.prog 116 [.lst .o 1 (sZ0.map AV.i), .fn F_fZ0 C_fZ0] ((fun r => .i r) r) := by
  refine ok_of_body hmix m116 rfl ?_
  unfold M_slices_IndexFunc_Lint_int at h
  simp only [ZC, A116, V116, body_eq]
  obtain ⟨oZ6, hoZ6, h⟩ := bind_s h
  try refine ZF trivial ?_
  refine join_rule (o := oZ6) (blk_rule sideR (loop_rule (w_slices_IndexFunc_Lint_intL1 sZ0 fZ0 F_fZ0 C_fZ0 hC_fZ0 hf_fZ0) hoZ6 ?_)) (fun vZ7 hv => ?_) (fun xZ8 hv e τ hne hq => ?_)
  · exact ZK (ZA S_slices_IndexFunc_Lint_intL1.eq_1 (ZA SX_slices_IndexFunc_Lint_intL1.eq_1 (ZA hC_fZ0.2 ((fixed_ren hC_fZ0)))))
  · subst hv
    simp only [] at h
    simp only [ZC, SX_slices_IndexFunc_Lint_intL1, A116R2]
    cases h
    exact ZL trivial (ZA V116.eq_1 (ZA hC_fZ0.2 ((fixed_ren hC_fZ0))))
  · subst hv
    simp only [] at h
    obtain ⟨rfl, qZ9⟩ := hq
    cases h
    exact qZ9
theorem w_slices_ContainsFunc_Lint_int (sZ0 : List Int) (fZ0 : Int → Option Bool) {r : Bool} (h : M_slices_ContainsFunc_Lint_int sZ0 fZ0 = some r) (F_fZ0 : Nat) (C_fZ0 : List AV) (hC_fZ0 : Fixed C_fZ0) (hf_fZ0 : ∀ (x0 : Int) (r : Bool), fZ0 x0 = some r → Ok Try.prog F_fZ0 ((.i x0) :: C_fZ0) (.b r)) : Ok Try.prog 68 [.lst .o 1 (sZ0.map AV.i), .fn F_fZ0 C_fZ0] ((fun r => .b r) r) := by
  refine ok_of_body hmix m68 rfl ?_
  unfold M_slices_ContainsFunc_Lint_int at h
  simp only [ZC, A68, V68, body_eq]
  obtain ⟨rZ1, hrZ1, h⟩ := bind_s h
  refine ZF trivial ?_
  refine ZS hC_fZ0.1 (w_slices_IndexFunc_Lint_int _ _ hrZ1 F_fZ0 C_fZ0 hC_fZ0 hf_fZ0) ?_
  refine ZG ?_
  cases h
  exact ZL trivial (ZA V68.eq_1 (ZA hC_fZ0.2 ((fixed_ren hC_fZ0))))
theorem w_impl_IsValidOutage_c1 (dZ0 : Int) (p1Z0 : TOutage) {r : Bool} (h : M_impl_IsValidOutage_c1 dZ0 p1Z0 = some r) : Ok Try.prog 69 [.i dZ0, .bp (.agg [.i p1Z0.Unit, .lst .o 1 (p1Z0.Down.map AV.i)]) 0] ((fun r => .b r) r) := by
  refine ok_of_body hmix m69 rfl ?_
  unfold M_impl_IsValidOutage_c1 at h
  simp only [ZC, A69, V69, body_eq]
  obtain ⟨rZ1, hrZ1, h⟩ := bind_s h
  refine ZF trivial ?_
  refine ZS trivial (w_impl_within _ _ _ hrZ1) ?_
  refine ZG ?_
  cases h
  exact ZL trivial V69.eq_1
theorem w_impl_IsValidOutage (nZ0 : TNetwork) (oZ0 : TOutage) {r : Bool} (h : M_impl_IsValidOutage nZ0 oZ0 = some r) : Ok Try.prog 20 [.agg [.lst .o 1 (nZ0.Nodes.map AV.z), .lst .o 4 (nZ0.Fibers.map (e_TFiber .o))], .agg [.i oZ0.Unit, .lst .o 1 (oZ0.Down.map AV.i)]] ((fun r => .b r) r) := by
  refine ok_of_body hmix m20 rfl ?_
  unfold M_impl_IsValidOutage at h
  simp only [ZC, A20, V20, body_eq]
  obtain ⟨rZ1, hrZ1, h⟩ := bind_s h
  refine ZF trivial ?_
  refine ZS trivial (w_impl_IsValidNetwork _ hrZ1) ?_
  refine ZG ?_
  obtain ⟨cZ2, h⟩ | ⟨cZ2, h⟩ := cond_s h
  · obtain ⟨rZ3, hrZ3, h⟩ := bind_s h
    refine ZF cZ2 ?_
    refine ZS cZ2 (w_impl_within _ _ _ hrZ3) ?_
    refine ZG ?_
    obtain ⟨cZ4, h⟩ | ⟨cZ4, h⟩ := cond_s h
    · obtain ⟨rZ5, hrZ5, h⟩ := bind_s h
      refine ZF (ZA cZ2 cZ4) ?_
      refine ZU (ZA cZ2 cZ4) (w_impl_groups _ hrZ5) ?_
      refine ZG ?_
      obtain ⟨cZ6, h⟩ | ⟨cZ6, h⟩ := cond_s h
      · obtain ⟨rZ7, hrZ7, h⟩ := bind_s h
        refine ZF (ZA cZ2 (ZA cZ4 cZ6)) ?_
        refine ZS (ZA cZ2 (ZA cZ4 cZ6)) (w_slices_ContainsFunc_Lint_int _ _ hrZ7 69 [.bp (.agg [.i oZ0.Unit, .lst .o 1 (oZ0.Down.map AV.i)]) 0] ⟨fun ρ k => by simp only [VS1, VS2, VS3, VS4, VS5, VS6, VT1, VT2, finM_ret, finM_nrm, decide_true, decide_false, List.nodup_nil, List.nodup_cons, oks_p, oks_m, oks_h, ne_eq, not_false_eq_true, Int.reduceEq, Int.reduceNe, true_and, Nat.reduceSub, Nat.reduceMul, ↓reduceIte, reduceCtorEq, Nat.reduceEqDiff, Nat.reduceAdd, Nat.reduceLeDiff, Int.reduceLE], by simp [mentsL, AV.ments]⟩ (fun _ _ h => w_impl_IsValidOutage_c1 _ _ h)) ?_
        refine ZG ?_
        cases h
        exact ZL (ZA cZ2 (ZA cZ4 cZ6)) V20.eq_1
      · cases h
        exact ZL (ZA cZ2 (ZA cZ4 cZ6)) V20.eq_1
    · cases h
      exact ZL (ZA cZ2 cZ4) V20.eq_1
  · cases h
    exact ZL cZ2 V20.eq_1
theorem w_impl_otherEnd (fZ0 : TFiber) (nodeZ0 : Int) {r : Int} (h : M_impl_otherEnd fZ0 nodeZ0 = some r) : Ok Try.prog 165 [.agg [.i fZ0.A, .i fZ0.B, .i fZ0.Length, .i fZ0.Risk], .i nodeZ0] ((fun r => .i r) r) := by
  refine ok_of_body hmix m165 rfl ?_
  unfold M_impl_otherEnd at h
  simp only [ZC, A165, V165, body_eq]
  obtain ⟨cZ1, h⟩ | ⟨cZ1, h⟩ := cond_s h
  · cases h
    exact ZL cZ1 V165.eq_1
  · obtain ⟨cZ2, h⟩ | ⟨cZ2, h⟩ := cond_s h
    · cases h
      exact ZL (ZA cZ1 cZ2) V165.eq_1
    · cases h
      exact ZL (ZA cZ1 cZ2) V165.eq_1
def S_slices_Index_Lint_intL1 (sZ0 : List Int) (vZ0 : Int) (v : Int) : St := ⟨[(0, .lst .o 1 (sZ0.map AV.i)), (1, .i vZ0), (7, .i (sZ0.length : Int)), (8, .i v)], []⟩
def SX_slices_Index_Lint_intL1 (v : Unit) : St := ⟨[], []⟩
theorem w_slices_Index_Lint_intL1 (sZ0 : List Int) (vZ0 : Int) (sZ1 : Int) (o : Int ⊕ (Unit ⊕ Int)) (h : M_slices_Index_Lint_intL1 sZ0 vZ0 sZ1 = some o) : AWP (OkS Try.prog) A142L1 (qL [0, 1, 7, 8] [] (S_slices_Index_Lint_intL1 sZ0 vZ0) (qS (qX 0 [] [] (SX_slices_Index_Lint_intL1)) (qR V142 (fun r => .i r))) o) (S_slices_Index_Lint_intL1 sZ0 vZ0 sZ1) := by
  unfold M_slices_Index_Lint_intL1 at h
  simp only [ZC, S_slices_Index_Lint_intL1, A142L1]
  obtain ⟨cZ2, h⟩ | ⟨cZ2, h⟩ := cond_s h
  · obtain ⟨yZ3, hyZ3, h⟩ := bind_s h
    obtain ⟨hyZ3a, hyZ3b⟩ := geti_s hyZ3
    obtain ⟨cZ4, h⟩ | ⟨cZ4, h⟩ := cond_s h
    · cases h
      exact ZL (ZA cZ2 (ZA hyZ3a (ZA hyZ3b cZ4))) V142.eq_1
    · cases h
      exact ZL (ZA cZ2 (ZA hyZ3a (ZA hyZ3b cZ4))) (ZA S_slices_Index_Lint_intL1.eq_1 SX_slices_Index_Lint_intL1.eq_1)
  · cases h
    exact ZL cZ2 (ZA S_slices_Index_Lint_intL1.eq_1 SX_slices_Index_Lint_intL1.eq_1)
theorem w_slices_Index_Lint_int (sZ0 : List Int) (vZ0 : Int) {r : Int} (h : M_slices_Index_Lint_int sZ0 vZ0 = some r) : Ok Try.prog 142 [.lst .o 1 (sZ0.map AV.i), .i vZ0] ((fun r => .i r) r) := by
  refine ok_of_body hmix m142 rfl ?_
  unfold M_slices_Index_Lint_int at h
  simp only [ZC, A142, V142, body_eq]
  obtain ⟨oZ5, hoZ5, h⟩ := bind_s h
  try refine ZF trivial ?_
  refine join_rule (o := oZ5) (blk_rule sideR (loop_rule (w_slices_Index_Lint_intL1 sZ0 vZ0) hoZ5 ?_)) (fun vZ6 hv => ?_) (fun xZ7 hv e τ hne hq => ?_)
  · exact ZK (ZA S_slices_Index_Lint_intL1.eq_1 SX_slices_Index_Lint_intL1.eq_1)
  · subst hv
    simp only [] at h
    simp only [ZC, SX_slices_Index_Lint_intL1, A142R2]
    cases h
    exact ZL trivial V142.eq_1
  · subst hv
    simp only [] at h
    obtain ⟨rfl, qZ8⟩ := hq
    cases h
    exact qZ8
theorem w_slices_Contains_Lint_int (sZ0 : List Int) (vZ0 : Int) {r : Bool} (h : M_slices_Contains_Lint_int sZ0 vZ0 = some r) : Ok Try.prog 118 [.lst .o 1 (sZ0.map AV.i), .i vZ0] ((fun r => .b r) r) := by
  refine ok_of_body hmix m118 rfl ?_
  unfold M_slices_Contains_Lint_int at h
  simp only [ZC, A118, V118, body_eq]
  obtain ⟨rZ1, hrZ1, h⟩ := bind_s h
  refine ZF trivial ?_
  refine ZS trivial (w_slices_Index_Lint_int _ _ hrZ1) ?_
  refine ZG ?_
  cases h
  exact ZL trivial V118.eq_1
def S_impl_visitedL1 (nZ0 : TNetwork) (rZ0 : TRoute) (v : Int × Int × List Int) : St := ⟨[(2, .pt 2 0 0), (6, .sl 6 0 v.2.2.length), (7, .i v.1), (30, .lst .o 1 (rZ0.Fibers.map AV.i)), (31, .i (rZ0.Fibers.length : Int)), (32, .i v.2.1)], [(2, .var (.agg [.lst .o 1 (nZ0.Nodes.map AV.z), .lst .o 4 (nZ0.Fibers.map (e_TFiber .o))])), (6, .arr 1 (v.2.2.map AV.i))]⟩
def SX_impl_visitedL1 (v : List Int) : St := ⟨[(6, .sl 6 0 v.length)], [(6, .arr 1 (v.map AV.i))]⟩
theorem w_impl_visitedL1 (nZ0 : TNetwork) (rZ0 : TRoute) (sZ8 : Int × Int × List Int) (o : (Int × Int × List Int) ⊕ ((List Int) ⊕ (List Int × Bool))) (h : M_impl_visitedL1 nZ0 rZ0 sZ8 = some o) : AWP (OkS Try.prog) A150L3 (qL [2, 6, 7, 30, 31, 32] [2, 6] (S_impl_visitedL1 nZ0 rZ0) (qS (qX 0 [6] [6] (SX_impl_visitedL1)) (qR V150 (fun r => .tup [.lst .u 1 (r.1.map AV.i), .b r.2]))) o) (S_impl_visitedL1 nZ0 rZ0 sZ8) := by
  unfold M_impl_visitedL1 at h
  simp only [ZC, S_impl_visitedL1, A150L3]
  obtain ⟨cZ9, h⟩ | ⟨cZ9, h⟩ := cond_s h
  · obtain ⟨yZ10, hyZ10, h⟩ := bind_s h
    obtain ⟨hyZ10a, hyZ10b⟩ := geti_s hyZ10
    obtain ⟨rZ11, hrZ11, h⟩ := bind_s h
    refine ZF (ZA cZ9 (ZA hyZ10a hyZ10b)) ?_
    refine ZS (ZA cZ9 (ZA hyZ10a hyZ10b)) (w_impl_within _ _ _ hrZ11) ?_
    refine ZG ?_
    obtain ⟨cZ12, h⟩ | ⟨cZ12, h⟩ := cond_s h
    · cases h
      exact ZL (ZA cZ9 (ZA hyZ10a (ZA hyZ10b cZ12))) V150.eq_1
    · obtain ⟨yZ13, hyZ13, h⟩ := bind_s h
      obtain ⟨hyZ13a, hyZ13b⟩ := geti_s hyZ13
      obtain ⟨rZ14, hrZ14, h⟩ := bind_s h
      refine ZF (ZA cZ9 (ZA hyZ10a (ZA hyZ10b (ZA cZ12 (ZA hyZ13a hyZ13b))))) ?_
      refine ZS (ZA cZ9 (ZA hyZ10a (ZA hyZ10b (ZA cZ12 (ZA hyZ13a hyZ13b))))) (w_impl_otherEnd _ _ hrZ14) ?_
      refine ZG ?_
      obtain ⟨oZ17, hoZ17, h⟩ := bind_s h
      try refine ZF (ZA cZ9 (ZA hyZ10a (ZA hyZ10b (ZA cZ12 (ZA hyZ13a hyZ13b))))) ?_
      refine join_rule0 (sh := (fun v => ⟨[(2, .pt 2 0 0), (6, .sl 6 0 sZ8.2.2.length), (7, .i rZ14), (30, .lst .o 1 (rZ0.Fibers.map AV.i)), (31, .i (rZ0.Fibers.length : Int)), (32, .i sZ8.2.1), (56, .b v)], [(2, .var (.agg [.lst .o 1 (nZ0.Nodes.map AV.z), .lst .o 4 (nZ0.Fibers.map (e_TFiber .o))])), (6, .arr 1 (sZ8.2.2.map AV.i))]⟩)) (s := oZ17) ?_ ?_
      · replace h := hoZ17
        obtain ⟨cZ15, h⟩ | ⟨cZ15, h⟩ := cond_s h
        · cases h
          exact ZL (ZA cZ9 (ZA hyZ10a (ZA hyZ10b (ZA cZ12 (ZA hyZ13a (ZA hyZ13b cZ15)))))) trivial
        · obtain ⟨rZ16, hrZ16, h⟩ := bind_s h
          refine ZF (ZA cZ9 (ZA hyZ10a (ZA hyZ10b (ZA cZ12 (ZA hyZ13a (ZA hyZ13b cZ15)))))) ?_
          refine ZS (ZA cZ9 (ZA hyZ10a (ZA hyZ10b (ZA cZ12 (ZA hyZ13a (ZA hyZ13b cZ15)))))) (w_slices_Contains_Lint_int _ _ hrZ16) ?_
          refine ZG ?_
          cases h
          exact ZL (ZA cZ9 (ZA hyZ10a (ZA hyZ10b (ZA cZ12 (ZA hyZ13a (ZA hyZ13b cZ15)))))) trivial
      · simp only [ZC, A150R2]
        obtain ⟨cZ18, h⟩ | ⟨cZ18, h⟩ := cond_s h
        · cases h
          exact ZL (ZA cZ9 (ZA hyZ10a (ZA hyZ10b (ZA cZ12 (ZA hyZ13a (ZA hyZ13b cZ18)))))) V150.eq_1
        · obtain ⟨lZ19, hlZ19, h⟩ := bnd_s h
          have eZ20 : Row.arr 1 [(.i rZ14 : AV)] = Row.arr 1 (lZ19.map AV.i) := by rw [← hlZ19]; rfl
          have eZ21 : lZ19.length = 1 := by rw [← hlZ19]; rfl
          obtain ⟨uZ22, huZ22, h⟩ := bind_s h
          have huZ22g := grd_s huZ22
          obtain ⟨lZ23, hlZ23, h⟩ := bnd_s h
          have eZ24 : sZ8.2.2.map AV.i ++ lZ19.map AV.i = lZ23.map AV.i := by rw [← hlZ23, List.map_append]
          have eZ25 : sZ8.2.2.length + 1 = lZ23.length := by simp [← hlZ19, ← hlZ23] <;> omega
          rw [eZ25] at huZ22g
          cases h
          exact ZL (ZA cZ9 (ZA hyZ10a (ZA hyZ10b (ZA cZ12 (ZA hyZ13a (ZA hyZ13b (ZA cZ18 (ZA eZ20 (ZA eZ21 (ZA huZ22g (ZA eZ24 eZ25))))))))))) (ZA S_impl_visitedL1.eq_1 (ZA SX_impl_visitedL1.eq_1 (ZA hlZ19.symm (ZA hlZ23.symm eZ21))))
  · cases h
    exact ZL cZ9 (ZA S_impl_visitedL1.eq_1 SX_impl_visitedL1.eq_1)
theorem w_impl_visited (nZ0 : TNetwork) (rZ0 : TRoute) {r : List Int × Bool} (h : M_impl_visited nZ0 rZ0 = some r) : Ok Try.prog 150 [.agg [.lst .o 1 (nZ0.Nodes.map AV.z), .lst .o 4 (nZ0.Fibers.map (e_TFiber .o))], .agg [.i rZ0.Start, .lst .o 1 (rZ0.Fibers.map AV.i)]] ((fun r => .tup [.lst .u 1 (r.1.map AV.i), .b r.2]) r) := by
  refine ok_of_body hmix m150 rfl ?_
  unfold M_impl_visited at h
  simp only [ZC, A150, V150, body_eq]
  obtain ⟨oZ3, hoZ3, h⟩ := bind_s h
  try refine ZF trivial ?_
  refine join_rule0 (sh := (fun v => ⟨[(2, .pt 2 0 0), (3, .pt 3 0 0), (23, .b v)], [(2, .var (.agg [.lst .o 1 (nZ0.Nodes.map AV.z), .lst .o 4 (nZ0.Fibers.map (e_TFiber .o))])), (3, .var (.agg [.i rZ0.Start, .lst .o 1 (rZ0.Fibers.map AV.i)]))]⟩)) (s := oZ3) ?_ ?_
  · replace h := hoZ3
    obtain ⟨rZ1, hrZ1, h⟩ := bind_s h
    refine ZF trivial ?_
    refine ZS trivial (w_impl_within _ _ _ hrZ1) ?_
    refine ZG ?_
    obtain ⟨cZ2, h⟩ | ⟨cZ2, h⟩ := cond_s h
    · cases h
      exact ZL cZ2 trivial
    · cases h
      exact ZL cZ2 trivial
  · simp only [ZC, A150R1]
    obtain ⟨cZ4, h⟩ | ⟨cZ4, h⟩ := cond_s h
    · cases h
      exact ZL cZ4 V150.eq_1
    · obtain ⟨lZ5, hlZ5, h⟩ := bnd_s h
      have eZ6 : Row.arr 1 [(.i rZ0.Start : AV)] = Row.arr 1 (lZ5.map AV.i) := by rw [← hlZ5]; rfl
      have eZ7 : lZ5.length = 1 := by rw [← hlZ5]; rfl
      obtain ⟨oZ26, hoZ26, h⟩ := bind_s h
      try refine ZF (ZA cZ4 (ZA eZ6 eZ7)) ?_
      refine join_rule (o := oZ26) (blk_rule sideR (loop_rule (w_impl_visitedL1 nZ0 rZ0) hoZ26 ?_)) (fun vZ27 hv => ?_) (fun xZ28 hv e τ hne hq => ?_)
      · exact ZK (ZA S_impl_visitedL1.eq_1 (ZA SX_impl_visitedL1.eq_1 (ZA hlZ5.symm eZ7)))
      · subst hv
        simp only [] at h
        simp only [ZC, SX_impl_visitedL1, A150R4]
        cases h
        exact ZL (ZA cZ4 (ZA eZ6 eZ7)) (ZA V150.eq_1 eZ7)
      · subst hv
        simp only [] at h
        obtain ⟨rfl, qZ29⟩ := hq
        cases h
        exact qZ29
theorem w_impl_RouteNodes (nZ0 : TNetwork) (rZ0 : TRoute) {r : List Int × Bool} (h : M_impl_RouteNodes nZ0 rZ0 = some r) : Ok Try.prog 137 [.agg [.lst .o 1 (nZ0.Nodes.map AV.z), .lst .o 4 (nZ0.Fibers.map (e_TFiber .o))], .agg [.i rZ0.Start, .lst .o 1 (rZ0.Fibers.map AV.i)]] ((fun r => .tup [.lst .u 1 (r.1.map AV.i), .b r.2]) r) := by
  refine ok_of_body hmix m137 rfl ?_
  unfold M_impl_RouteNodes at h
  simp only [ZC, A137, V137, body_eq]
  obtain ⟨rZ1, hrZ1, h⟩ := bind_s h
  refine ZF trivial ?_
  refine ZS trivial (w_impl_IsValidNetwork _ hrZ1) ?_
  refine ZG ?_
  obtain ⟨cZ2, h⟩ | ⟨cZ2, h⟩ := cond_s h
  · cases h
    exact ZL cZ2 V137.eq_1
  · obtain ⟨rZ3, hrZ3, h⟩ := bind_s h
    refine ZF cZ2 ?_
    refine ZU cZ2 (w_impl_visited _ _ hrZ3) ?_
    refine ZG ?_
    cases h
    exact ZL cZ2 V137.eq_1
theorem w_impl_IsValidRoute (nZ0 : TNetwork) (rZ0 : TRoute) {r : Bool} (h : M_impl_IsValidRoute nZ0 rZ0 = some r) : Ok Try.prog 108 [.agg [.lst .o 1 (nZ0.Nodes.map AV.z), .lst .o 4 (nZ0.Fibers.map (e_TFiber .o))], .agg [.i rZ0.Start, .lst .o 1 (rZ0.Fibers.map AV.i)]] ((fun r => .b r) r) := by
  refine ok_of_body hmix m108 rfl ?_
  unfold M_impl_IsValidRoute at h
  simp only [ZC, A108, V108, body_eq]
  obtain ⟨rZ1, hrZ1, h⟩ := bind_s h
  refine ZF trivial ?_
  refine ZU trivial (w_impl_RouteNodes _ _ hrZ1) ?_
  refine ZG ?_
  cases h
  exact ZL trivial V108.eq_1
def S_impl_Outage_weightL1 (oZ0 : TOutage) (setZ0 : Int) (v : Int × Int) : St := ⟨[(1, .i setZ0), (2, .pt 2 0 0), (5, .i v.1), (9, .lst .o 1 (oZ0.Down.map AV.i)), (10, .i (oZ0.Down.length : Int)), (11, .i v.2)], [(2, .var (.agg [.i oZ0.Unit, .lst .o 1 (oZ0.Down.map AV.i)]))]⟩
def SX_impl_Outage_weightL1 (v : Int) : St := ⟨[(5, .i v)], []⟩
theorem w_impl_Outage_weightL1 (oZ0 : TOutage) (setZ0 : Int) (sZ1 : Int × Int) (o : (Int × Int) ⊕ Int) (h : M_impl_Outage_weightL1 oZ0 setZ0 sZ1 = some o) : AWP (OkS Try.prog) A79L1 (qL [1, 2, 5, 9, 10, 11] [2] (S_impl_Outage_weightL1 oZ0 setZ0) (qX 0 [5] [] (SX_impl_Outage_weightL1)) o) (S_impl_Outage_weightL1 oZ0 setZ0 sZ1) := by
  unfold M_impl_Outage_weightL1 at h
  simp only [ZC, S_impl_Outage_weightL1, A79L1]
  obtain ⟨cZ2, h⟩ | ⟨cZ2, h⟩ := cond_s h
  · obtain ⟨yZ3, hyZ3, h⟩ := bind_s h
    obtain ⟨hyZ3a, hyZ3b⟩ := geti_s hyZ3
    obtain ⟨uZ4, huZ4, h⟩ := bind_s h
    have huZ4g := grd_s huZ4
    obtain ⟨cZ5, h⟩ | ⟨cZ5, h⟩ := cond_s h
    · cases h
      exact ZL (ZA cZ2 (ZA hyZ3a (ZA hyZ3b (ZA huZ4g cZ5)))) (ZA S_impl_Outage_weightL1.eq_1 SX_impl_Outage_weightL1.eq_1)
    · cases h
      exact ZL (ZA cZ2 (ZA hyZ3a (ZA hyZ3b (ZA huZ4g cZ5)))) (ZA S_impl_Outage_weightL1.eq_1 SX_impl_Outage_weightL1.eq_1)
  · cases h
    exact ZL cZ2 (ZA S_impl_Outage_weightL1.eq_1 SX_impl_Outage_weightL1.eq_1)
theorem w_impl_Outage_weight (oZ0 : TOutage) (setZ0 : Int) {r : Int} (h : M_impl_Outage_weight oZ0 setZ0 = some r) : Ok Try.prog 79 [.agg [.i oZ0.Unit, .lst .o 1 (oZ0.Down.map AV.i)], .i setZ0] ((fun r => .i r) r) := by
  refine ok_of_body hmix m79 rfl ?_
  unfold M_impl_Outage_weight at h
  simp only [ZC, A79, V79, body_eq]
  obtain ⟨oZ6, hoZ6, h⟩ := bind_s h
  try refine ZF trivial ?_
  refine join_rule0 (blk_rule0 (loop_rule (w_impl_Outage_weightL1 oZ0 setZ0) hoZ6 ?_)) ?_
  · exact ZK (ZA S_impl_Outage_weightL1.eq_1 SX_impl_Outage_weightL1.eq_1)
  · simp only [ZC, SX_impl_Outage_weightL1, A79R2]
    cases h
    exact ZL trivial V79.eq_1
def S_impl_Outage_chanceL2 (oZ0 : TOutage) (F_holdsZ0 : Nat) (C_holdsZ0 : List AV) (rZ1 : List (List Int)) (sZ3 : Int × Int) (rZ5 : Int) (v : Int × List Int) : St := ⟨[(2, .fn F_holdsZ0 C_holdsZ0), (3, .pt 3 0 0), (7, .i sZ3.1), (8, .sl 8 0 rZ1.length), (9, .i sZ3.2), (10, .i rZ5), (11, .sl 11 0 v.2.length), (18, .i (IntKind.wrap .i64 (1 * 2 ^ (min rZ1.length (IntKind.bits .i64))))), (19, .i sZ3.2), (28, .sl 8 0 rZ1.length), (29, .i (rZ1.length : Int)), (30, .i v.1)], [(3, .var (.agg [.i oZ0.Unit, .lst .o 1 (oZ0.Down.map AV.i)])), (8, .arr 1 (rZ1.map (e_Li .u))), (11, .arr 1 (v.2.map AV.i))]⟩
def SX_impl_Outage_chanceL2 (oZ0 : TOutage) (F_holdsZ0 : Nat) (C_holdsZ0 : List AV) (rZ1 : List (List Int)) (sZ3 : Int × Int) (rZ5 : Int) (v : List Int) : St := ⟨[(2, .fn F_holdsZ0 C_holdsZ0), (3, .pt 3 0 0), (7, .i sZ3.1), (8, .sl 8 0 rZ1.length), (10, .i rZ5), (11, .sl 11 0 v.length), (18, .i (IntKind.wrap .i64 (1 * 2 ^ (min rZ1.length (IntKind.bits .i64))))), (19, .i sZ3.2)], [(3, .var (.agg [.i oZ0.Unit, .lst .o 1 (oZ0.Down.map AV.i)])), (8, .arr 1 (rZ1.map (e_Li .u))), (11, .arr 1 (v.map AV.i))]⟩
theorem w_impl_Outage_chanceL2 (oZ0 : TOutage) (holdsZ0 : (List Int) → Option Bool) (F_holdsZ0 : Nat) (C_holdsZ0 : List AV) (rZ1 : List (List Int)) (sZ3 : Int × Int) (rZ5 : Int) (hC_holdsZ0 : Fixed C_holdsZ0) (hf_holdsZ0 : ∀ (x0 : List Int) (r : Bool), holdsZ0 x0 = some r → Ok Try.prog F_holdsZ0 ((.lst .o 1 (x0.map AV.i)) :: C_holdsZ0) (.b r)) (sZ7 : Int × List Int) (o : (Int × List Int) ⊕ (List Int)) (h : M_impl_Outage_chanceL2 rZ1 sZ3 sZ7 = some o) : AWP (OkS Try.prog) A81L1 (qL [2, 3, 7, 8, 9, 10, 11, 18, 19, 28, 29, 30] [3, 8, 11] (S_impl_Outage_chanceL2 oZ0 F_holdsZ0 C_holdsZ0 rZ1 sZ3 rZ5) (qX 2 [2, 3, 7, 8, 10, 11, 18, 19] [3, 8, 11] (SX_impl_Outage_chanceL2 oZ0 F_holdsZ0 C_holdsZ0 rZ1 sZ3 rZ5)) o) (S_impl_Outage_chanceL2 oZ0 F_holdsZ0 C_holdsZ0 rZ1 sZ3 rZ5 sZ7) := by
  unfold M_impl_Outage_chanceL2 at h
  simp only [ZC, S_impl_Outage_chanceL2, A81L1]
  obtain ⟨cZ8, h⟩ | ⟨cZ8, h⟩ := cond_s h
  · obtain ⟨kZ9, hkZ9, h⟩ := bind_s h
    obtain ⟨hkZ9a, hkZ9b⟩ := grd_s hkZ9
    obtain ⟨yZ10, hyZ10, h⟩ := bind_s h
    obtain ⟨uZ11, huZ11, h⟩ := bind_s h
    have huZ11g := grd_s huZ11
    obtain ⟨cZ12, h⟩ | ⟨cZ12, h⟩ := cond_s h
    · obtain ⟨uZ13, huZ13, h⟩ := bind_s h
      have huZ13g := grd_s huZ13
      obtain ⟨lZ14, hlZ14, h⟩ := bnd_s h
      have eZ15 : sZ7.2.map AV.i ++ yZ10.map AV.i = lZ14.map AV.i := by rw [← hlZ14, List.map_append]
      have eZ16 : sZ7.2.length + yZ10.length = lZ14.length := by simp [← hlZ14] <;> omega
      rw [eZ16] at huZ13g
      cases h
      exact ZL (ZA cZ8 (ZA hkZ9a (ZA hkZ9b (ZA hyZ10 (ZA huZ11g (ZA cZ12 (ZA huZ13g (ZA eZ15 eZ16)))))))) (ZA S_impl_Outage_chanceL2.eq_1 (ZA SX_impl_Outage_chanceL2.eq_1 (ZA hlZ14.symm (ZA hC_holdsZ0.2 ((fixed_ren hC_holdsZ0))))))
    · cases h
      exact ZL (ZA cZ8 (ZA hkZ9a (ZA hkZ9b (ZA hyZ10 (ZA huZ11g cZ12))))) (ZA S_impl_Outage_chanceL2.eq_1 (ZA SX_impl_Outage_chanceL2.eq_1 (ZA hC_holdsZ0.2 ((fixed_ren hC_holdsZ0)))))
  · cases h
    exact ZL cZ8 (ZA S_impl_Outage_chanceL2.eq_1 (ZA SX_impl_Outage_chanceL2.eq_1 (ZA hC_holdsZ0.2 ((fixed_ren hC_holdsZ0)))))
def S_impl_Outage_chanceL1 (oZ0 : TOutage) (F_holdsZ0 : Nat) (C_holdsZ0 : List AV) (rZ1 : List (List Int)) (v : Int × Int) : St := ⟨[(2, .fn F_holdsZ0 C_holdsZ0), (3, .pt 3 0 0), (7, .i v.1), (8, .sl 8 0 rZ1.length), (18, .i (IntKind.wrap .i64 (1 * 2 ^ (min rZ1.length (IntKind.bits .i64))))), (19, .i v.2)], [(3, .var (.agg [.i oZ0.Unit, .lst .o 1 (oZ0.Down.map AV.i)])), (8, .arr 1 (rZ1.map (e_Li .u)))]⟩
def SX_impl_Outage_chanceL1 (v : Int) : St := ⟨[(7, .i v)], []⟩
theorem w_impl_Outage_chanceL1 (oZ0 : TOutage) (holdsZ0 : (List Int) → Option Bool) (F_holdsZ0 : Nat) (C_holdsZ0 : List AV) (rZ1 : List (List Int)) (hC_holdsZ0 : Fixed C_holdsZ0) (hf_holdsZ0 : ∀ (x0 : List Int) (r : Bool), holdsZ0 x0 = some r → Ok Try.prog F_holdsZ0 ((.lst .o 1 (x0.map AV.i)) :: C_holdsZ0) (.b r)) (sZ3 : Int × Int) (o : (Int × Int) ⊕ Int) (h : M_impl_Outage_chanceL1 oZ0 holdsZ0 rZ1 sZ3 = some o) : AWP (OkS Try.prog) A81L3 (qL [2, 3, 7, 8, 18, 19] [3, 8] (S_impl_Outage_chanceL1 oZ0 F_holdsZ0 C_holdsZ0 rZ1) (qX 0 [7] [] (SX_impl_Outage_chanceL1)) o) (S_impl_Outage_chanceL1 oZ0 F_holdsZ0 C_holdsZ0 rZ1 sZ3) := by
  unfold M_impl_Outage_chanceL1 at h
  simp only [ZC, S_impl_Outage_chanceL1, A81L3]
  obtain ⟨cZ4, h⟩ | ⟨cZ4, h⟩ := cond_s h
  · obtain ⟨rZ5, hrZ5, h⟩ := bind_s h
    refine ZF cZ4 ?_
    refine ZS cZ4 (w_impl_Outage_weight _ _ hrZ5) ?_
    refine ZG ?_
    obtain ⟨cZ6, h⟩ | ⟨cZ6, h⟩ := cond_s h
    · cases h
      exact ZL (ZA cZ4 cZ6) (ZA S_impl_Outage_chanceL1.eq_1 (ZA SX_impl_Outage_chanceL1.eq_1 (ZA hC_holdsZ0.2 ((fixed_ren hC_holdsZ0)))))
    · obtain ⟨oZ17, hoZ17, h⟩ := bind_s h
      try refine ZF (ZA cZ4 cZ6) ?_
      refine join_rule0 (blk_rule0 (loop_rule (w_impl_Outage_chanceL2 oZ0 holdsZ0 F_holdsZ0 C_holdsZ0 rZ1 sZ3 rZ5 hC_holdsZ0 hf_holdsZ0) hoZ17 ?_)) ?_
      · exact ZK (ZA S_impl_Outage_chanceL2.eq_1 (ZA SX_impl_Outage_chanceL2.eq_1 (ZA hC_holdsZ0.2 ((fixed_ren hC_holdsZ0)))))
      · simp only [ZC, SX_impl_Outage_chanceL2, A81R2]
        obtain ⟨rZ18, hrZ18, h⟩ := bind_s h
        refine ZF (ZA cZ4 cZ6) ?_
        refine ZS (ZA cZ4 (ZA cZ6 hC_holdsZ0.1)) (hf_holdsZ0 _ _ hrZ18) ?_
        refine ZG ?_
        obtain ⟨cZ19, h⟩ | ⟨cZ19, h⟩ := cond_s h
        · cases h
          exact ZL (ZA cZ4 (ZA cZ6 cZ19)) (ZA S_impl_Outage_chanceL1.eq_1 (ZA SX_impl_Outage_chanceL1.eq_1 (ZA hC_holdsZ0.2 ((fixed_ren hC_holdsZ0)))))
        · cases h
          exact ZL (ZA cZ4 (ZA cZ6 cZ19)) (ZA S_impl_Outage_chanceL1.eq_1 (ZA SX_impl_Outage_chanceL1.eq_1 (ZA hC_holdsZ0.2 ((fixed_ren hC_holdsZ0)))))
  · cases h
    exact ZL cZ4 (ZA S_impl_Outage_chanceL1.eq_1 (ZA SX_impl_Outage_chanceL1.eq_1 (ZA hC_holdsZ0.2 ((fixed_ren hC_holdsZ0)))))
theorem w_impl_Outage_chance (oZ0 : TOutage) (nZ0 : TNetwork) (holdsZ0 : (List Int) → Option Bool) {r : Int} (h : M_impl_Outage_chance oZ0 nZ0 holdsZ0 = some r) (F_holdsZ0 : Nat) (C_holdsZ0 : List AV) (hC_holdsZ0 : Fixed C_holdsZ0) (hf_holdsZ0 : ∀ (x0 : List Int) (r : Bool), holdsZ0 x0 = some r → Ok Try.prog F_holdsZ0 ((.lst .o 1 (x0.map AV.i)) :: C_holdsZ0) (.b r)) : Ok Try.prog 81 [.agg [.i oZ0.Unit, .lst .o 1 (oZ0.Down.map AV.i)], .agg [.lst .o 1 (nZ0.Nodes.map AV.z), .lst .o 4 (nZ0.Fibers.map (e_TFiber .o))], .fn F_holdsZ0 C_holdsZ0] ((fun r => .i r) r) := by
  refine ok_of_body hmix m81 rfl ?_
  unfold M_impl_Outage_chance at h
  simp only [ZC, A81, V81, body_eq]
  obtain ⟨rZ1, hrZ1, h⟩ := bind_s h
  refine ZF trivial ?_
  refine ZU trivial (w_impl_groups _ hrZ1) ?_
  refine ZG ?_
  obtain ⟨uZ2, huZ2, h⟩ := bind_s h
  have huZ2g := grd_s huZ2
  obtain ⟨oZ20, hoZ20, h⟩ := bind_s h
  try refine ZF huZ2g ?_
  refine join_rule0 (blk_rule0 (loop_rule (w_impl_Outage_chanceL1 oZ0 holdsZ0 F_holdsZ0 C_holdsZ0 rZ1 hC_holdsZ0 hf_holdsZ0) hoZ20 ?_)) ?_
  · exact ZK (ZA S_impl_Outage_chanceL1.eq_1 (ZA SX_impl_Outage_chanceL1.eq_1 (ZA hC_holdsZ0.2 ((fixed_ren hC_holdsZ0)))))
  · simp only [ZC, SX_impl_Outage_chanceL1, A81R4]
    cases h
    exact ZL huZ2g (ZA V81.eq_1 (ZA hC_holdsZ0.2 ((fixed_ren hC_holdsZ0))))
theorem w_math_bits_Len64 (xZ0 : Int) {r : Int} (h : M_math_bits_Len64 xZ0 = some r) : Ok Try.prog 164 [.sc (.int .u64 xZ0)] ((fun r => .i r) r) := by
  refine ok_of_body hmix m164 rfl ?_
  unfold M_math_bits_Len64 at h
  simp only [ZC, A164, V164, body_eq]
  obtain ⟨oZ2, hoZ2, h⟩ := bind_s h
  try refine ZF trivial ?_
  refine join_rule0 (sh := (fun v => ⟨[(0, .sc (.int .u64 v.1)), (2, .i v.2)], []⟩)) (s := oZ2) ?_ ?_
  · replace h := hoZ2
    obtain ⟨cZ1, h⟩ | ⟨cZ1, h⟩ := cond_s h
    · cases h
      exact ZL cZ1 trivial
    · cases h
      exact ZL cZ1 trivial
  · simp only [ZC, A164R1]
    obtain ⟨oZ4, hoZ4, h⟩ := bind_s h
    try refine ZF trivial ?_
    refine join_rule0 (sh := (fun v => ⟨[(0, .sc (.int .u64 v.1)), (2, .i v.2)], []⟩)) (s := oZ4) ?_ ?_
    · replace h := hoZ4
      obtain ⟨cZ3, h⟩ | ⟨cZ3, h⟩ := cond_s h
      · cases h
        exact ZL cZ3 trivial
      · cases h
        exact ZL cZ3 trivial
    · simp only [ZC, A164R2]
      obtain ⟨oZ6, hoZ6, h⟩ := bind_s h
      try refine ZF trivial ?_
      refine join_rule0 (sh := (fun v => ⟨[(0, .sc (.int .u64 v.1)), (2, .i v.2)], []⟩)) (s := oZ6) ?_ ?_
      · replace h := hoZ6
        obtain ⟨cZ5, h⟩ | ⟨cZ5, h⟩ := cond_s h
        · cases h
          exact ZL cZ5 trivial
        · cases h
          exact ZL cZ5 trivial
      · simp only [ZC, A164R3]
        obtain ⟨yZ7, hyZ7, h⟩ := bind_s h
        obtain ⟨hyZ7a, hyZ7b⟩ := getz_s hyZ7
        cases h
        exact ZL (ZA hyZ7a hyZ7b) V164.eq_1
theorem w_math_bits_Len (xZ0 : Int) {r : Int} (h : M_math_bits_Len xZ0 = some r) : Ok Try.prog 149 [.sc (.int .u64 xZ0)] ((fun r => .i r) r) := by
  refine ok_of_body hmix m149 rfl ?_
  unfold M_math_bits_Len at h
  simp only [ZC, A149, V149, body_eq]
  obtain ⟨rZ1, hrZ1, h⟩ := bind_s h
  refine ZF trivial ?_
  refine ZS trivial (w_math_bits_Len64 _ hrZ1) ?_
  refine ZG ?_
  cases h
  exact ZL trivial V149.eq_1
theorem w_cmp_Less_int (xZ0 : Int) (yZ0 : Int) {r : Bool} (h : M_cmp_Less_int xZ0 yZ0 = some r) : Ok Try.prog 160 [.i xZ0, .i yZ0] ((fun r => .b r) r) := by
  refine ok_of_body hmix m160 rfl ?_
  unfold M_cmp_Less_int at h
  simp only [ZC, A160, V160, body_eq]
  obtain ⟨rZ1, hrZ1, h⟩ := bind_s h
  refine ZF trivial ?_
  refine ZS trivial (w_cmp_isNaN_int _ hrZ1) ?_
  refine ZG ?_
  obtain ⟨cZ2, h⟩ | ⟨cZ2, h⟩ := cond_s h
  · obtain ⟨rZ3, hrZ3, h⟩ := bind_s h
    refine ZF cZ2 ?_
    refine ZS cZ2 (w_cmp_isNaN_int _ hrZ3) ?_
    refine ZG ?_
    obtain ⟨cZ4, h⟩ | ⟨cZ4, h⟩ := cond_s h
    · cases h
      exact ZL (ZA cZ2 cZ4) V160.eq_1
    · cases h
      exact ZL (ZA cZ2 cZ4) V160.eq_1
  · cases h
    exact ZL cZ2 V160.eq_1
def S_slices_insertionSortOrdered_intM1L2 (aaZ0 : Int) (abZ0 : Int) (sZ1 : Int × List Int) (v : Int × List Int) : St := ⟨[(0, .sl 1000000000 0 v.2.length), (1, .i aaZ0), (2, .i abZ0), (6, .i sZ1.1), (7, .i v.1)], [(1000000000, .arr 1 (v.2.map AV.i))]⟩
def SX_slices_insertionSortOrdered_intM1L2 (aaZ0 : Int) (abZ0 : Int) (sZ1 : Int × List Int) (v : List Int) : St := ⟨[(0, .sl 1000000000 0 v.length), (1, .i aaZ0), (2, .i abZ0), (6, .i sZ1.1)], [(1000000000, .arr 1 (v.map AV.i))]⟩
theorem w_slices_insertionSortOrdered_intM1L2 (aaZ0 : Int) (abZ0 : Int) (sZ1 : Int × List Int) (sZ3 : Int × List Int) (o : (Int × List Int) ⊕ (List Int)) (h : M_slices_insertionSortOrdered_intM1L2 aaZ0 sZ3 = some o) : AWP (OkS Try.prog) A154M1L2 (qL [0, 1, 2, 6, 7] [1000000000] (S_slices_insertionSortOrdered_intM1L2 aaZ0 abZ0 sZ1) (qX 2 [0, 1, 2, 6] [1000000000] (SX_slices_insertionSortOrdered_intM1L2 aaZ0 abZ0 sZ1)) o) (S_slices_insertionSortOrdered_intM1L2 aaZ0 abZ0 sZ1 sZ3) := by
  unfold M_slices_insertionSortOrdered_intM1L2 at h
  simp only [ZC, S_slices_insertionSortOrdered_intM1L2, A154M1L2]
  obtain ⟨oZ10, hoZ10, h⟩ := bind_s h
  try refine ZF trivial ?_
  refine join_rule0 (sh := (fun v => ⟨[(0, .sl 1000000000 0 sZ3.2.length), (1, .i aaZ0), (2, .i abZ0), (6, .i sZ1.1), (7, .i sZ3.1), (30, .b v)], [(1000000000, .arr 1 (sZ3.2.map AV.i))]⟩)) (s := oZ10) ?_ ?_
  · replace h := hoZ10
    obtain ⟨cZ4, h⟩ | ⟨cZ4, h⟩ := cond_s h
    · obtain ⟨kZ5, hkZ5, h⟩ := bind_s h
      obtain ⟨hkZ5a, hkZ5b⟩ := grd_s hkZ5
      obtain ⟨yZ6, hyZ6, h⟩ := bind_s h
      obtain ⟨kZ7, hkZ7, h⟩ := bind_s h
      obtain ⟨hkZ7a, hkZ7b⟩ := grd_s hkZ7
      obtain ⟨yZ8, hyZ8, h⟩ := bind_s h
      obtain ⟨rZ9, hrZ9, h⟩ := bind_s h
      refine ZF (ZA cZ4 (ZA hkZ5a (ZA hkZ5b (ZA hyZ6 (ZA hkZ7a (ZA hkZ7b hyZ8)))))) ?_
      refine ZS (ZA cZ4 (ZA hkZ5a (ZA hkZ5b (ZA hyZ6 (ZA hkZ7a (ZA hkZ7b hyZ8)))))) (w_cmp_Less_int _ _ hrZ9) ?_
      refine ZG ?_
      cases h
      exact ZL (ZA cZ4 (ZA hkZ5a (ZA hkZ5b (ZA hyZ6 (ZA hkZ7a (ZA hkZ7b hyZ8)))))) trivial
    · cases h
      exact ZL cZ4 trivial
  · simp only [ZC, A154M1R1]
    obtain ⟨cZ11, h⟩ | ⟨cZ11, h⟩ := cond_s h
    · obtain ⟨kZ12, hkZ12, h⟩ := bind_s h
      obtain ⟨hkZ12a, hkZ12b⟩ := grd_s hkZ12
      obtain ⟨yZ13, hyZ13, h⟩ := bind_s h
      obtain ⟨kZ14, hkZ14, h⟩ := bind_s h
      obtain ⟨hkZ14a, hkZ14b⟩ := grd_s hkZ14
      obtain ⟨yZ15, hyZ15, h⟩ := bind_s h
      obtain ⟨lZ16, hlZ16, h⟩ := bnd_s h
      have eZ17 : (sZ3.2.map AV.i).set (Int.toNat sZ3.1) (.i yZ13) = lZ16.map AV.i := by rw [← hlZ16, List.map_set]
      obtain ⟨yZ18, hyZ18, h⟩ := bind_s h
      obtain ⟨lZ19, hlZ19, h⟩ := bnd_s h
      have eZ20 : (lZ16.map AV.i).set (Int.toNat (IntKind.wrap .i64 (sZ3.1 - 1))) (.i yZ15) = lZ19.map AV.i := by rw [← hlZ19, List.map_set]
      cases h
      exact ZL (ZA cZ11 (ZA hkZ12a (ZA hkZ12b (ZA hyZ13 (ZA hkZ14a (ZA hkZ14b (ZA hyZ15 (ZA eZ17 (ZA hyZ18 eZ20))))))))) (ZA S_slices_insertionSortOrdered_intM1L2.eq_1 (ZA SX_slices_insertionSortOrdered_intM1L2.eq_1 (ZA hlZ16.symm hlZ19.symm)))
    · cases h
      exact ZL cZ11 (ZA S_slices_insertionSortOrdered_intM1L2.eq_1 SX_slices_insertionSortOrdered_intM1L2.eq_1)
def S_slices_insertionSortOrdered_intM1L1 (aaZ0 : Int) (abZ0 : Int) (v : Int × List Int) : St := ⟨[(0, .sl 1000000000 0 v.2.length), (1, .i aaZ0), (2, .i abZ0), (6, .i v.1)], [(1000000000, .arr 1 (v.2.map AV.i))]⟩
def SX_slices_insertionSortOrdered_intM1L1 (v : List Int) : St := ⟨[], [(1000000000, .arr 1 (v.map AV.i))]⟩
theorem w_slices_insertionSortOrdered_intM1L1 (aaZ0 : Int) (abZ0 : Int) (sZ1 : Int × List Int) (o : (Int × List Int) ⊕ (List Int)) (h : M_slices_insertionSortOrdered_intM1L1 aaZ0 abZ0 sZ1 = some o) : AWP (OkS Try.prog) A154M1L4 (qL [0, 1, 2, 6] [1000000000] (S_slices_insertionSortOrdered_intM1L1 aaZ0 abZ0) (qX 0 [] [1000000000] (SX_slices_insertionSortOrdered_intM1L1)) o) (S_slices_insertionSortOrdered_intM1L1 aaZ0 abZ0 sZ1) := by
  unfold M_slices_insertionSortOrdered_intM1L1 at h
  simp only [ZC, S_slices_insertionSortOrdered_intM1L1, A154M1L4]
  obtain ⟨cZ2, h⟩ | ⟨cZ2, h⟩ := cond_s h
  · obtain ⟨oZ23, hoZ23, h⟩ := bind_s h
    try refine ZF cZ2 ?_
    refine join_rule0 (sh := (fun v => ⟨[(0, .sl 1000000000 0 v.length), (1, .i aaZ0), (2, .i abZ0), (6, .i sZ1.1)], [(1000000000, .arr 1 (v.map AV.i))]⟩)) (s := oZ23) ?_ ?_
    · replace h := hoZ23
      obtain ⟨oZ21, hoZ21, h⟩ := bind_s h
      try refine ZF cZ2 ?_
      first | refine tail_rule0 (blk_rule0 (loop_rule (w_slices_insertionSortOrdered_intM1L2 aaZ0 abZ0 sZ1) hoZ21 ?_)) (fun τ qZ22 => ?_) | refine tail_blk0 (loop_rule (w_slices_insertionSortOrdered_intM1L2 aaZ0 abZ0 sZ1) hoZ21 ?_) (fun τ qZ22 => ?_)
      · exact ZK (ZA S_slices_insertionSortOrdered_intM1L2.eq_1 SX_slices_insertionSortOrdered_intM1L2.eq_1)
      · cases h
        try refine ZF trivial ?_
        refine ⟨rfl, Shp.sub qZ22 (by decide) (by decide) ?_⟩
        exact ZK SX_slices_insertionSortOrdered_intM1L2.eq_1
    · simp only [ZC, A154M1R3]
      cases h
      exact ZL cZ2 (ZA S_slices_insertionSortOrdered_intM1L1.eq_1 SX_slices_insertionSortOrdered_intM1L1.eq_1)
  · cases h
    exact ZL cZ2 (ZA S_slices_insertionSortOrdered_intM1L1.eq_1 SX_slices_insertionSortOrdered_intM1L1.eq_1)
theorem w_slices_insertionSortOrdered_intM1 (aaZ0 : Int) (abZ0 : Int) (acZ0 : List Int) {r : List Int} (h : M_slices_insertionSortOrdered_intM1 aaZ0 abZ0 acZ0 = some r) : OkM Try.prog 154 [.sl 1000000000 0 acZ0.length, .i aaZ0, .i abZ0] [(1000000000, .arr 1 (acZ0.map AV.i))] ((fun (r : List Int) => .tup []) r) ((fun (r : List Int) => [(1000000000, .arr 1 (r.map AV.i))]) r) := by
  refine okM_of_body (lr := [1000000000]) hmix m154M1 rfl rfl ?_
  unfold M_slices_insertionSortOrdered_intM1 at h
  simp only [ZC, A154M1, V154M1]
  obtain ⟨oZ24, hoZ24, h⟩ := bind_s h
  try refine ZF trivial ?_
  first | refine tail_rule0 (blk_rule0 (loop_rule (w_slices_insertionSortOrdered_intM1L1 aaZ0 abZ0) hoZ24 ?_)) (fun τ qZ25 => ?_) | refine tail_blk0 (loop_rule (w_slices_insertionSortOrdered_intM1L1 aaZ0 abZ0) hoZ24 ?_) (fun τ qZ25 => ?_)
  · exact ZK (ZA S_slices_insertionSortOrdered_intM1L1.eq_1 SX_slices_insertionSortOrdered_intM1L1.eq_1)
  · cases h
    refine finM_shp qZ25 (by decide) ?_ rfl
    exact ZK (ZA V154M1.eq_1 SX_slices_insertionSortOrdered_intM1L1.eq_1)
def S_slices_siftDownOrdered_intM1L1 (abZ0 : Int) (acZ0 : Int) (v : Int × List Int) : St := ⟨[(0, .sl 1000000000 0 v.2.length), (2, .i abZ0), (3, .i acZ0), (8, .i v.1)], [(1000000000, .arr 1 (v.2.map AV.i))]⟩
def SX_slices_siftDownOrdered_intM1L1 (v : List Int) : St := ⟨[], [(1000000000, .arr 1 (v.map AV.i))]⟩
theorem w_slices_siftDownOrdered_intM1L1 (abZ0 : Int) (acZ0 : Int) (sZ1 : Int × List Int) (o : (Int × List Int) ⊕ ((List Int) ⊕ (List Int))) (h : M_slices_siftDownOrdered_intM1L1 abZ0 acZ0 sZ1 = some o) : AWP (OkS Try.prog) A167M1L3 (qL [0, 2, 3, 8] [1000000000] (S_slices_siftDownOrdered_intM1L1 abZ0 acZ0) (qS (qX 0 [] [1000000000] (SX_slices_siftDownOrdered_intM1L1)) (qM V167M1 [1000000000] (fun (r : List Int) => .tup []) (fun (r : List Int) => [(1000000000, .arr 1 (r.map AV.i))]))) o) (S_slices_siftDownOrdered_intM1L1 abZ0 acZ0 sZ1) := by
  unfold M_slices_siftDownOrdered_intM1L1 at h
  simp only [ZC, S_slices_siftDownOrdered_intM1L1, A167M1L3]
  obtain ⟨cZ2, h⟩ | ⟨cZ2, h⟩ := cond_s h
  · cases h
    exact ZL cZ2 (ZA S_slices_siftDownOrdered_intM1L1.eq_1 SX_slices_siftDownOrdered_intM1L1.eq_1)
  · obtain ⟨oZ10, hoZ10, h⟩ := bind_s h
    try refine ZF cZ2 ?_
    refine join_rule0 (sh := (fun v => ⟨[(0, .sl 1000000000 0 sZ1.2.length), (2, .i abZ0), (3, .i acZ0), (8, .i sZ1.1), (9, .i v)], [(1000000000, .arr 1 (sZ1.2.map AV.i))]⟩)) (s := oZ10) ?_ ?_
    · replace h := hoZ10
      obtain ⟨cZ3, h⟩ | ⟨cZ3, h⟩ := cond_s h
      · obtain ⟨kZ4, hkZ4, h⟩ := bind_s h
        obtain ⟨hkZ4a, hkZ4b⟩ := grd_s hkZ4
        obtain ⟨yZ5, hyZ5, h⟩ := bind_s h
        obtain ⟨kZ6, hkZ6, h⟩ := bind_s h
        obtain ⟨hkZ6a, hkZ6b⟩ := grd_s hkZ6
        obtain ⟨yZ7, hyZ7, h⟩ := bind_s h
        obtain ⟨rZ8, hrZ8, h⟩ := bind_s h
        refine ZF (ZA cZ2 (ZA cZ3 (ZA hkZ4a (ZA hkZ4b (ZA hyZ5 (ZA hkZ6a (ZA hkZ6b hyZ7))))))) ?_
        refine ZS (ZA cZ2 (ZA cZ3 (ZA hkZ4a (ZA hkZ4b (ZA hyZ5 (ZA hkZ6a (ZA hkZ6b hyZ7))))))) (w_cmp_Less_int _ _ hrZ8) ?_
        refine ZG ?_
        try refine ZF (ZA cZ2 (ZA cZ3 (ZA hkZ4a (ZA hkZ4b (ZA hyZ5 (ZA hkZ6a (ZA hkZ6b hyZ7))))))) ?_
        simp only [ZC, A167M1R1]
        obtain ⟨cZ9, h⟩ | ⟨cZ9, h⟩ := cond_s h
        · cases h
          exact ZL (ZA cZ2 (ZA cZ3 (ZA hkZ4a (ZA hkZ4b (ZA hyZ5 (ZA hkZ6a (ZA hkZ6b (ZA hyZ7 cZ9)))))))) trivial
        · cases h
          exact ZL (ZA cZ2 (ZA cZ3 (ZA hkZ4a (ZA hkZ4b (ZA hyZ5 (ZA hkZ6a (ZA hkZ6b (ZA hyZ7 cZ9)))))))) trivial
      · try refine ZF (ZA cZ2 cZ3) ?_
        simp only [ZC, A167M1R1]
        cases h
        exact ZL (ZA cZ2 cZ3) trivial
    · simp only [ZC, A167M1R2]
      obtain ⟨kZ11, hkZ11, h⟩ := bind_s h
      obtain ⟨hkZ11a, hkZ11b⟩ := grd_s hkZ11
      obtain ⟨yZ12, hyZ12, h⟩ := bind_s h
      obtain ⟨kZ13, hkZ13, h⟩ := bind_s h
      obtain ⟨hkZ13a, hkZ13b⟩ := grd_s hkZ13
      obtain ⟨yZ14, hyZ14, h⟩ := bind_s h
      obtain ⟨rZ15, hrZ15, h⟩ := bind_s h
      refine ZF (ZA cZ2 (ZA hkZ11a (ZA hkZ11b (ZA hyZ12 (ZA hkZ13a (ZA hkZ13b hyZ14)))))) ?_
      refine ZS (ZA cZ2 (ZA hkZ11a (ZA hkZ11b (ZA hyZ12 (ZA hkZ13a (ZA hkZ13b hyZ14)))))) (w_cmp_Less_int _ _ hrZ15) ?_
      refine ZG ?_
      obtain ⟨cZ16, h⟩ | ⟨cZ16, h⟩ := cond_s h
      · cases h
        exact ZL (ZA cZ2 (ZA hkZ11a (ZA hkZ11b (ZA hyZ12 (ZA hkZ13a (ZA hkZ13b (ZA hyZ14 cZ16))))))) V167M1.eq_1
      · obtain ⟨lZ17, hlZ17, h⟩ := bnd_s h
        have eZ18 : (sZ1.2.map AV.i).set (Int.toNat (IntKind.wrap .i64 (acZ0 + sZ1.1))) (.i yZ14) = lZ17.map AV.i := by rw [← hlZ17, List.map_set]
        obtain ⟨yZ19, hyZ19, h⟩ := bind_s h
        obtain ⟨lZ20, hlZ20, h⟩ := bnd_s h
        have eZ21 : (lZ17.map AV.i).set (Int.toNat (IntKind.wrap .i64 (acZ0 + oZ10))) (.i yZ12) = lZ20.map AV.i := by rw [← hlZ20, List.map_set]
        cases h
        exact ZL (ZA cZ2 (ZA hkZ11a (ZA hkZ11b (ZA hyZ12 (ZA hkZ13a (ZA hkZ13b (ZA hyZ14 (ZA cZ16 (ZA eZ18 (ZA hyZ19 eZ21)))))))))) (ZA S_slices_siftDownOrdered_intM1L1.eq_1 (ZA SX_slices_siftDownOrdered_intM1L1.eq_1 (ZA hlZ17.symm hlZ20.symm)))
theorem w_slices_siftDownOrdered_intM1 (aaZ0 : Int) (abZ0 : Int) (acZ0 : Int) (adZ0 : List Int) {r : List Int} (h : M_slices_siftDownOrdered_intM1 aaZ0 abZ0 acZ0 adZ0 = some r) : OkM Try.prog 167 [.sl 1000000000 0 adZ0.length, .i aaZ0, .i abZ0, .i acZ0] [(1000000000, .arr 1 (adZ0.map AV.i))] ((fun (r : List Int) => .tup []) r) ((fun (r : List Int) => [(1000000000, .arr 1 (r.map AV.i))]) r) := by
  refine okM_of_body (lr := [1000000000]) hmix m167M1 rfl rfl ?_
  unfold M_slices_siftDownOrdered_intM1 at h
  simp only [ZC, A167M1, V167M1]
  obtain ⟨oZ22, hoZ22, h⟩ := bind_s h
  try refine ZF trivial ?_
  first | refine tail_rule (o := oZ22) (blk_rule sideM (loop_rule (w_slices_siftDownOrdered_intM1L1 abZ0 acZ0) hoZ22 ?_)) (fun vZ23 hv τ qZ25 => ?_) (fun xZ24 hv e τ hne hq => ?_) | refine tail_blk (o := oZ22) sideM (loop_rule (w_slices_siftDownOrdered_intM1L1 abZ0 acZ0) hoZ22 ?_) (fun vZ23 hv τ qZ25 => ?_) (fun xZ24 hv e τ hne hq => ?_)
  · exact ZK (ZA S_slices_siftDownOrdered_intM1L1.eq_1 SX_slices_siftDownOrdered_intM1L1.eq_1)
  · subst hv
    simp only [] at h
    cases h
    refine finM_shp qZ25 (by decide) ?_ rfl
    exact ZK (ZA V167M1.eq_1 SX_slices_siftDownOrdered_intM1L1.eq_1)
  · subst hv
    simp only [] at h
    obtain ⟨rfl, qZ26⟩ := hq
    cases h
    exact qZ26
def S_slices_siftDownOrdered_intM2L1 (aaZ0 : Nat) (abZ0 : Nat) (adZ0 : Int) (aeZ0 : Int) (v : Int × List Int) : St := ⟨[(0, .sl 1000000000 aaZ0 abZ0), (2, .i adZ0), (3, .i aeZ0), (8, .i v.1)], [(1000000000, .arr 1 (v.2.map AV.i))]⟩
def SX_slices_siftDownOrdered_intM2L1 (v : List Int) : St := ⟨[], [(1000000000, .arr 1 (v.map AV.i))]⟩
theorem w_slices_siftDownOrdered_intM2L1 (aaZ0 : Nat) (abZ0 : Nat) (adZ0 : Int) (aeZ0 : Int) (sZ1 : Int × List Int) (o : (Int × List Int) ⊕ ((List Int) ⊕ (List Int))) (h : M_slices_siftDownOrdered_intM2L1 aaZ0 abZ0 adZ0 aeZ0 sZ1 = some o) : AWP (OkS Try.prog) A167M2L3 (qL [0, 2, 3, 8] [1000000000] (S_slices_siftDownOrdered_intM2L1 aaZ0 abZ0 adZ0 aeZ0) (qS (qX 0 [] [1000000000] (SX_slices_siftDownOrdered_intM2L1)) (qM V167M2 [1000000000] (fun (r : List Int) => .tup []) (fun (r : List Int) => [(1000000000, .arr 1 (r.map AV.i))]))) o) (S_slices_siftDownOrdered_intM2L1 aaZ0 abZ0 adZ0 aeZ0 sZ1) := by
  unfold M_slices_siftDownOrdered_intM2L1 at h
  simp only [ZC, S_slices_siftDownOrdered_intM2L1, A167M2L3]
  obtain ⟨cZ2, h⟩ | ⟨cZ2, h⟩ := cond_s h
  · cases h
    exact ZL cZ2 (ZA S_slices_siftDownOrdered_intM2L1.eq_1 SX_slices_siftDownOrdered_intM2L1.eq_1)
  · obtain ⟨oZ10, hoZ10, h⟩ := bind_s h
    try refine ZF cZ2 ?_
    refine join_rule0 (sh := (fun v => ⟨[(0, .sl 1000000000 aaZ0 abZ0), (2, .i adZ0), (3, .i aeZ0), (8, .i sZ1.1), (9, .i v)], [(1000000000, .arr 1 (sZ1.2.map AV.i))]⟩)) (s := oZ10) ?_ ?_
    · replace h := hoZ10
      obtain ⟨cZ3, h⟩ | ⟨cZ3, h⟩ := cond_s h
      · obtain ⟨kZ4, hkZ4, h⟩ := bind_s h
        obtain ⟨hkZ4a, hkZ4b⟩ := grd_s hkZ4
        obtain ⟨yZ5, hyZ5, h⟩ := bind_s h
        obtain ⟨kZ6, hkZ6, h⟩ := bind_s h
        obtain ⟨hkZ6a, hkZ6b⟩ := grd_s hkZ6
        obtain ⟨yZ7, hyZ7, h⟩ := bind_s h
        obtain ⟨rZ8, hrZ8, h⟩ := bind_s h
        refine ZF (ZA cZ2 (ZA cZ3 (ZA hkZ4a (ZA hkZ4b (ZA hyZ5 (ZA hkZ6a (ZA hkZ6b hyZ7))))))) ?_
        refine ZS (ZA cZ2 (ZA cZ3 (ZA hkZ4a (ZA hkZ4b (ZA hyZ5 (ZA hkZ6a (ZA hkZ6b hyZ7))))))) (w_cmp_Less_int _ _ hrZ8) ?_
        refine ZG ?_
        try refine ZF (ZA cZ2 (ZA cZ3 (ZA hkZ4a (ZA hkZ4b (ZA hyZ5 (ZA hkZ6a (ZA hkZ6b hyZ7))))))) ?_
        simp only [ZC, A167M2R1]
        obtain ⟨cZ9, h⟩ | ⟨cZ9, h⟩ := cond_s h
        · cases h
          exact ZL (ZA cZ2 (ZA cZ3 (ZA hkZ4a (ZA hkZ4b (ZA hyZ5 (ZA hkZ6a (ZA hkZ6b (ZA hyZ7 cZ9)))))))) trivial
        · cases h
          exact ZL (ZA cZ2 (ZA cZ3 (ZA hkZ4a (ZA hkZ4b (ZA hyZ5 (ZA hkZ6a (ZA hkZ6b (ZA hyZ7 cZ9)))))))) trivial
      · try refine ZF (ZA cZ2 cZ3) ?_
        simp only [ZC, A167M2R1]
        cases h
        exact ZL (ZA cZ2 cZ3) trivial
    · simp only [ZC, A167M2R2]
      obtain ⟨kZ11, hkZ11, h⟩ := bind_s h
      obtain ⟨hkZ11a, hkZ11b⟩ := grd_s hkZ11
      obtain ⟨yZ12, hyZ12, h⟩ := bind_s h
      obtain ⟨kZ13, hkZ13, h⟩ := bind_s h
      obtain ⟨hkZ13a, hkZ13b⟩ := grd_s hkZ13
      obtain ⟨yZ14, hyZ14, h⟩ := bind_s h
      obtain ⟨rZ15, hrZ15, h⟩ := bind_s h
      refine ZF (ZA cZ2 (ZA hkZ11a (ZA hkZ11b (ZA hyZ12 (ZA hkZ13a (ZA hkZ13b hyZ14)))))) ?_
      refine ZS (ZA cZ2 (ZA hkZ11a (ZA hkZ11b (ZA hyZ12 (ZA hkZ13a (ZA hkZ13b hyZ14)))))) (w_cmp_Less_int _ _ hrZ15) ?_
      refine ZG ?_
      obtain ⟨cZ16, h⟩ | ⟨cZ16, h⟩ := cond_s h
      · cases h
        exact ZL (ZA cZ2 (ZA hkZ11a (ZA hkZ11b (ZA hyZ12 (ZA hkZ13a (ZA hkZ13b (ZA hyZ14 cZ16))))))) V167M2.eq_1
      · obtain ⟨lZ17, hlZ17, h⟩ := bnd_s h
        have eZ18 : (sZ1.2.map AV.i).set (aaZ0 + (Int.toNat (IntKind.wrap .i64 (aeZ0 + sZ1.1)))) (.i yZ14) = lZ17.map AV.i := by rw [← hlZ17, List.map_set]
        obtain ⟨yZ19, hyZ19, h⟩ := bind_s h
        obtain ⟨lZ20, hlZ20, h⟩ := bnd_s h
        have eZ21 : (lZ17.map AV.i).set (aaZ0 + (Int.toNat (IntKind.wrap .i64 (aeZ0 + oZ10)))) (.i yZ12) = lZ20.map AV.i := by rw [← hlZ20, List.map_set]
        cases h
        exact ZL (ZA cZ2 (ZA hkZ11a (ZA hkZ11b (ZA hyZ12 (ZA hkZ13a (ZA hkZ13b (ZA hyZ14 (ZA cZ16 (ZA eZ18 (ZA hyZ19 eZ21)))))))))) (ZA S_slices_siftDownOrdered_intM2L1.eq_1 (ZA SX_slices_siftDownOrdered_intM2L1.eq_1 (ZA hlZ17.symm hlZ20.symm)))
theorem w_slices_siftDownOrdered_intM2 (aaZ0 : Nat) (abZ0 : Nat) (acZ0 : Int) (adZ0 : Int) (aeZ0 : Int) (afZ0 : List Int) {r : List Int} (h : M_slices_siftDownOrdered_intM2 aaZ0 abZ0 acZ0 adZ0 aeZ0 afZ0 = some r) : OkM Try.prog 167 [.sl 1000000000 aaZ0 abZ0, .i acZ0, .i adZ0, .i aeZ0] [(1000000000, .arr 1 (afZ0.map AV.i))] ((fun (r : List Int) => .tup []) r) ((fun (r : List Int) => [(1000000000, .arr 1 (r.map AV.i))]) r) := by
  refine okM_of_body (lr := [1000000000]) hmix m167M2 rfl rfl ?_
  unfold M_slices_siftDownOrdered_intM2 at h
  simp only [ZC, A167M2, V167M2]
  obtain ⟨oZ22, hoZ22, h⟩ := bind_s h
  try refine ZF trivial ?_
  first | refine tail_rule (o := oZ22) (blk_rule sideM (loop_rule (w_slices_siftDownOrdered_intM2L1 aaZ0 abZ0 adZ0 aeZ0) hoZ22 ?_)) (fun vZ23 hv τ qZ25 => ?_) (fun xZ24 hv e τ hne hq => ?_) | refine tail_blk (o := oZ22) sideM (loop_rule (w_slices_siftDownOrdered_intM2L1 aaZ0 abZ0 adZ0 aeZ0) hoZ22 ?_) (fun vZ23 hv τ qZ25 => ?_) (fun xZ24 hv e τ hne hq => ?_)
  · exact ZK (ZA S_slices_siftDownOrdered_intM2L1.eq_1 SX_slices_siftDownOrdered_intM2L1.eq_1)
  · subst hv
    simp only [] at h
    cases h
    refine finM_shp qZ25 (by decide) ?_ rfl
    exact ZK (ZA V167M2.eq_1 SX_slices_siftDownOrdered_intM2L1.eq_1)
  · subst hv
    simp only [] at h
    obtain ⟨rfl, qZ26⟩ := hq
    cases h
    exact qZ26
def S_slices_heapSortOrdered_intM1L1 (aaZ0 : Int) (abZ0 : Int) (v : Nat × Int × List Int) : St := ⟨[(0, .sl 1000000000 0 v.1), (6, .i aaZ0), (7, .i 0), (8, .i (IntKind.wrap .i64 (abZ0 - aaZ0))), (9, .i v.2.1)], [(1000000000, .arr 1 (v.2.2.map AV.i))]⟩
def SX_slices_heapSortOrdered_intM1L1 (aaZ0 : Int) (abZ0 : Int) (v : Nat × List Int) : St := ⟨[(0, .sl 1000000000 0 v.1), (6, .i aaZ0), (7, .i 0), (8, .i (IntKind.wrap .i64 (abZ0 - aaZ0)))], [(1000000000, .arr 1 (v.2.map AV.i))]⟩
theorem w_slices_heapSortOrdered_intM1L1 (aaZ0 : Int) (abZ0 : Int) (sZ2 : Nat × Int × List Int) (o : (Nat × Int × List Int) ⊕ (Nat × List Int)) (h : M_slices_heapSortOrdered_intM1L1 aaZ0 abZ0 sZ2 = some o) : AWP (OkS Try.prog) A155M1L1 (qL [0, 6, 7, 8, 9] [1000000000] (S_slices_heapSortOrdered_intM1L1 aaZ0 abZ0) (qX 0 [0, 6, 7, 8] [1000000000] (SX_slices_heapSortOrdered_intM1L1 aaZ0 abZ0)) o) (S_slices_heapSortOrdered_intM1L1 aaZ0 abZ0 sZ2) := by
  unfold M_slices_heapSortOrdered_intM1L1 at h
  simp only [ZC, S_slices_heapSortOrdered_intM1L1, A155M1L1]
  obtain ⟨cZ3, h⟩ | ⟨cZ3, h⟩ := cond_s h
  · obtain ⟨rZ4, hrZ4, h⟩ := bind_s h
    refine ZF cZ3 ?_
    refine ZW cZ3 (w_slices_siftDownOrdered_intM2 _ _ _ _ _ _ hrZ4) (h2 := by first | exact nm_ok [1000000000] rfl (by decide +kernel) | exact nm_ok2 [1000000000] [] rfl (by decide +kernel) ZQ | exact ZQ) (hk := ?_)
    refine ZG ?_
    cases h
    exact ZL cZ3 (ZA S_slices_heapSortOrdered_intM1L1.eq_1 SX_slices_heapSortOrdered_intM1L1.eq_1)
  · cases h
    exact ZL cZ3 (ZA S_slices_heapSortOrdered_intM1L1.eq_1 SX_slices_heapSortOrdered_intM1L1.eq_1)
def S_slices_heapSortOrdered_intM1L2 (aaZ0 : Int) (oZ5 : Nat × List Int) (v : Int × List Int) : St := ⟨[(0, .sl 1000000000 0 oZ5.1), (6, .i aaZ0), (7, .i 0), (10, .i v.1)], [(1000000000, .arr 1 (v.2.map AV.i))]⟩
def SX_slices_heapSortOrdered_intM1L2 (v : List Int) : St := ⟨[], [(1000000000, .arr 1 (v.map AV.i))]⟩
theorem w_slices_heapSortOrdered_intM1L2 (aaZ0 : Int) (oZ5 : Nat × List Int) (sZ6 : Int × List Int) (o : (Int × List Int) ⊕ (List Int)) (h : M_slices_heapSortOrdered_intM1L2 aaZ0 oZ5 sZ6 = some o) : AWP (OkS Try.prog) A155M1L3 (qL [0, 6, 7, 10] [1000000000] (S_slices_heapSortOrdered_intM1L2 aaZ0 oZ5) (qX 2 [] [1000000000] (SX_slices_heapSortOrdered_intM1L2)) o) (S_slices_heapSortOrdered_intM1L2 aaZ0 oZ5 sZ6) := by
  unfold M_slices_heapSortOrdered_intM1L2 at h
  simp only [ZC, S_slices_heapSortOrdered_intM1L2, A155M1L3]
  obtain ⟨cZ7, h⟩ | ⟨cZ7, h⟩ := cond_s h
  · obtain ⟨kZ8, hkZ8, h⟩ := bind_s h
    obtain ⟨hkZ8a, hkZ8b⟩ := grd_s hkZ8
    obtain ⟨yZ9, hyZ9, h⟩ := bind_s h
    obtain ⟨kZ10, hkZ10, h⟩ := bind_s h
    obtain ⟨hkZ10a, hkZ10b⟩ := grd_s hkZ10
    obtain ⟨yZ11, hyZ11, h⟩ := bind_s h
    obtain ⟨lZ12, hlZ12, h⟩ := bnd_s h
    have eZ13 : (sZ6.2.map AV.i).set (Int.toNat aaZ0) (.i yZ9) = lZ12.map AV.i := by rw [← hlZ12, List.map_set]
    obtain ⟨yZ14, hyZ14, h⟩ := bind_s h
    obtain ⟨lZ15, hlZ15, h⟩ := bnd_s h
    have eZ16 : (lZ12.map AV.i).set (Int.toNat (IntKind.wrap .i64 (aaZ0 + sZ6.1))) (.i yZ11) = lZ15.map AV.i := by rw [← hlZ15, List.map_set]
    obtain ⟨rZ17, hrZ17, h⟩ := bind_s h
    refine ZF (ZA cZ7 (ZA hkZ8a (ZA hkZ8b (ZA hyZ9 (ZA hkZ10a (ZA hkZ10b (ZA hyZ11 (ZA eZ13 (ZA hyZ14 eZ16))))))))) ?_
    refine ZW (ZA cZ7 (ZA hkZ8a (ZA hkZ8b (ZA hyZ9 (ZA hkZ10a (ZA hkZ10b (ZA hyZ11 (ZA eZ13 (ZA hyZ14 eZ16))))))))) (w_slices_siftDownOrdered_intM2 _ _ _ _ _ _ hrZ17) (h2 := by first | exact nm_ok [1000000000] rfl (by decide +kernel) | exact nm_ok2 [1000000000] [] rfl (by decide +kernel) ZQ | exact ZQ) (hk := ?_)
    refine ZG ?_
    cases h
    exact ZL (ZA cZ7 (ZA hkZ8a (ZA hkZ8b (ZA hyZ9 (ZA hkZ10a (ZA hkZ10b (ZA hyZ11 (ZA eZ13 (ZA hyZ14 eZ16))))))))) (ZA S_slices_heapSortOrdered_intM1L2.eq_1 (ZA SX_slices_heapSortOrdered_intM1L2.eq_1 (ZA hlZ12.symm hlZ15.symm)))
  · cases h
    exact ZL cZ7 (ZA S_slices_heapSortOrdered_intM1L2.eq_1 SX_slices_heapSortOrdered_intM1L2.eq_1)
theorem w_slices_heapSortOrdered_intM1 (aaZ0 : Int) (abZ0 : Int) (acZ0 : List Int) {r : List Int} (h : M_slices_heapSortOrdered_intM1 aaZ0 abZ0 acZ0 = some r) : OkM Try.prog 155 [.sl 1000000000 0 acZ0.length, .i aaZ0, .i abZ0] [(1000000000, .arr 1 (acZ0.map AV.i))] ((fun (r : List Int) => .tup []) r) ((fun (r : List Int) => [(1000000000, .arr 1 (r.map AV.i))]) r) := by
  refine okM_of_body (lr := [1000000000]) hmix m155M1 rfl rfl ?_
  unfold M_slices_heapSortOrdered_intM1 at h
  simp only [ZC, A155M1, V155M1]
  obtain ⟨uZ1, huZ1, h⟩ := bind_s h
  have huZ1g := grd_s huZ1
  obtain ⟨oZ5, hoZ5, h⟩ := bind_s h
  try refine ZF huZ1g ?_
  refine join_rule0 (blk_rule0 (loop_rule (w_slices_heapSortOrdered_intM1L1 aaZ0 abZ0) hoZ5 ?_)) ?_
  · exact ZK (ZA S_slices_heapSortOrdered_intM1L1.eq_1 SX_slices_heapSortOrdered_intM1L1.eq_1)
  · simp only [ZC, SX_slices_heapSortOrdered_intM1L1, A155M1R2]
    obtain ⟨oZ18, hoZ18, h⟩ := bind_s h
    try refine ZF huZ1g ?_
    first | refine tail_rule0 (blk_rule0 (loop_rule (w_slices_heapSortOrdered_intM1L2 aaZ0 oZ5) hoZ18 ?_)) (fun τ qZ19 => ?_) | refine tail_blk0 (loop_rule (w_slices_heapSortOrdered_intM1L2 aaZ0 oZ5) hoZ18 ?_) (fun τ qZ19 => ?_)
    · exact ZK (ZA S_slices_heapSortOrdered_intM1L2.eq_1 SX_slices_heapSortOrdered_intM1L2.eq_1)
    · cases h
      refine finM_shp qZ19 (by decide) ?_ rfl
      exact ZK (ZA V155M1.eq_1 SX_slices_heapSortOrdered_intM1L2.eq_1)
theorem w_slices_order2Ordered_intM1 (aaZ0 : List Int) (abZ0 : Int) (acZ0 : Int) (adZ0 : Int) {r : Int × Int × Int} (h : M_slices_order2Ordered_intM1 aaZ0 abZ0 acZ0 adZ0 = some r) : OkM Try.prog 172 [.lst .o 1 (aaZ0.map AV.i), .i abZ0, .i acZ0, .pt 1000000000 0 0] [(1000000000, .var (.i adZ0))] ((fun (r : Int × Int × Int) => .tup [.i r.1, .i r.2.1]) r) ((fun (r : Int × Int × Int) => [(1000000000, .var (.i r.2.2))]) r) := by
  refine okM_of_body (lr := [1000000000]) hmix m172M1 rfl rfl ?_
  unfold M_slices_order2Ordered_intM1 at h
  simp only [ZC, A172M1, V172M1]
  obtain ⟨yZ1, hyZ1, h⟩ := bind_s h
  obtain ⟨hyZ1a, hyZ1b⟩ := geti_s hyZ1
  obtain ⟨yZ2, hyZ2, h⟩ := bind_s h
  obtain ⟨hyZ2a, hyZ2b⟩ := geti_s hyZ2
  obtain ⟨rZ3, hrZ3, h⟩ := bind_s h
  refine ZF (ZA hyZ1a (ZA hyZ1b (ZA hyZ2a hyZ2b))) ?_
  refine ZS (ZA hyZ1a (ZA hyZ1b (ZA hyZ2a hyZ2b))) (w_cmp_Less_int _ _ hrZ3) ?_
  refine ZG ?_
  obtain ⟨cZ4, h⟩ | ⟨cZ4, h⟩ := cond_s h
  · cases h
    exact ZL (ZA hyZ1a (ZA hyZ1b (ZA hyZ2a (ZA hyZ2b cZ4)))) V172M1.eq_1
  · cases h
    exact ZL (ZA hyZ1a (ZA hyZ1b (ZA hyZ2a (ZA hyZ2b cZ4)))) V172M1.eq_1
theorem w_slices_medianOrdered_intM1 (aaZ0 : List Int) (abZ0 : Int) (acZ0 : Int) (adZ0 : Int) (aeZ0 : Int) {r : Int × Int} (h : M_slices_medianOrdered_intM1 aaZ0 abZ0 acZ0 adZ0 aeZ0 = some r) : OkM Try.prog 171 [.lst .o 1 (aaZ0.map AV.i), .i abZ0, .i acZ0, .i adZ0, .pt 1000000000 0 0] [(1000000000, .var (.i aeZ0))] ((fun (r : Int × Int) => .i r.1) r) ((fun (r : Int × Int) => [(1000000000, .var (.i r.2))]) r) := by
  refine okM_of_body (lr := [1000000000]) hmix m171M1 rfl rfl ?_
  unfold M_slices_medianOrdered_intM1 at h
  simp only [ZC, A171M1, V171M1]
  obtain ⟨rZ1, hrZ1, h⟩ := bind_s h
  refine ZF trivial ?_
  refine ZW trivial (w_slices_order2Ordered_intM1 _ _ _ _ hrZ1) (h2 := by first | exact nm_ok [1000000000] rfl (by decide +kernel) | exact nm_ok2 [1000000000] [] rfl (by decide +kernel) ZQ | exact ZQ) (hk := ?_)
  refine ZG ?_
  obtain ⟨rZ2, hrZ2, h⟩ := bind_s h
  refine ZF trivial ?_
  refine ZW trivial (w_slices_order2Ordered_intM1 _ _ _ _ hrZ2) (h2 := by first | exact nm_ok [1000000000] rfl (by decide +kernel) | exact nm_ok2 [1000000000] [] rfl (by decide +kernel) ZQ | exact ZQ) (hk := ?_)
  refine ZG ?_
  obtain ⟨rZ3, hrZ3, h⟩ := bind_s h
  refine ZF trivial ?_
  refine ZW trivial (w_slices_order2Ordered_intM1 _ _ _ _ hrZ3) (h2 := by first | exact nm_ok [1000000000] rfl (by decide +kernel) | exact nm_ok2 [1000000000] [] rfl (by decide +kernel) ZQ | exact ZQ) (hk := ?_)
  refine ZG ?_
  cases h
  exact ZL trivial V171M1.eq_1
theorem w_slices_medianAdjacentOrdered_intM1 (aaZ0 : List Int) (abZ0 : Int) (acZ0 : Int) {r : Int × Int} (h : M_slices_medianAdjacentOrdered_intM1 aaZ0 abZ0 acZ0 = some r) : OkM Try.prog 170 [.lst .o 1 (aaZ0.map AV.i), .i abZ0, .pt 1000000000 0 0] [(1000000000, .var (.i acZ0))] ((fun (r : Int × Int) => .i r.1) r) ((fun (r : Int × Int) => [(1000000000, .var (.i r.2))]) r) := by
  refine okM_of_body (lr := [1000000000]) hmix m170M1 rfl rfl ?_
  unfold M_slices_medianAdjacentOrdered_intM1 at h
  simp only [ZC, A170M1, V170M1]
  obtain ⟨rZ1, hrZ1, h⟩ := bind_s h
  refine ZF trivial ?_
  refine ZW trivial (w_slices_medianOrdered_intM1 _ _ _ _ _ hrZ1) (h2 := by first | exact nm_ok [1000000000] rfl (by decide +kernel) | exact nm_ok2 [1000000000] [] rfl (by decide +kernel) ZQ | exact ZQ) (hk := ?_)
  refine ZG ?_
  cases h
  exact ZL trivial V170M1.eq_1
theorem w_slices_choosePivotOrdered_int (dataZ0 : List Int) (aZ0 : Int) (bZ0 : Int) {r : Int × Int} (h : M_slices_choosePivotOrdered_int dataZ0 aZ0 bZ0 = some r) : Ok Try.prog 157 [.lst .o 1 (dataZ0.map AV.i), .i aZ0, .i bZ0] ((fun r => .tup [.i r.1, .i r.2]) r) := by
  refine ok_of_body hmix m157 rfl ?_
  unfold M_slices_choosePivotOrdered_int at h
  simp only [ZC, A157, V157, body_eq]
  obtain ⟨uZ1, huZ1, h⟩ := bind_s h
  have huZ1g := grd_s huZ1
  obtain ⟨uZ2, huZ2, h⟩ := bind_s h
  have huZ2g := grd_s huZ2
  obtain ⟨uZ3, huZ3, h⟩ := bind_s h
  have huZ3g := grd_s huZ3
  obtain ⟨oZ11, hoZ11, h⟩ := bind_s h
  try refine ZF (ZA huZ1g (ZA huZ2g huZ3g)) ?_
  refine join_rule0 (sh := (fun v => ⟨[(9, .pt 9 0 0), (11, .i v.1)], [(9, .var (.i v.2))]⟩)) (s := oZ11) ?_ ?_
  · replace h := hoZ11
    obtain ⟨cZ4, h⟩ | ⟨cZ4, h⟩ := cond_s h
    · obtain ⟨oZ9, hoZ9, h⟩ := bind_s h
      try refine ZF (ZA huZ1g (ZA huZ2g (ZA huZ3g cZ4))) ?_
      refine join_rule0 (sh := (fun v => ⟨[(0, .lst .o 1 (dataZ0.map AV.i)), (9, .pt 9 0 0), (10, .i v.1), (11, .i v.2.1), (12, .i v.2.2.1)], [(9, .var (.i v.2.2.2))]⟩)) (s := oZ9) ?_ ?_
      · replace h := hoZ9
        obtain ⟨cZ5, h⟩ | ⟨cZ5, h⟩ := cond_s h
        · obtain ⟨rZ6, hrZ6, h⟩ := bind_s h
          refine ZF (ZA huZ1g (ZA huZ2g (ZA huZ3g (ZA cZ4 cZ5)))) ?_
          refine ZW (ZA huZ1g (ZA huZ2g (ZA huZ3g (ZA cZ4 cZ5)))) (w_slices_medianAdjacentOrdered_intM1 _ _ _ hrZ6) (h2 := by first | exact nm_ok [1000000000] rfl (by decide +kernel) | exact nm_ok2 [1000000000] [] rfl (by decide +kernel) ZQ | exact ZQ) (hk := ?_)
          refine ZG ?_
          obtain ⟨rZ7, hrZ7, h⟩ := bind_s h
          refine ZF (ZA huZ1g (ZA huZ2g (ZA huZ3g (ZA cZ4 cZ5)))) ?_
          refine ZW (ZA huZ1g (ZA huZ2g (ZA huZ3g (ZA cZ4 cZ5)))) (w_slices_medianAdjacentOrdered_intM1 _ _ _ hrZ7) (h2 := by first | exact nm_ok [1000000000] rfl (by decide +kernel) | exact nm_ok2 [1000000000] [] rfl (by decide +kernel) ZQ | exact ZQ) (hk := ?_)
          refine ZG ?_
          obtain ⟨rZ8, hrZ8, h⟩ := bind_s h
          refine ZF (ZA huZ1g (ZA huZ2g (ZA huZ3g (ZA cZ4 cZ5)))) ?_
          refine ZW (ZA huZ1g (ZA huZ2g (ZA huZ3g (ZA cZ4 cZ5)))) (w_slices_medianAdjacentOrdered_intM1 _ _ _ hrZ8) (h2 := by first | exact nm_ok [1000000000] rfl (by decide +kernel) | exact nm_ok2 [1000000000] [] rfl (by decide +kernel) ZQ | exact ZQ) (hk := ?_)
          refine ZG ?_
          cases h
          exact ZL (ZA huZ1g (ZA huZ2g (ZA huZ3g (ZA cZ4 cZ5)))) trivial
        · cases h
          exact ZL (ZA huZ1g (ZA huZ2g (ZA huZ3g (ZA cZ4 cZ5)))) trivial
      · simp only [ZC, A157R1]
        obtain ⟨rZ10, hrZ10, h⟩ := bind_s h
        refine ZF (ZA huZ1g (ZA huZ2g (ZA huZ3g cZ4))) ?_
        refine ZW (ZA huZ1g (ZA huZ2g (ZA huZ3g cZ4))) (w_slices_medianOrdered_intM1 _ _ _ _ _ hrZ10) (h2 := by first | exact nm_ok [1000000000] rfl (by decide +kernel) | exact nm_ok2 [1000000000] [] rfl (by decide +kernel) ZQ | exact ZQ) (hk := ?_)
        refine ZG ?_
        cases h
        exact ZL (ZA huZ1g (ZA huZ2g (ZA huZ3g cZ4))) trivial
    · cases h
      exact ZL (ZA huZ1g (ZA huZ2g (ZA huZ3g cZ4))) trivial
  · simp only [ZC, A157R2]
    obtain ⟨cZ12, h⟩ | ⟨cZ12, h⟩ := cond_s h
    · cases h
      exact ZL (ZA huZ1g (ZA huZ2g (ZA huZ3g cZ12))) V157.eq_1
    · obtain ⟨cZ13, h⟩ | ⟨cZ13, h⟩ := cond_s h
      · cases h
        exact ZL (ZA huZ1g (ZA huZ2g (ZA huZ3g (ZA cZ12 cZ13)))) V157.eq_1
      · cases h
        exact ZL (ZA huZ1g (ZA huZ2g (ZA huZ3g (ZA cZ12 cZ13)))) V157.eq_1
def S_slices_reverseRangeOrdered_intM1L1 (v : Int × Int × List Int) : St := ⟨[(0, .sl 1000000000 0 v.2.2.length), (6, .i v.1), (7, .i v.2.1)], [(1000000000, .arr 1 (v.2.2.map AV.i))]⟩
def SX_slices_reverseRangeOrdered_intM1L1 (v : List Int) : St := ⟨[], [(1000000000, .arr 1 (v.map AV.i))]⟩
theorem w_slices_reverseRangeOrdered_intM1L1 (sZ1 : Int × Int × List Int) (o : (Int × Int × List Int) ⊕ (List Int)) (h : M_slices_reverseRangeOrdered_intM1L1 sZ1 = some o) : AWP (OkS Try.prog) A158M1L1 (qL [0, 6, 7] [1000000000] (S_slices_reverseRangeOrdered_intM1L1) (qX 0 [] [1000000000] (SX_slices_reverseRangeOrdered_intM1L1)) o) (S_slices_reverseRangeOrdered_intM1L1 sZ1) := by
  unfold M_slices_reverseRangeOrdered_intM1L1 at h
  simp only [ZC, S_slices_reverseRangeOrdered_intM1L1, A158M1L1]
  obtain ⟨cZ2, h⟩ | ⟨cZ2, h⟩ := cond_s h
  · obtain ⟨kZ3, hkZ3, h⟩ := bind_s h
    obtain ⟨hkZ3a, hkZ3b⟩ := grd_s hkZ3
    obtain ⟨yZ4, hyZ4, h⟩ := bind_s h
    obtain ⟨kZ5, hkZ5, h⟩ := bind_s h
    obtain ⟨hkZ5a, hkZ5b⟩ := grd_s hkZ5
    obtain ⟨yZ6, hyZ6, h⟩ := bind_s h
    obtain ⟨lZ7, hlZ7, h⟩ := bnd_s h
    have eZ8 : (sZ1.2.2.map AV.i).set (Int.toNat sZ1.1) (.i yZ4) = lZ7.map AV.i := by rw [← hlZ7, List.map_set]
    obtain ⟨yZ9, hyZ9, h⟩ := bind_s h
    obtain ⟨lZ10, hlZ10, h⟩ := bnd_s h
    have eZ11 : (lZ7.map AV.i).set (Int.toNat sZ1.2.1) (.i yZ6) = lZ10.map AV.i := by rw [← hlZ10, List.map_set]
    cases h
    exact ZL (ZA cZ2 (ZA hkZ3a (ZA hkZ3b (ZA hyZ4 (ZA hkZ5a (ZA hkZ5b (ZA hyZ6 (ZA eZ8 (ZA hyZ9 eZ11))))))))) (ZA S_slices_reverseRangeOrdered_intM1L1.eq_1 (ZA SX_slices_reverseRangeOrdered_intM1L1.eq_1 (ZA hlZ7.symm hlZ10.symm)))
  · cases h
    exact ZL cZ2 (ZA S_slices_reverseRangeOrdered_intM1L1.eq_1 SX_slices_reverseRangeOrdered_intM1L1.eq_1)
theorem w_slices_reverseRangeOrdered_intM1 (aaZ0 : Int) (abZ0 : Int) (acZ0 : List Int) {r : List Int} (h : M_slices_reverseRangeOrdered_intM1 aaZ0 abZ0 acZ0 = some r) : OkM Try.prog 158 [.sl 1000000000 0 acZ0.length, .i aaZ0, .i abZ0] [(1000000000, .arr 1 (acZ0.map AV.i))] ((fun (r : List Int) => .tup []) r) ((fun (r : List Int) => [(1000000000, .arr 1 (r.map AV.i))]) r) := by
  refine okM_of_body (lr := [1000000000]) hmix m158M1 rfl rfl ?_
  unfold M_slices_reverseRangeOrdered_intM1 at h
  simp only [ZC, A158M1, V158M1]
  obtain ⟨oZ12, hoZ12, h⟩ := bind_s h
  try refine ZF trivial ?_
  first | refine tail_rule0 (blk_rule0 (loop_rule (w_slices_reverseRangeOrdered_intM1L1) hoZ12 ?_)) (fun τ qZ13 => ?_) | refine tail_blk0 (loop_rule (w_slices_reverseRangeOrdered_intM1L1) hoZ12 ?_) (fun τ qZ13 => ?_)
  · exact ZK (ZA S_slices_reverseRangeOrdered_intM1L1.eq_1 SX_slices_reverseRangeOrdered_intM1L1.eq_1)
  · cases h
    refine finM_shp qZ13 (by decide) ?_ rfl
    exact ZK (ZA V158M1.eq_1 SX_slices_reverseRangeOrdered_intM1L1.eq_1)
def S_slices_partialInsertionSortOrdered_intM1L2 (aaZ0 : Nat) (abZ0 : Nat) (acZ0 : Int) (adZ0 : Int) (sZ1 : Int × Int × List Int) (v : Int) : St := ⟨[(0, .sl 1000000000 aaZ0 abZ0), (1, .i acZ0), (2, .i adZ0), (7, .i v), (8, .i sZ1.2.1)], [(1000000000, .arr 1 (sZ1.2.2.map AV.i))]⟩
def SX_slices_partialInsertionSortOrdered_intM1L2 (aaZ0 : Nat) (abZ0 : Nat) (acZ0 : Int) (adZ0 : Int) (sZ1 : Int × Int × List Int) (v : Int) : St := ⟨[(0, .sl 1000000000 aaZ0 abZ0), (1, .i acZ0), (2, .i adZ0), (7, .i v), (8, .i sZ1.2.1)], [(1000000000, .arr 1 (sZ1.2.2.map AV.i))]⟩
theorem w_slices_partialInsertionSortOrdered_intM1L2 (aaZ0 : Nat) (abZ0 : Nat) (acZ0 : Int) (adZ0 : Int) (sZ1 : Int × Int × List Int) (sZ3 : Int) (o : Int ⊕ Int) (h : M_slices_partialInsertionSortOrdered_intM1L2 aaZ0 abZ0 adZ0 sZ1 sZ3 = some o) : AWP (OkS Try.prog) A159M1L1 (qL [0, 1, 2, 7, 8] [1000000000] (S_slices_partialInsertionSortOrdered_intM1L2 aaZ0 abZ0 acZ0 adZ0 sZ1) (qX 2 [0, 1, 2, 7, 8] [1000000000] (SX_slices_partialInsertionSortOrdered_intM1L2 aaZ0 abZ0 acZ0 adZ0 sZ1)) o) (S_slices_partialInsertionSortOrdered_intM1L2 aaZ0 abZ0 acZ0 adZ0 sZ1 sZ3) := by
  unfold M_slices_partialInsertionSortOrdered_intM1L2 at h
  simp only [ZC, S_slices_partialInsertionSortOrdered_intM1L2, A159M1L1]
  obtain ⟨cZ4, h⟩ | ⟨cZ4, h⟩ := cond_s h
  · obtain ⟨kZ5, hkZ5, h⟩ := bind_s h
    obtain ⟨hkZ5a, hkZ5b⟩ := grd_s hkZ5
    obtain ⟨yZ6, hyZ6, h⟩ := bind_s h
    obtain ⟨kZ7, hkZ7, h⟩ := bind_s h
    obtain ⟨hkZ7a, hkZ7b⟩ := grd_s hkZ7
    obtain ⟨yZ8, hyZ8, h⟩ := bind_s h
    obtain ⟨rZ9, hrZ9, h⟩ := bind_s h
    refine ZF (ZA cZ4 (ZA hkZ5a (ZA hkZ5b (ZA hyZ6 (ZA hkZ7a (ZA hkZ7b hyZ8)))))) ?_
    refine ZS (ZA cZ4 (ZA hkZ5a (ZA hkZ5b (ZA hyZ6 (ZA hkZ7a (ZA hkZ7b hyZ8)))))) (w_cmp_Less_int _ _ hrZ9) ?_
    refine ZG ?_
    obtain ⟨cZ10, h⟩ | ⟨cZ10, h⟩ := cond_s h
    · cases h
      exact ZL (ZA cZ4 (ZA hkZ5a (ZA hkZ5b (ZA hyZ6 (ZA hkZ7a (ZA hkZ7b (ZA hyZ8 cZ10))))))) (ZA S_slices_partialInsertionSortOrdered_intM1L2.eq_1 SX_slices_partialInsertionSortOrdered_intM1L2.eq_1)
    · cases h
      exact ZL (ZA cZ4 (ZA hkZ5a (ZA hkZ5b (ZA hyZ6 (ZA hkZ7a (ZA hkZ7b (ZA hyZ8 cZ10))))))) (ZA S_slices_partialInsertionSortOrdered_intM1L2.eq_1 SX_slices_partialInsertionSortOrdered_intM1L2.eq_1)
  · cases h
    exact ZL cZ4 (ZA S_slices_partialInsertionSortOrdered_intM1L2.eq_1 SX_slices_partialInsertionSortOrdered_intM1L2.eq_1)
def S_slices_partialInsertionSortOrdered_intM1L3 (aaZ0 : Nat) (abZ0 : Nat) (acZ0 : Int) (adZ0 : Int) (sZ1 : Int × Int × List Int) (oZ11 : Int) (v : Int × List Int) : St := ⟨[(0, .sl 1000000000 aaZ0 abZ0), (1, .i acZ0), (2, .i adZ0), (7, .i oZ11), (8, .i sZ1.2.1), (9, .i v.1)], [(1000000000, .arr 1 (v.2.map AV.i))]⟩
def SX_slices_partialInsertionSortOrdered_intM1L3 (aaZ0 : Nat) (abZ0 : Nat) (acZ0 : Int) (adZ0 : Int) (sZ1 : Int × Int × List Int) (oZ11 : Int) (v : List Int) : St := ⟨[(0, .sl 1000000000 aaZ0 abZ0), (1, .i acZ0), (2, .i adZ0), (7, .i oZ11), (8, .i sZ1.2.1)], [(1000000000, .arr 1 (v.map AV.i))]⟩
theorem w_slices_partialInsertionSortOrdered_intM1L3 (aaZ0 : Nat) (abZ0 : Nat) (acZ0 : Int) (adZ0 : Int) (sZ1 : Int × Int × List Int) (oZ11 : Int) (sZ24 : Int × List Int) (o : (Int × List Int) ⊕ (List Int)) (h : M_slices_partialInsertionSortOrdered_intM1L3 aaZ0 abZ0 sZ24 = some o) : AWP (OkS Try.prog) A159M1L3 (qL [0, 1, 2, 7, 8, 9] [1000000000] (S_slices_partialInsertionSortOrdered_intM1L3 aaZ0 abZ0 acZ0 adZ0 sZ1 oZ11) (qX 4 [0, 1, 2, 7, 8] [1000000000] (SX_slices_partialInsertionSortOrdered_intM1L3 aaZ0 abZ0 acZ0 adZ0 sZ1 oZ11)) o) (S_slices_partialInsertionSortOrdered_intM1L3 aaZ0 abZ0 acZ0 adZ0 sZ1 oZ11 sZ24) := by
  unfold M_slices_partialInsertionSortOrdered_intM1L3 at h
  simp only [ZC, S_slices_partialInsertionSortOrdered_intM1L3, A159M1L3]
  obtain ⟨cZ25, h⟩ | ⟨cZ25, h⟩ := cond_s h
  · obtain ⟨kZ26, hkZ26, h⟩ := bind_s h
    obtain ⟨hkZ26a, hkZ26b⟩ := grd_s hkZ26
    obtain ⟨yZ27, hyZ27, h⟩ := bind_s h
    obtain ⟨kZ28, hkZ28, h⟩ := bind_s h
    obtain ⟨hkZ28a, hkZ28b⟩ := grd_s hkZ28
    obtain ⟨yZ29, hyZ29, h⟩ := bind_s h
    obtain ⟨rZ30, hrZ30, h⟩ := bind_s h
    refine ZF (ZA cZ25 (ZA hkZ26a (ZA hkZ26b (ZA hyZ27 (ZA hkZ28a (ZA hkZ28b hyZ29)))))) ?_
    refine ZS (ZA cZ25 (ZA hkZ26a (ZA hkZ26b (ZA hyZ27 (ZA hkZ28a (ZA hkZ28b hyZ29)))))) (w_cmp_Less_int _ _ hrZ30) ?_
    refine ZG ?_
    obtain ⟨cZ31, h⟩ | ⟨cZ31, h⟩ := cond_s h
    · cases h
      exact ZL (ZA cZ25 (ZA hkZ26a (ZA hkZ26b (ZA hyZ27 (ZA hkZ28a (ZA hkZ28b (ZA hyZ29 cZ31))))))) (ZA S_slices_partialInsertionSortOrdered_intM1L3.eq_1 SX_slices_partialInsertionSortOrdered_intM1L3.eq_1)
    · obtain ⟨lZ32, hlZ32, h⟩ := bnd_s h
      have eZ33 : (sZ24.2.map AV.i).set (aaZ0 + (Int.toNat sZ24.1)) (.i yZ29) = lZ32.map AV.i := by rw [← hlZ32, List.map_set]
      obtain ⟨yZ34, hyZ34, h⟩ := bind_s h
      obtain ⟨lZ35, hlZ35, h⟩ := bnd_s h
      have eZ36 : (lZ32.map AV.i).set (aaZ0 + (Int.toNat (IntKind.wrap .i64 (sZ24.1 - 1)))) (.i yZ27) = lZ35.map AV.i := by rw [← hlZ35, List.map_set]
      cases h
      exact ZL (ZA cZ25 (ZA hkZ26a (ZA hkZ26b (ZA hyZ27 (ZA hkZ28a (ZA hkZ28b (ZA hyZ29 (ZA cZ31 (ZA eZ33 (ZA hyZ34 eZ36)))))))))) (ZA S_slices_partialInsertionSortOrdered_intM1L3.eq_1 (ZA SX_slices_partialInsertionSortOrdered_intM1L3.eq_1 (ZA hlZ32.symm hlZ35.symm)))
  · cases h
    exact ZL cZ25 (ZA S_slices_partialInsertionSortOrdered_intM1L3.eq_1 SX_slices_partialInsertionSortOrdered_intM1L3.eq_1)
def S_slices_partialInsertionSortOrdered_intM1L4 (aaZ0 : Nat) (abZ0 : Nat) (acZ0 : Int) (adZ0 : Int) (sZ1 : Int × Int × List Int) (oZ11 : Int) (v : Int × List Int) : St := ⟨[(0, .sl 1000000000 aaZ0 abZ0), (1, .i acZ0), (2, .i adZ0), (7, .i oZ11), (8, .i sZ1.2.1), (10, .i v.1)], [(1000000000, .arr 1 (v.2.map AV.i))]⟩
def SX_slices_partialInsertionSortOrdered_intM1L4 (aaZ0 : Nat) (abZ0 : Nat) (acZ0 : Int) (adZ0 : Int) (sZ1 : Int × Int × List Int) (oZ11 : Int) (v : List Int) : St := ⟨[(0, .sl 1000000000 aaZ0 abZ0), (1, .i acZ0), (2, .i adZ0), (7, .i oZ11), (8, .i sZ1.2.1)], [(1000000000, .arr 1 (v.map AV.i))]⟩
theorem w_slices_partialInsertionSortOrdered_intM1L4 (aaZ0 : Nat) (abZ0 : Nat) (acZ0 : Int) (adZ0 : Int) (sZ1 : Int × Int × List Int) (oZ11 : Int) (sZ41 : Int × List Int) (o : (Int × List Int) ⊕ (List Int)) (h : M_slices_partialInsertionSortOrdered_intM1L4 aaZ0 abZ0 adZ0 sZ41 = some o) : AWP (OkS Try.prog) A159M1L5 (qL [0, 1, 2, 7, 8, 10] [1000000000] (S_slices_partialInsertionSortOrdered_intM1L4 aaZ0 abZ0 acZ0 adZ0 sZ1 oZ11) (qX 6 [0, 1, 2, 7, 8] [1000000000] (SX_slices_partialInsertionSortOrdered_intM1L4 aaZ0 abZ0 acZ0 adZ0 sZ1 oZ11)) o) (S_slices_partialInsertionSortOrdered_intM1L4 aaZ0 abZ0 acZ0 adZ0 sZ1 oZ11 sZ41) := by
  unfold M_slices_partialInsertionSortOrdered_intM1L4 at h
  simp only [ZC, S_slices_partialInsertionSortOrdered_intM1L4, A159M1L5]
  obtain ⟨cZ42, h⟩ | ⟨cZ42, h⟩ := cond_s h
  · obtain ⟨kZ43, hkZ43, h⟩ := bind_s h
    obtain ⟨hkZ43a, hkZ43b⟩ := grd_s hkZ43
    obtain ⟨yZ44, hyZ44, h⟩ := bind_s h
    obtain ⟨kZ45, hkZ45, h⟩ := bind_s h
    obtain ⟨hkZ45a, hkZ45b⟩ := grd_s hkZ45
    obtain ⟨yZ46, hyZ46, h⟩ := bind_s h
    obtain ⟨rZ47, hrZ47, h⟩ := bind_s h
    refine ZF (ZA cZ42 (ZA hkZ43a (ZA hkZ43b (ZA hyZ44 (ZA hkZ45a (ZA hkZ45b hyZ46)))))) ?_
    refine ZS (ZA cZ42 (ZA hkZ43a (ZA hkZ43b (ZA hyZ44 (ZA hkZ45a (ZA hkZ45b hyZ46)))))) (w_cmp_Less_int _ _ hrZ47) ?_
    refine ZG ?_
    obtain ⟨cZ48, h⟩ | ⟨cZ48, h⟩ := cond_s h
    · cases h
      exact ZL (ZA cZ42 (ZA hkZ43a (ZA hkZ43b (ZA hyZ44 (ZA hkZ45a (ZA hkZ45b (ZA hyZ46 cZ48))))))) (ZA S_slices_partialInsertionSortOrdered_intM1L4.eq_1 SX_slices_partialInsertionSortOrdered_intM1L4.eq_1)
    · obtain ⟨lZ49, hlZ49, h⟩ := bnd_s h
      have eZ50 : (sZ41.2.map AV.i).set (aaZ0 + (Int.toNat sZ41.1)) (.i yZ46) = lZ49.map AV.i := by rw [← hlZ49, List.map_set]
      obtain ⟨yZ51, hyZ51, h⟩ := bind_s h
      obtain ⟨lZ52, hlZ52, h⟩ := bnd_s h
      have eZ53 : (lZ49.map AV.i).set (aaZ0 + (Int.toNat (IntKind.wrap .i64 (sZ41.1 - 1)))) (.i yZ44) = lZ52.map AV.i := by rw [← hlZ52, List.map_set]
      cases h
      exact ZL (ZA cZ42 (ZA hkZ43a (ZA hkZ43b (ZA hyZ44 (ZA hkZ45a (ZA hkZ45b (ZA hyZ46 (ZA cZ48 (ZA eZ50 (ZA hyZ51 eZ53)))))))))) (ZA S_slices_partialInsertionSortOrdered_intM1L4.eq_1 (ZA SX_slices_partialInsertionSortOrdered_intM1L4.eq_1 (ZA hlZ49.symm hlZ52.symm)))
  · cases h
    exact ZL cZ42 (ZA S_slices_partialInsertionSortOrdered_intM1L4.eq_1 SX_slices_partialInsertionSortOrdered_intM1L4.eq_1)
def S_slices_partialInsertionSortOrdered_intM1L1 (aaZ0 : Nat) (abZ0 : Nat) (acZ0 : Int) (adZ0 : Int) (v : Int × Int × List Int) : St := ⟨[(0, .sl 1000000000 aaZ0 abZ0), (1, .i acZ0), (2, .i adZ0), (7, .i v.1), (8, .i v.2.1)], [(1000000000, .arr 1 (v.2.2.map AV.i))]⟩
def SX_slices_partialInsertionSortOrdered_intM1L1 (v : List Int) : St := ⟨[], [(1000000000, .arr 1 (v.map AV.i))]⟩
theorem w_slices_partialInsertionSortOrdered_intM1L1 (aaZ0 : Nat) (abZ0 : Nat) (acZ0 : Int) (adZ0 : Int) (sZ1 : Int × Int × List Int) (o : (Int × Int × List Int) ⊕ ((List Int) ⊕ (Bool × List Int))) (h : M_slices_partialInsertionSortOrdered_intM1L1 aaZ0 abZ0 acZ0 adZ0 sZ1 = some o) : AWP (OkS Try.prog) A159M1L7 (qL [0, 1, 2, 7, 8] [1000000000] (S_slices_partialInsertionSortOrdered_intM1L1 aaZ0 abZ0 acZ0 adZ0) (qS (qX 0 [] [1000000000] (SX_slices_partialInsertionSortOrdered_intM1L1)) (qM V159M1 [1000000000] (fun (r : Bool × List Int) => .b r.1) (fun (r : Bool × List Int) => [(1000000000, .arr 1 (r.2.map AV.i))]))) o) (S_slices_partialInsertionSortOrdered_intM1L1 aaZ0 abZ0 acZ0 adZ0 sZ1) := by
  unfold M_slices_partialInsertionSortOrdered_intM1L1 at h
  simp only [ZC, S_slices_partialInsertionSortOrdered_intM1L1, A159M1L7]
  obtain ⟨cZ2, h⟩ | ⟨cZ2, h⟩ := cond_s h
  · obtain ⟨oZ56, hoZ56, h⟩ := bind_s h
    try refine ZF cZ2 ?_
    refine join_rule (sh := (fun v => ⟨[(0, .sl 1000000000 aaZ0 abZ0), (1, .i acZ0), (2, .i adZ0), (7, .i v.1), (8, .i sZ1.2.1)], [(1000000000, .arr 1 (v.2.map AV.i))]⟩)) (q := (qM V159M1 [1000000000] (fun (r : Bool × List Int) => .b r.1) (fun (r : Bool × List Int) => [(1000000000, .arr 1 (r.2.map AV.i))]))) (o := oZ56) ?_ (fun vZ57 hv => ?_) (fun xZ58 hv e τ hne hq => ?_)
    · replace h := hoZ56
      obtain ⟨oZ11, hoZ11, h⟩ := bind_s h
      try refine ZF cZ2 ?_
      refine join_rule0 (blk_rule0 (loop_rule (w_slices_partialInsertionSortOrdered_intM1L2 aaZ0 abZ0 acZ0 adZ0 sZ1) hoZ11 ?_)) ?_
      · exact ZK (ZA S_slices_partialInsertionSortOrdered_intM1L2.eq_1 SX_slices_partialInsertionSortOrdered_intM1L2.eq_1)
      · simp only [ZC, SX_slices_partialInsertionSortOrdered_intM1L2, A159M1R2]
        obtain ⟨cZ12, h⟩ | ⟨cZ12, h⟩ := cond_s h
        · cases h
          exact ZL (ZA cZ2 cZ12) V159M1.eq_1
        · obtain ⟨cZ13, h⟩ | ⟨cZ13, h⟩ := cond_s h
          · cases h
            exact ZL (ZA cZ2 (ZA cZ12 cZ13)) V159M1.eq_1
          · obtain ⟨kZ14, hkZ14, h⟩ := bind_s h
            obtain ⟨hkZ14a, hkZ14b⟩ := grd_s hkZ14
            obtain ⟨yZ15, hyZ15, h⟩ := bind_s h
            obtain ⟨kZ16, hkZ16, h⟩ := bind_s h
            obtain ⟨hkZ16a, hkZ16b⟩ := grd_s hkZ16
            obtain ⟨yZ17, hyZ17, h⟩ := bind_s h
            obtain ⟨lZ18, hlZ18, h⟩ := bnd_s h
            have eZ19 : (sZ1.2.2.map AV.i).set (aaZ0 + (Int.toNat oZ11)) (.i yZ15) = lZ18.map AV.i := by rw [← hlZ18, List.map_set]
            obtain ⟨yZ20, hyZ20, h⟩ := bind_s h
            obtain ⟨lZ21, hlZ21, h⟩ := bnd_s h
            have eZ22 : (lZ18.map AV.i).set (aaZ0 + (Int.toNat (IntKind.wrap .i64 (oZ11 - 1)))) (.i yZ17) = lZ21.map AV.i := by rw [← hlZ21, List.map_set]
            obtain ⟨oZ39, hoZ39, h⟩ := bind_s h
            try refine ZF (ZA cZ2 (ZA cZ12 (ZA cZ13 (ZA hkZ14a (ZA hkZ14b (ZA hyZ15 (ZA hkZ16a (ZA hkZ16b (ZA hyZ17 (ZA eZ19 (ZA hyZ20 eZ22))))))))))) ?_
            refine join_rule0 (sh := (fun v => ⟨[(0, .sl 1000000000 aaZ0 abZ0), (1, .i acZ0), (2, .i adZ0), (7, .i oZ11), (8, .i sZ1.2.1)], [(1000000000, .arr 1 (v.map AV.i))]⟩)) (s := oZ39) ?_ ?_
            · replace h := hoZ39
              obtain ⟨cZ23, h⟩ | ⟨cZ23, h⟩ := cond_s h
              · obtain ⟨oZ37, hoZ37, h⟩ := bind_s h
                try refine ZF (ZA cZ2 (ZA cZ12 (ZA cZ13 (ZA hkZ14a (ZA hkZ14b (ZA hyZ15 (ZA hkZ16a (ZA hkZ16b (ZA hyZ17 (ZA eZ19 (ZA hyZ20 (ZA eZ22 cZ23)))))))))))) ?_
                first | refine tail_rule0 (blk_rule0 (loop_rule (w_slices_partialInsertionSortOrdered_intM1L3 aaZ0 abZ0 acZ0 adZ0 sZ1 oZ11) hoZ37 ?_)) (fun τ qZ38 => ?_) | refine tail_blk0 (loop_rule (w_slices_partialInsertionSortOrdered_intM1L3 aaZ0 abZ0 acZ0 adZ0 sZ1 oZ11) hoZ37 ?_) (fun τ qZ38 => ?_)
                · exact ZK (ZA S_slices_partialInsertionSortOrdered_intM1L3.eq_1 (ZA SX_slices_partialInsertionSortOrdered_intM1L3.eq_1 (ZA hlZ18.symm hlZ21.symm)))
                · cases h
                  try refine ZF trivial ?_
                  refine ⟨rfl, Shp.sub qZ38 (by decide) (by decide) ?_⟩
                  exact ZK SX_slices_partialInsertionSortOrdered_intM1L3.eq_1
              · cases h
                exact ZL (ZA cZ2 (ZA cZ12 (ZA cZ13 (ZA hkZ14a (ZA hkZ14b (ZA hyZ15 (ZA hkZ16a (ZA hkZ16b (ZA hyZ17 (ZA eZ19 (ZA hyZ20 (ZA eZ22 cZ23)))))))))))) (ZA hlZ18.symm hlZ21.symm)
            · simp only [ZC, A159M1R4]
              obtain ⟨cZ40, h⟩ | ⟨cZ40, h⟩ := cond_s h
              · obtain ⟨oZ54, hoZ54, h⟩ := bind_s h
                try refine ZF (ZA cZ2 (ZA cZ12 (ZA cZ13 (ZA hkZ14a (ZA hkZ14b (ZA hyZ15 (ZA hkZ16a (ZA hkZ16b (ZA hyZ17 (ZA eZ19 (ZA hyZ20 (ZA eZ22 cZ40)))))))))))) ?_
                first | refine tail_rule0 (blk_rule0 (loop_rule (w_slices_partialInsertionSortOrdered_intM1L4 aaZ0 abZ0 acZ0 adZ0 sZ1 oZ11) hoZ54 ?_)) (fun τ qZ55 => ?_) | refine tail_blk0 (loop_rule (w_slices_partialInsertionSortOrdered_intM1L4 aaZ0 abZ0 acZ0 adZ0 sZ1 oZ11) hoZ54 ?_) (fun τ qZ55 => ?_)
                · exact ZK (ZA S_slices_partialInsertionSortOrdered_intM1L4.eq_1 SX_slices_partialInsertionSortOrdered_intM1L4.eq_1)
                · cases h
                  try refine ZF trivial ?_
                  refine ⟨rfl, Shp.sub qZ55 (by decide) (by decide) ?_⟩
                  exact ZK SX_slices_partialInsertionSortOrdered_intM1L4.eq_1
              · cases h
                exact ZL (ZA cZ2 (ZA cZ12 (ZA cZ13 (ZA hkZ14a (ZA hkZ14b (ZA hyZ15 (ZA hkZ16a (ZA hkZ16b (ZA hyZ17 (ZA eZ19 (ZA hyZ20 (ZA eZ22 cZ40)))))))))))) trivial
    · subst hv
      simp only [] at h
      simp only [ZC, A159M1R6]
      cases h
      exact ZL cZ2 (ZA S_slices_partialInsertionSortOrdered_intM1L1.eq_1 SX_slices_partialInsertionSortOrdered_intM1L1.eq_1)
    · subst hv
      simp only [] at h
      obtain ⟨rfl, qZ59⟩ := hq
      cases h
      try refine ZF trivial ?_
      first | exact ⟨by simp, qZ59⟩ | exact ⟨by simp, rfl, qZ59⟩
  · cases h
    exact ZL cZ2 (ZA S_slices_partialInsertionSortOrdered_intM1L1.eq_1 SX_slices_partialInsertionSortOrdered_intM1L1.eq_1)
theorem w_slices_partialInsertionSortOrdered_intM1 (aaZ0 : Nat) (abZ0 : Nat) (acZ0 : Int) (adZ0 : Int) (aeZ0 : List Int) {r : Bool × List Int} (h : M_slices_partialInsertionSortOrdered_intM1 aaZ0 abZ0 acZ0 adZ0 aeZ0 = some r) : OkM Try.prog 159 [.sl 1000000000 aaZ0 abZ0, .i acZ0, .i adZ0] [(1000000000, .arr 1 (aeZ0.map AV.i))] ((fun (r : Bool × List Int) => .b r.1) r) ((fun (r : Bool × List Int) => [(1000000000, .arr 1 (r.2.map AV.i))]) r) := by
  refine okM_of_body (lr := [1000000000]) hmix m159M1 rfl rfl ?_
  unfold M_slices_partialInsertionSortOrdered_intM1 at h
  simp only [ZC, A159M1, V159M1]
  obtain ⟨oZ60, hoZ60, h⟩ := bind_s h
  try refine ZF trivial ?_
  refine join_rule (o := oZ60) (blk_rule sideM (loop_rule (w_slices_partialInsertionSortOrdered_intM1L1 aaZ0 abZ0 acZ0 adZ0) hoZ60 ?_)) (fun vZ61 hv => ?_) (fun xZ62 hv e τ hne hq => ?_)
  · exact ZK (ZA S_slices_partialInsertionSortOrdered_intM1L1.eq_1 SX_slices_partialInsertionSortOrdered_intM1L1.eq_1)
  · subst hv
    simp only [] at h
    simp only [ZC, SX_slices_partialInsertionSortOrdered_intM1L1, A159M1R8]
    cases h
    exact ZL trivial V159M1.eq_1
  · subst hv
    simp only [] at h
    obtain ⟨rfl, qZ63⟩ := hq
    cases h
    exact qZ63
def S_slices_partitionEqualOrdered_intM1L2 (aaZ0 : Nat) (abZ0 : Nat) (acZ0 : Int) (sZ10 : Int × Int × List Int) (v : Int) : St := ⟨[(0, .sl 1000000000 aaZ0 abZ0), (1, .i acZ0), (9, .i v), (10, .i sZ10.2.1)], [(1000000000, .arr 1 (sZ10.2.2.map AV.i))]⟩
def SX_slices_partitionEqualOrdered_intM1L2 (aaZ0 : Nat) (abZ0 : Nat) (acZ0 : Int) (sZ10 : Int × Int × List Int) (v : Int) : St := ⟨[(0, .sl 1000000000 aaZ0 abZ0), (1, .i acZ0), (9, .i v), (10, .i sZ10.2.1)], [(1000000000, .arr 1 (sZ10.2.2.map AV.i))]⟩
theorem w_slices_partitionEqualOrdered_intM1L2 (aaZ0 : Nat) (abZ0 : Nat) (acZ0 : Int) (sZ10 : Int × Int × List Int) (sZ11 : Int) (o : Int ⊕ Int) (h : M_slices_partitionEqualOrdered_intM1L2 aaZ0 abZ0 acZ0 sZ10 sZ11 = some o) : AWP (OkS Try.prog) A161M1L1 (qL [0, 1, 9, 10] [1000000000] (S_slices_partitionEqualOrdered_intM1L2 aaZ0 abZ0 acZ0 sZ10) (qX 2 [0, 1, 9, 10] [1000000000] (SX_slices_partitionEqualOrdered_intM1L2 aaZ0 abZ0 acZ0 sZ10)) o) (S_slices_partitionEqualOrdered_intM1L2 aaZ0 abZ0 acZ0 sZ10 sZ11) := by
  unfold M_slices_partitionEqualOrdered_intM1L2 at h
  simp only [ZC, S_slices_partitionEqualOrdered_intM1L2, A161M1L1]
  obtain ⟨cZ12, h⟩ | ⟨cZ12, h⟩ := cond_s h
  · obtain ⟨kZ13, hkZ13, h⟩ := bind_s h
    obtain ⟨hkZ13a, hkZ13b⟩ := grd_s hkZ13
    obtain ⟨yZ14, hyZ14, h⟩ := bind_s h
    obtain ⟨kZ15, hkZ15, h⟩ := bind_s h
    obtain ⟨hkZ15a, hkZ15b⟩ := grd_s hkZ15
    obtain ⟨yZ16, hyZ16, h⟩ := bind_s h
    obtain ⟨rZ17, hrZ17, h⟩ := bind_s h
    refine ZF (ZA cZ12 (ZA hkZ13a (ZA hkZ13b (ZA hyZ14 (ZA hkZ15a (ZA hkZ15b hyZ16)))))) ?_
    refine ZS (ZA cZ12 (ZA hkZ13a (ZA hkZ13b (ZA hyZ14 (ZA hkZ15a (ZA hkZ15b hyZ16)))))) (w_cmp_Less_int _ _ hrZ17) ?_
    refine ZG ?_
    obtain ⟨cZ18, h⟩ | ⟨cZ18, h⟩ := cond_s h
    · cases h
      exact ZL (ZA cZ12 (ZA hkZ13a (ZA hkZ13b (ZA hyZ14 (ZA hkZ15a (ZA hkZ15b (ZA hyZ16 cZ18))))))) (ZA S_slices_partitionEqualOrdered_intM1L2.eq_1 SX_slices_partitionEqualOrdered_intM1L2.eq_1)
    · cases h
      exact ZL (ZA cZ12 (ZA hkZ13a (ZA hkZ13b (ZA hyZ14 (ZA hkZ15a (ZA hkZ15b (ZA hyZ16 cZ18))))))) (ZA S_slices_partitionEqualOrdered_intM1L2.eq_1 SX_slices_partitionEqualOrdered_intM1L2.eq_1)
  · cases h
    exact ZL cZ12 (ZA S_slices_partitionEqualOrdered_intM1L2.eq_1 SX_slices_partitionEqualOrdered_intM1L2.eq_1)
def S_slices_partitionEqualOrdered_intM1L3 (aaZ0 : Nat) (abZ0 : Nat) (acZ0 : Int) (sZ10 : Int × Int × List Int) (oZ19 : Int) (v : Int) : St := ⟨[(0, .sl 1000000000 aaZ0 abZ0), (1, .i acZ0), (9, .i oZ19), (10, .i v)], [(1000000000, .arr 1 (sZ10.2.2.map AV.i))]⟩
def SX_slices_partitionEqualOrdered_intM1L3 (aaZ0 : Nat) (abZ0 : Nat) (acZ0 : Int) (sZ10 : Int × Int × List Int) (oZ19 : Int) (v : Int) : St := ⟨[(0, .sl 1000000000 aaZ0 abZ0), (1, .i acZ0), (9, .i oZ19), (10, .i v)], [(1000000000, .arr 1 (sZ10.2.2.map AV.i))]⟩
theorem w_slices_partitionEqualOrdered_intM1L3 (aaZ0 : Nat) (abZ0 : Nat) (acZ0 : Int) (sZ10 : Int × Int × List Int) (oZ19 : Int) (sZ20 : Int) (o : Int ⊕ Int) (h : M_slices_partitionEqualOrdered_intM1L3 aaZ0 abZ0 acZ0 sZ10 oZ19 sZ20 = some o) : AWP (OkS Try.prog) A161M1L3 (qL [0, 1, 9, 10] [1000000000] (S_slices_partitionEqualOrdered_intM1L3 aaZ0 abZ0 acZ0 sZ10 oZ19) (qX 4 [0, 1, 9, 10] [1000000000] (SX_slices_partitionEqualOrdered_intM1L3 aaZ0 abZ0 acZ0 sZ10 oZ19)) o) (S_slices_partitionEqualOrdered_intM1L3 aaZ0 abZ0 acZ0 sZ10 oZ19 sZ20) := by
  unfold M_slices_partitionEqualOrdered_intM1L3 at h
  simp only [ZC, S_slices_partitionEqualOrdered_intM1L3, A161M1L3]
  obtain ⟨cZ21, h⟩ | ⟨cZ21, h⟩ := cond_s h
  · obtain ⟨kZ22, hkZ22, h⟩ := bind_s h
    obtain ⟨hkZ22a, hkZ22b⟩ := grd_s hkZ22
    obtain ⟨yZ23, hyZ23, h⟩ := bind_s h
    obtain ⟨kZ24, hkZ24, h⟩ := bind_s h
    obtain ⟨hkZ24a, hkZ24b⟩ := grd_s hkZ24
    obtain ⟨yZ25, hyZ25, h⟩ := bind_s h
    obtain ⟨rZ26, hrZ26, h⟩ := bind_s h
    refine ZF (ZA cZ21 (ZA hkZ22a (ZA hkZ22b (ZA hyZ23 (ZA hkZ24a (ZA hkZ24b hyZ25)))))) ?_
    refine ZS (ZA cZ21 (ZA hkZ22a (ZA hkZ22b (ZA hyZ23 (ZA hkZ24a (ZA hkZ24b hyZ25)))))) (w_cmp_Less_int _ _ hrZ26) ?_
    refine ZG ?_
    obtain ⟨cZ27, h⟩ | ⟨cZ27, h⟩ := cond_s h
    · cases h
      exact ZL (ZA cZ21 (ZA hkZ22a (ZA hkZ22b (ZA hyZ23 (ZA hkZ24a (ZA hkZ24b (ZA hyZ25 cZ27))))))) (ZA S_slices_partitionEqualOrdered_intM1L3.eq_1 SX_slices_partitionEqualOrdered_intM1L3.eq_1)
    · cases h
      exact ZL (ZA cZ21 (ZA hkZ22a (ZA hkZ22b (ZA hyZ23 (ZA hkZ24a (ZA hkZ24b (ZA hyZ25 cZ27))))))) (ZA S_slices_partitionEqualOrdered_intM1L3.eq_1 SX_slices_partitionEqualOrdered_intM1L3.eq_1)
  · cases h
    exact ZL cZ21 (ZA S_slices_partitionEqualOrdered_intM1L3.eq_1 SX_slices_partitionEqualOrdered_intM1L3.eq_1)
def S_slices_partitionEqualOrdered_intM1L1 (aaZ0 : Nat) (abZ0 : Nat) (acZ0 : Int) (v : Int × Int × List Int) : St := ⟨[(0, .sl 1000000000 aaZ0 abZ0), (1, .i acZ0), (9, .i v.1), (10, .i v.2.1)], [(1000000000, .arr 1 (v.2.2.map AV.i))]⟩
def SX_slices_partitionEqualOrdered_intM1L1 (v : Int × List Int) : St := ⟨[(9, .i v.1)], [(1000000000, .arr 1 (v.2.map AV.i))]⟩
theorem w_slices_partitionEqualOrdered_intM1L1 (aaZ0 : Nat) (abZ0 : Nat) (acZ0 : Int) (sZ10 : Int × Int × List Int) (o : (Int × Int × List Int) ⊕ (Int × List Int)) (h : M_slices_partitionEqualOrdered_intM1L1 aaZ0 abZ0 acZ0 sZ10 = some o) : AWP (OkS Try.prog) A161M1L5 (qL [0, 1, 9, 10] [1000000000] (S_slices_partitionEqualOrdered_intM1L1 aaZ0 abZ0 acZ0) (qX 0 [9] [1000000000] (SX_slices_partitionEqualOrdered_intM1L1)) o) (S_slices_partitionEqualOrdered_intM1L1 aaZ0 abZ0 acZ0 sZ10) := by
  unfold M_slices_partitionEqualOrdered_intM1L1 at h
  simp only [ZC, S_slices_partitionEqualOrdered_intM1L1, A161M1L5]
  obtain ⟨oZ19, hoZ19, h⟩ := bind_s h
  try refine ZF trivial ?_
  refine join_rule0 (blk_rule0 (loop_rule (w_slices_partitionEqualOrdered_intM1L2 aaZ0 abZ0 acZ0 sZ10) hoZ19 ?_)) ?_
  · exact ZK (ZA S_slices_partitionEqualOrdered_intM1L2.eq_1 SX_slices_partitionEqualOrdered_intM1L2.eq_1)
  · simp only [ZC, SX_slices_partitionEqualOrdered_intM1L2, A161M1R2]
    obtain ⟨oZ28, hoZ28, h⟩ := bind_s h
    try refine ZF trivial ?_
    refine join_rule0 (blk_rule0 (loop_rule (w_slices_partitionEqualOrdered_intM1L3 aaZ0 abZ0 acZ0 sZ10 oZ19) hoZ28 ?_)) ?_
    · exact ZK (ZA S_slices_partitionEqualOrdered_intM1L3.eq_1 SX_slices_partitionEqualOrdered_intM1L3.eq_1)
    · simp only [ZC, SX_slices_partitionEqualOrdered_intM1L3, A161M1R4]
      obtain ⟨cZ29, h⟩ | ⟨cZ29, h⟩ := cond_s h
      · cases h
        exact ZL cZ29 (ZA S_slices_partitionEqualOrdered_intM1L1.eq_1 SX_slices_partitionEqualOrdered_intM1L1.eq_1)
      · obtain ⟨kZ30, hkZ30, h⟩ := bind_s h
        obtain ⟨hkZ30a, hkZ30b⟩ := grd_s hkZ30
        obtain ⟨yZ31, hyZ31, h⟩ := bind_s h
        obtain ⟨kZ32, hkZ32, h⟩ := bind_s h
        obtain ⟨hkZ32a, hkZ32b⟩ := grd_s hkZ32
        obtain ⟨yZ33, hyZ33, h⟩ := bind_s h
        obtain ⟨lZ34, hlZ34, h⟩ := bnd_s h
        have eZ35 : (sZ10.2.2.map AV.i).set (aaZ0 + (Int.toNat oZ19)) (.i yZ31) = lZ34.map AV.i := by rw [← hlZ34, List.map_set]
        obtain ⟨yZ36, hyZ36, h⟩ := bind_s h
        obtain ⟨lZ37, hlZ37, h⟩ := bnd_s h
        have eZ38 : (lZ34.map AV.i).set (aaZ0 + (Int.toNat oZ28)) (.i yZ33) = lZ37.map AV.i := by rw [← hlZ37, List.map_set]
        cases h
        exact ZL (ZA cZ29 (ZA hkZ30a (ZA hkZ30b (ZA hyZ31 (ZA hkZ32a (ZA hkZ32b (ZA hyZ33 (ZA eZ35 (ZA hyZ36 eZ38))))))))) (ZA S_slices_partitionEqualOrdered_intM1L1.eq_1 (ZA SX_slices_partitionEqualOrdered_intM1L1.eq_1 (ZA hlZ34.symm hlZ37.symm)))
theorem w_slices_partitionEqualOrdered_intM1 (aaZ0 : Nat) (abZ0 : Nat) (acZ0 : Int) (adZ0 : Int) (aeZ0 : Int) (afZ0 : List Int) {r : Int × List Int} (h : M_slices_partitionEqualOrdered_intM1 aaZ0 abZ0 acZ0 adZ0 aeZ0 afZ0 = some r) : OkM Try.prog 161 [.sl 1000000000 aaZ0 abZ0, .i acZ0, .i adZ0, .i aeZ0] [(1000000000, .arr 1 (afZ0.map AV.i))] ((fun (r : Int × List Int) => .i r.1) r) ((fun (r : Int × List Int) => [(1000000000, .arr 1 (r.2.map AV.i))]) r) := by
  refine okM_of_body (lr := [1000000000]) hmix m161M1 rfl rfl ?_
  unfold M_slices_partitionEqualOrdered_intM1 at h
  simp only [ZC, A161M1, V161M1]
  obtain ⟨kZ1, hkZ1, h⟩ := bind_s h
  obtain ⟨hkZ1a, hkZ1b⟩ := grd_s hkZ1
  obtain ⟨yZ2, hyZ2, h⟩ := bind_s h
  obtain ⟨kZ3, hkZ3, h⟩ := bind_s h
  obtain ⟨hkZ3a, hkZ3b⟩ := grd_s hkZ3
  obtain ⟨yZ4, hyZ4, h⟩ := bind_s h
  obtain ⟨lZ5, hlZ5, h⟩ := bnd_s h
  have eZ6 : (afZ0.map AV.i).set (aaZ0 + (Int.toNat acZ0)) (.i yZ2) = lZ5.map AV.i := by rw [← hlZ5, List.map_set]
  obtain ⟨yZ7, hyZ7, h⟩ := bind_s h
  obtain ⟨lZ8, hlZ8, h⟩ := bnd_s h
  have eZ9 : (lZ5.map AV.i).set (aaZ0 + (Int.toNat aeZ0)) (.i yZ4) = lZ8.map AV.i := by rw [← hlZ8, List.map_set]
  obtain ⟨oZ39, hoZ39, h⟩ := bind_s h
  try refine ZF (ZA hkZ1a (ZA hkZ1b (ZA hyZ2 (ZA hkZ3a (ZA hkZ3b (ZA hyZ4 (ZA eZ6 (ZA hyZ7 eZ9)))))))) ?_
  refine join_rule0 (blk_rule0 (loop_rule (w_slices_partitionEqualOrdered_intM1L1 aaZ0 abZ0 acZ0) hoZ39 ?_)) ?_
  · exact ZK (ZA S_slices_partitionEqualOrdered_intM1L1.eq_1 (ZA SX_slices_partitionEqualOrdered_intM1L1.eq_1 (ZA hlZ5.symm hlZ8.symm)))
  · simp only [ZC, SX_slices_partitionEqualOrdered_intM1L1, A161M1R6]
    cases h
    exact ZL (ZA hkZ1a (ZA hkZ1b (ZA hyZ2 (ZA hkZ3a (ZA hkZ3b (ZA hyZ4 (ZA eZ6 (ZA hyZ7 eZ9)))))))) V161M1.eq_1
def S_slices_partitionOrdered_intM1L1 (aaZ0 : Nat) (abZ0 : Nat) (acZ0 : Int) (adZ0 : Int) (lZ8 : List Int) (v : Int) : St := ⟨[(0, .sl 1000000000 aaZ0 abZ0), (1, .i acZ0), (10, .i v), (11, .i (IntKind.wrap .i64 (adZ0 - 1)))], [(1000000000, .arr 1 (lZ8.map AV.i))]⟩
def SX_slices_partitionOrdered_intM1L1 (aaZ0 : Nat) (abZ0 : Nat) (acZ0 : Int) (adZ0 : Int) (lZ8 : List Int) (v : Int) : St := ⟨[(0, .sl 1000000000 aaZ0 abZ0), (1, .i acZ0), (10, .i v), (11, .i (IntKind.wrap .i64 (adZ0 - 1)))], [(1000000000, .arr 1 (lZ8.map AV.i))]⟩
theorem w_slices_partitionOrdered_intM1L1 (aaZ0 : Nat) (abZ0 : Nat) (acZ0 : Int) (adZ0 : Int) (lZ8 : List Int) (sZ10 : Int) (o : Int ⊕ Int) (h : M_slices_partitionOrdered_intM1L1 aaZ0 abZ0 acZ0 adZ0 lZ8 sZ10 = some o) : AWP (OkS Try.prog) A162M1L1 (qL [0, 1, 10, 11] [1000000000] (S_slices_partitionOrdered_intM1L1 aaZ0 abZ0 acZ0 adZ0 lZ8) (qX 0 [0, 1, 10, 11] [1000000000] (SX_slices_partitionOrdered_intM1L1 aaZ0 abZ0 acZ0 adZ0 lZ8)) o) (S_slices_partitionOrdered_intM1L1 aaZ0 abZ0 acZ0 adZ0 lZ8 sZ10) := by
  unfold M_slices_partitionOrdered_intM1L1 at h
  simp only [ZC, S_slices_partitionOrdered_intM1L1, A162M1L1]
  obtain ⟨cZ11, h⟩ | ⟨cZ11, h⟩ := cond_s h
  · obtain ⟨kZ12, hkZ12, h⟩ := bind_s h
    obtain ⟨hkZ12a, hkZ12b⟩ := grd_s hkZ12
    obtain ⟨yZ13, hyZ13, h⟩ := bind_s h
    obtain ⟨kZ14, hkZ14, h⟩ := bind_s h
    obtain ⟨hkZ14a, hkZ14b⟩ := grd_s hkZ14
    obtain ⟨yZ15, hyZ15, h⟩ := bind_s h
    obtain ⟨rZ16, hrZ16, h⟩ := bind_s h
    refine ZF (ZA cZ11 (ZA hkZ12a (ZA hkZ12b (ZA hyZ13 (ZA hkZ14a (ZA hkZ14b hyZ15)))))) ?_
    refine ZS (ZA cZ11 (ZA hkZ12a (ZA hkZ12b (ZA hyZ13 (ZA hkZ14a (ZA hkZ14b hyZ15)))))) (w_cmp_Less_int _ _ hrZ16) ?_
    refine ZG ?_
    obtain ⟨cZ17, h⟩ | ⟨cZ17, h⟩ := cond_s h
    · cases h
      exact ZL (ZA cZ11 (ZA hkZ12a (ZA hkZ12b (ZA hyZ13 (ZA hkZ14a (ZA hkZ14b (ZA hyZ15 cZ17))))))) (ZA S_slices_partitionOrdered_intM1L1.eq_1 SX_slices_partitionOrdered_intM1L1.eq_1)
    · cases h
      exact ZL (ZA cZ11 (ZA hkZ12a (ZA hkZ12b (ZA hyZ13 (ZA hkZ14a (ZA hkZ14b (ZA hyZ15 cZ17))))))) (ZA S_slices_partitionOrdered_intM1L1.eq_1 SX_slices_partitionOrdered_intM1L1.eq_1)
  · cases h
    exact ZL cZ11 (ZA S_slices_partitionOrdered_intM1L1.eq_1 SX_slices_partitionOrdered_intM1L1.eq_1)
def S_slices_partitionOrdered_intM1L2 (aaZ0 : Nat) (abZ0 : Nat) (acZ0 : Int) (lZ8 : List Int) (oZ18 : Int) (v : Int) : St := ⟨[(0, .sl 1000000000 aaZ0 abZ0), (1, .i acZ0), (10, .i oZ18), (11, .i v)], [(1000000000, .arr 1 (lZ8.map AV.i))]⟩
def SX_slices_partitionOrdered_intM1L2 (aaZ0 : Nat) (abZ0 : Nat) (acZ0 : Int) (lZ8 : List Int) (oZ18 : Int) (v : Int) : St := ⟨[(0, .sl 1000000000 aaZ0 abZ0), (1, .i acZ0), (10, .i oZ18), (11, .i v)], [(1000000000, .arr 1 (lZ8.map AV.i))]⟩
theorem w_slices_partitionOrdered_intM1L2 (aaZ0 : Nat) (abZ0 : Nat) (acZ0 : Int) (lZ8 : List Int) (oZ18 : Int) (sZ19 : Int) (o : Int ⊕ Int) (h : M_slices_partitionOrdered_intM1L2 aaZ0 abZ0 acZ0 lZ8 oZ18 sZ19 = some o) : AWP (OkS Try.prog) A162M1L3 (qL [0, 1, 10, 11] [1000000000] (S_slices_partitionOrdered_intM1L2 aaZ0 abZ0 acZ0 lZ8 oZ18) (qX 2 [0, 1, 10, 11] [1000000000] (SX_slices_partitionOrdered_intM1L2 aaZ0 abZ0 acZ0 lZ8 oZ18)) o) (S_slices_partitionOrdered_intM1L2 aaZ0 abZ0 acZ0 lZ8 oZ18 sZ19) := by
  unfold M_slices_partitionOrdered_intM1L2 at h
  simp only [ZC, S_slices_partitionOrdered_intM1L2, A162M1L3]
  obtain ⟨cZ20, h⟩ | ⟨cZ20, h⟩ := cond_s h
  · obtain ⟨kZ21, hkZ21, h⟩ := bind_s h
    obtain ⟨hkZ21a, hkZ21b⟩ := grd_s hkZ21
    obtain ⟨yZ22, hyZ22, h⟩ := bind_s h
    obtain ⟨kZ23, hkZ23, h⟩ := bind_s h
    obtain ⟨hkZ23a, hkZ23b⟩ := grd_s hkZ23
    obtain ⟨yZ24, hyZ24, h⟩ := bind_s h
    obtain ⟨rZ25, hrZ25, h⟩ := bind_s h
    refine ZF (ZA cZ20 (ZA hkZ21a (ZA hkZ21b (ZA hyZ22 (ZA hkZ23a (ZA hkZ23b hyZ24)))))) ?_
    refine ZS (ZA cZ20 (ZA hkZ21a (ZA hkZ21b (ZA hyZ22 (ZA hkZ23a (ZA hkZ23b hyZ24)))))) (w_cmp_Less_int _ _ hrZ25) ?_
    refine ZG ?_
    obtain ⟨cZ26, h⟩ | ⟨cZ26, h⟩ := cond_s h
    · cases h
      exact ZL (ZA cZ20 (ZA hkZ21a (ZA hkZ21b (ZA hyZ22 (ZA hkZ23a (ZA hkZ23b (ZA hyZ24 cZ26))))))) (ZA S_slices_partitionOrdered_intM1L2.eq_1 SX_slices_partitionOrdered_intM1L2.eq_1)
    · cases h
      exact ZL (ZA cZ20 (ZA hkZ21a (ZA hkZ21b (ZA hyZ22 (ZA hkZ23a (ZA hkZ23b (ZA hyZ24 cZ26))))))) (ZA S_slices_partitionOrdered_intM1L2.eq_1 SX_slices_partitionOrdered_intM1L2.eq_1)
  · cases h
    exact ZL cZ20 (ZA S_slices_partitionOrdered_intM1L2.eq_1 SX_slices_partitionOrdered_intM1L2.eq_1)
def S_slices_partitionOrdered_intM1L4 (aaZ0 : Nat) (abZ0 : Nat) (acZ0 : Int) (sZ46 : Int × Int × List Int) (v : Int) : St := ⟨[(0, .sl 1000000000 aaZ0 abZ0), (1, .i acZ0), (10, .i v), (11, .i sZ46.2.1)], [(1000000000, .arr 1 (sZ46.2.2.map AV.i))]⟩
def SX_slices_partitionOrdered_intM1L4 (aaZ0 : Nat) (abZ0 : Nat) (acZ0 : Int) (sZ46 : Int × Int × List Int) (v : Int) : St := ⟨[(0, .sl 1000000000 aaZ0 abZ0), (1, .i acZ0), (10, .i v), (11, .i sZ46.2.1)], [(1000000000, .arr 1 (sZ46.2.2.map AV.i))]⟩
theorem w_slices_partitionOrdered_intM1L4 (aaZ0 : Nat) (abZ0 : Nat) (acZ0 : Int) (sZ46 : Int × Int × List Int) (sZ47 : Int) (o : Int ⊕ Int) (h : M_slices_partitionOrdered_intM1L4 aaZ0 abZ0 acZ0 sZ46 sZ47 = some o) : AWP (OkS Try.prog) A162M1L5 (qL [0, 1, 10, 11] [1000000000] (S_slices_partitionOrdered_intM1L4 aaZ0 abZ0 acZ0 sZ46) (qX 6 [0, 1, 10, 11] [1000000000] (SX_slices_partitionOrdered_intM1L4 aaZ0 abZ0 acZ0 sZ46)) o) (S_slices_partitionOrdered_intM1L4 aaZ0 abZ0 acZ0 sZ46 sZ47) := by
  unfold M_slices_partitionOrdered_intM1L4 at h
  simp only [ZC, S_slices_partitionOrdered_intM1L4, A162M1L5]
  obtain ⟨cZ48, h⟩ | ⟨cZ48, h⟩ := cond_s h
  · obtain ⟨kZ49, hkZ49, h⟩ := bind_s h
    obtain ⟨hkZ49a, hkZ49b⟩ := grd_s hkZ49
    obtain ⟨yZ50, hyZ50, h⟩ := bind_s h
    obtain ⟨kZ51, hkZ51, h⟩ := bind_s h
    obtain ⟨hkZ51a, hkZ51b⟩ := grd_s hkZ51
    obtain ⟨yZ52, hyZ52, h⟩ := bind_s h
    obtain ⟨rZ53, hrZ53, h⟩ := bind_s h
    refine ZF (ZA cZ48 (ZA hkZ49a (ZA hkZ49b (ZA hyZ50 (ZA hkZ51a (ZA hkZ51b hyZ52)))))) ?_
    refine ZS (ZA cZ48 (ZA hkZ49a (ZA hkZ49b (ZA hyZ50 (ZA hkZ51a (ZA hkZ51b hyZ52)))))) (w_cmp_Less_int _ _ hrZ53) ?_
    refine ZG ?_
    obtain ⟨cZ54, h⟩ | ⟨cZ54, h⟩ := cond_s h
    · cases h
      exact ZL (ZA cZ48 (ZA hkZ49a (ZA hkZ49b (ZA hyZ50 (ZA hkZ51a (ZA hkZ51b (ZA hyZ52 cZ54))))))) (ZA S_slices_partitionOrdered_intM1L4.eq_1 SX_slices_partitionOrdered_intM1L4.eq_1)
    · cases h
      exact ZL (ZA cZ48 (ZA hkZ49a (ZA hkZ49b (ZA hyZ50 (ZA hkZ51a (ZA hkZ51b (ZA hyZ52 cZ54))))))) (ZA S_slices_partitionOrdered_intM1L4.eq_1 SX_slices_partitionOrdered_intM1L4.eq_1)
  · cases h
    exact ZL cZ48 (ZA S_slices_partitionOrdered_intM1L4.eq_1 SX_slices_partitionOrdered_intM1L4.eq_1)
def S_slices_partitionOrdered_intM1L5 (aaZ0 : Nat) (abZ0 : Nat) (acZ0 : Int) (sZ46 : Int × Int × List Int) (oZ55 : Int) (v : Int) : St := ⟨[(0, .sl 1000000000 aaZ0 abZ0), (1, .i acZ0), (10, .i oZ55), (11, .i v)], [(1000000000, .arr 1 (sZ46.2.2.map AV.i))]⟩
def SX_slices_partitionOrdered_intM1L5 (aaZ0 : Nat) (abZ0 : Nat) (acZ0 : Int) (sZ46 : Int × Int × List Int) (oZ55 : Int) (v : Int) : St := ⟨[(0, .sl 1000000000 aaZ0 abZ0), (1, .i acZ0), (10, .i oZ55), (11, .i v)], [(1000000000, .arr 1 (sZ46.2.2.map AV.i))]⟩
theorem w_slices_partitionOrdered_intM1L5 (aaZ0 : Nat) (abZ0 : Nat) (acZ0 : Int) (sZ46 : Int × Int × List Int) (oZ55 : Int) (sZ56 : Int) (o : Int ⊕ Int) (h : M_slices_partitionOrdered_intM1L5 aaZ0 abZ0 acZ0 sZ46 oZ55 sZ56 = some o) : AWP (OkS Try.prog) A162M1L7 (qL [0, 1, 10, 11] [1000000000] (S_slices_partitionOrdered_intM1L5 aaZ0 abZ0 acZ0 sZ46 oZ55) (qX 8 [0, 1, 10, 11] [1000000000] (SX_slices_partitionOrdered_intM1L5 aaZ0 abZ0 acZ0 sZ46 oZ55)) o) (S_slices_partitionOrdered_intM1L5 aaZ0 abZ0 acZ0 sZ46 oZ55 sZ56) := by
  unfold M_slices_partitionOrdered_intM1L5 at h
  simp only [ZC, S_slices_partitionOrdered_intM1L5, A162M1L7]
  obtain ⟨cZ57, h⟩ | ⟨cZ57, h⟩ := cond_s h
  · obtain ⟨kZ58, hkZ58, h⟩ := bind_s h
    obtain ⟨hkZ58a, hkZ58b⟩ := grd_s hkZ58
    obtain ⟨yZ59, hyZ59, h⟩ := bind_s h
    obtain ⟨kZ60, hkZ60, h⟩ := bind_s h
    obtain ⟨hkZ60a, hkZ60b⟩ := grd_s hkZ60
    obtain ⟨yZ61, hyZ61, h⟩ := bind_s h
    obtain ⟨rZ62, hrZ62, h⟩ := bind_s h
    refine ZF (ZA cZ57 (ZA hkZ58a (ZA hkZ58b (ZA hyZ59 (ZA hkZ60a (ZA hkZ60b hyZ61)))))) ?_
    refine ZS (ZA cZ57 (ZA hkZ58a (ZA hkZ58b (ZA hyZ59 (ZA hkZ60a (ZA hkZ60b hyZ61)))))) (w_cmp_Less_int _ _ hrZ62) ?_
    refine ZG ?_
    obtain ⟨cZ63, h⟩ | ⟨cZ63, h⟩ := cond_s h
    · cases h
      exact ZL (ZA cZ57 (ZA hkZ58a (ZA hkZ58b (ZA hyZ59 (ZA hkZ60a (ZA hkZ60b (ZA hyZ61 cZ63))))))) (ZA S_slices_partitionOrdered_intM1L5.eq_1 SX_slices_partitionOrdered_intM1L5.eq_1)
    · cases h
      exact ZL (ZA cZ57 (ZA hkZ58a (ZA hkZ58b (ZA hyZ59 (ZA hkZ60a (ZA hkZ60b (ZA hyZ61 cZ63))))))) (ZA S_slices_partitionOrdered_intM1L5.eq_1 SX_slices_partitionOrdered_intM1L5.eq_1)
  · cases h
    exact ZL cZ57 (ZA S_slices_partitionOrdered_intM1L5.eq_1 SX_slices_partitionOrdered_intM1L5.eq_1)
def S_slices_partitionOrdered_intM1L3 (aaZ0 : Nat) (abZ0 : Nat) (acZ0 : Int) (v : Int × Int × List Int) : St := ⟨[(0, .sl 1000000000 aaZ0 abZ0), (1, .i acZ0), (10, .i v.1), (11, .i v.2.1)], [(1000000000, .arr 1 (v.2.2.map AV.i))]⟩
def SX_slices_partitionOrdered_intM1L3 (aaZ0 : Nat) (abZ0 : Nat) (acZ0 : Int) (v : Int × List Int) : St := ⟨[(0, .sl 1000000000 aaZ0 abZ0), (1, .i acZ0), (11, .i v.1)], [(1000000000, .arr 1 (v.2.map AV.i))]⟩
theorem w_slices_partitionOrdered_intM1L3 (aaZ0 : Nat) (abZ0 : Nat) (acZ0 : Int) (sZ46 : Int × Int × List Int) (o : (Int × Int × List Int) ⊕ (Int × List Int)) (h : M_slices_partitionOrdered_intM1L3 aaZ0 abZ0 acZ0 sZ46 = some o) : AWP (OkS Try.prog) A162M1L9 (qL [0, 1, 10, 11] [1000000000] (S_slices_partitionOrdered_intM1L3 aaZ0 abZ0 acZ0) (qX 4 [0, 1, 11] [1000000000] (SX_slices_partitionOrdered_intM1L3 aaZ0 abZ0 acZ0)) o) (S_slices_partitionOrdered_intM1L3 aaZ0 abZ0 acZ0 sZ46) := by
  unfold M_slices_partitionOrdered_intM1L3 at h
  simp only [ZC, S_slices_partitionOrdered_intM1L3, A162M1L9]
  obtain ⟨oZ55, hoZ55, h⟩ := bind_s h
  try refine ZF trivial ?_
  refine join_rule0 (blk_rule0 (loop_rule (w_slices_partitionOrdered_intM1L4 aaZ0 abZ0 acZ0 sZ46) hoZ55 ?_)) ?_
  · exact ZK (ZA S_slices_partitionOrdered_intM1L4.eq_1 SX_slices_partitionOrdered_intM1L4.eq_1)
  · simp only [ZC, SX_slices_partitionOrdered_intM1L4, A162M1R6]
    obtain ⟨oZ64, hoZ64, h⟩ := bind_s h
    try refine ZF trivial ?_
    refine join_rule0 (blk_rule0 (loop_rule (w_slices_partitionOrdered_intM1L5 aaZ0 abZ0 acZ0 sZ46 oZ55) hoZ64 ?_)) ?_
    · exact ZK (ZA S_slices_partitionOrdered_intM1L5.eq_1 SX_slices_partitionOrdered_intM1L5.eq_1)
    · simp only [ZC, SX_slices_partitionOrdered_intM1L5, A162M1R8]
      obtain ⟨cZ65, h⟩ | ⟨cZ65, h⟩ := cond_s h
      · cases h
        exact ZL cZ65 (ZA S_slices_partitionOrdered_intM1L3.eq_1 SX_slices_partitionOrdered_intM1L3.eq_1)
      · obtain ⟨kZ66, hkZ66, h⟩ := bind_s h
        obtain ⟨hkZ66a, hkZ66b⟩ := grd_s hkZ66
        obtain ⟨yZ67, hyZ67, h⟩ := bind_s h
        obtain ⟨kZ68, hkZ68, h⟩ := bind_s h
        obtain ⟨hkZ68a, hkZ68b⟩ := grd_s hkZ68
        obtain ⟨yZ69, hyZ69, h⟩ := bind_s h
        obtain ⟨lZ70, hlZ70, h⟩ := bnd_s h
        have eZ71 : (sZ46.2.2.map AV.i).set (aaZ0 + (Int.toNat oZ55)) (.i yZ67) = lZ70.map AV.i := by rw [← hlZ70, List.map_set]
        obtain ⟨yZ72, hyZ72, h⟩ := bind_s h
        obtain ⟨lZ73, hlZ73, h⟩ := bnd_s h
        have eZ74 : (lZ70.map AV.i).set (aaZ0 + (Int.toNat oZ64)) (.i yZ69) = lZ73.map AV.i := by rw [← hlZ73, List.map_set]
        cases h
        exact ZL (ZA cZ65 (ZA hkZ66a (ZA hkZ66b (ZA hyZ67 (ZA hkZ68a (ZA hkZ68b (ZA hyZ69 (ZA eZ71 (ZA hyZ72 eZ74))))))))) (ZA S_slices_partitionOrdered_intM1L3.eq_1 (ZA SX_slices_partitionOrdered_intM1L3.eq_1 (ZA hlZ70.symm hlZ73.symm)))
theorem w_slices_partitionOrdered_intM1 (aaZ0 : Nat) (abZ0 : Nat) (acZ0 : Int) (adZ0 : Int) (aeZ0 : Int) (afZ0 : List Int) {r : Int × Bool × List Int} (h : M_slices_partitionOrdered_intM1 aaZ0 abZ0 acZ0 adZ0 aeZ0 afZ0 = some r) : OkM Try.prog 162 [.sl 1000000000 aaZ0 abZ0, .i acZ0, .i adZ0, .i aeZ0] [(1000000000, .arr 1 (afZ0.map AV.i))] ((fun (r : Int × Bool × List Int) => .tup [.i r.1, .b r.2.1]) r) ((fun (r : Int × Bool × List Int) => [(1000000000, .arr 1 (r.2.2.map AV.i))]) r) := by
  refine okM_of_body (lr := [1000000000]) hmix m162M1 rfl rfl ?_
  unfold M_slices_partitionOrdered_intM1 at h
  simp only [ZC, A162M1, V162M1]
  obtain ⟨kZ1, hkZ1, h⟩ := bind_s h
  obtain ⟨hkZ1a, hkZ1b⟩ := grd_s hkZ1
  obtain ⟨yZ2, hyZ2, h⟩ := bind_s h
  obtain ⟨kZ3, hkZ3, h⟩ := bind_s h
  obtain ⟨hkZ3a, hkZ3b⟩ := grd_s hkZ3
  obtain ⟨yZ4, hyZ4, h⟩ := bind_s h
  obtain ⟨lZ5, hlZ5, h⟩ := bnd_s h
  have eZ6 : (afZ0.map AV.i).set (aaZ0 + (Int.toNat acZ0)) (.i yZ2) = lZ5.map AV.i := by rw [← hlZ5, List.map_set]
  obtain ⟨yZ7, hyZ7, h⟩ := bind_s h
  obtain ⟨lZ8, hlZ8, h⟩ := bnd_s h
  have eZ9 : (lZ5.map AV.i).set (aaZ0 + (Int.toNat aeZ0)) (.i yZ4) = lZ8.map AV.i := by rw [← hlZ8, List.map_set]
  obtain ⟨oZ18, hoZ18, h⟩ := bind_s h
  try refine ZF (ZA hkZ1a (ZA hkZ1b (ZA hyZ2 (ZA hkZ3a (ZA hkZ3b (ZA hyZ4 (ZA eZ6 (ZA hyZ7 eZ9)))))))) ?_
  refine join_rule0 (blk_rule0 (loop_rule (w_slices_partitionOrdered_intM1L1 aaZ0 abZ0 acZ0 adZ0 lZ8) hoZ18 ?_)) ?_
  · exact ZK (ZA S_slices_partitionOrdered_intM1L1.eq_1 (ZA SX_slices_partitionOrdered_intM1L1.eq_1 (ZA hlZ5.symm hlZ8.symm)))
  · simp only [ZC, SX_slices_partitionOrdered_intM1L1, A162M1R2]
    obtain ⟨oZ27, hoZ27, h⟩ := bind_s h
    try refine ZF (ZA hkZ1a (ZA hkZ1b (ZA hyZ2 (ZA hkZ3a (ZA hkZ3b (ZA hyZ4 (ZA eZ6 (ZA hyZ7 eZ9)))))))) ?_
    refine join_rule0 (blk_rule0 (loop_rule (w_slices_partitionOrdered_intM1L2 aaZ0 abZ0 acZ0 lZ8 oZ18) hoZ27 ?_)) ?_
    · exact ZK (ZA S_slices_partitionOrdered_intM1L2.eq_1 SX_slices_partitionOrdered_intM1L2.eq_1)
    · simp only [ZC, SX_slices_partitionOrdered_intM1L2, A162M1R4]
      obtain ⟨cZ28, h⟩ | ⟨cZ28, h⟩ := cond_s h
      · obtain ⟨yZ29, hyZ29, h⟩ := bind_s h
        obtain ⟨kZ30, hkZ30, h⟩ := bind_s h
        obtain ⟨hkZ30a, hkZ30b⟩ := grd_s hkZ30
        obtain ⟨yZ31, hyZ31, h⟩ := bind_s h
        obtain ⟨lZ32, hlZ32, h⟩ := bnd_s h
        have eZ33 : (lZ8.map AV.i).set (aaZ0 + (Int.toNat oZ27)) (.i yZ29) = lZ32.map AV.i := by rw [← hlZ32, List.map_set]
        obtain ⟨yZ34, hyZ34, h⟩ := bind_s h
        obtain ⟨lZ35, hlZ35, h⟩ := bnd_s h
        have eZ36 : (lZ32.map AV.i).set (aaZ0 + (Int.toNat acZ0)) (.i yZ31) = lZ35.map AV.i := by rw [← hlZ35, List.map_set]
        cases h
        exact ZL (ZA hkZ1a (ZA hkZ1b (ZA hyZ2 (ZA hkZ3a (ZA hkZ3b (ZA hyZ4 (ZA eZ6 (ZA hyZ7 (ZA eZ9 (ZA cZ28 (ZA hyZ29 (ZA hkZ30a (ZA hkZ30b (ZA hyZ31 (ZA eZ33 (ZA hyZ34 eZ36)))))))))))))))) (ZA V162M1.eq_1 (ZA hlZ32.symm hlZ35.symm))
      · obtain ⟨kZ37, hkZ37, h⟩ := bind_s h
        obtain ⟨hkZ37a, hkZ37b⟩ := grd_s hkZ37
        obtain ⟨yZ38, hyZ38, h⟩ := bind_s h
        obtain ⟨kZ39, hkZ39, h⟩ := bind_s h
        obtain ⟨hkZ39a, hkZ39b⟩ := grd_s hkZ39
        obtain ⟨yZ40, hyZ40, h⟩ := bind_s h
        obtain ⟨lZ41, hlZ41, h⟩ := bnd_s h
        have eZ42 : (lZ8.map AV.i).set (aaZ0 + (Int.toNat oZ18)) (.i yZ38) = lZ41.map AV.i := by rw [← hlZ41, List.map_set]
        obtain ⟨yZ43, hyZ43, h⟩ := bind_s h
        obtain ⟨lZ44, hlZ44, h⟩ := bnd_s h
        have eZ45 : (lZ41.map AV.i).set (aaZ0 + (Int.toNat oZ27)) (.i yZ40) = lZ44.map AV.i := by rw [← hlZ44, List.map_set]
        obtain ⟨oZ75, hoZ75, h⟩ := bind_s h
        try refine ZF (ZA hkZ1a (ZA hkZ1b (ZA hyZ2 (ZA hkZ3a (ZA hkZ3b (ZA hyZ4 (ZA eZ6 (ZA hyZ7 (ZA eZ9 (ZA cZ28 (ZA hkZ37a (ZA hkZ37b (ZA hyZ38 (ZA hkZ39a (ZA hkZ39b (ZA hyZ40 (ZA eZ42 (ZA hyZ43 eZ45)))))))))))))))))) ?_
        refine join_rule0 (blk_rule0 (loop_rule (w_slices_partitionOrdered_intM1L3 aaZ0 abZ0 acZ0) hoZ75 ?_)) ?_
        · exact ZK (ZA S_slices_partitionOrdered_intM1L3.eq_1 (ZA SX_slices_partitionOrdered_intM1L3.eq_1 (ZA hlZ41.symm hlZ44.symm)))
        · simp only [ZC, SX_slices_partitionOrdered_intM1L3, A162M1R10]
          obtain ⟨yZ76, hyZ76, h⟩ := bind_s h
          obtain ⟨kZ77, hkZ77, h⟩ := bind_s h
          obtain ⟨hkZ77a, hkZ77b⟩ := grd_s hkZ77
          obtain ⟨yZ78, hyZ78, h⟩ := bind_s h
          obtain ⟨lZ79, hlZ79, h⟩ := bnd_s h
          have eZ80 : (oZ75.2.map AV.i).set (aaZ0 + (Int.toNat oZ75.1)) (.i yZ76) = lZ79.map AV.i := by rw [← hlZ79, List.map_set]
          obtain ⟨yZ81, hyZ81, h⟩ := bind_s h
          obtain ⟨lZ82, hlZ82, h⟩ := bnd_s h
          have eZ83 : (lZ79.map AV.i).set (aaZ0 + (Int.toNat acZ0)) (.i yZ78) = lZ82.map AV.i := by rw [← hlZ82, List.map_set]
          cases h
          exact ZL (ZA hkZ1a (ZA hkZ1b (ZA hyZ2 (ZA hkZ3a (ZA hkZ3b (ZA hyZ4 (ZA eZ6 (ZA hyZ7 (ZA eZ9 (ZA cZ28 (ZA hkZ37a (ZA hkZ37b (ZA hyZ38 (ZA hkZ39a (ZA hkZ39b (ZA hyZ40 (ZA eZ42 (ZA hyZ43 (ZA eZ45 (ZA hyZ76 (ZA hkZ77a (ZA hkZ77b (ZA hyZ78 (ZA eZ80 (ZA hyZ81 eZ83))))))))))))))))))))))))) (ZA V162M1.eq_1 (ZA hlZ79.symm hlZ82.symm))
def S_slices_insertionSortOrdered_intM2L2 (aaZ0 : Nat) (abZ0 : Nat) (acZ0 : Int) (adZ0 : Int) (sZ1 : Int × List Int) (v : Int × List Int) : St := ⟨[(0, .sl 1000000000 aaZ0 abZ0), (1, .i acZ0), (2, .i adZ0), (6, .i sZ1.1), (7, .i v.1)], [(1000000000, .arr 1 (v.2.map AV.i))]⟩
def SX_slices_insertionSortOrdered_intM2L2 (aaZ0 : Nat) (abZ0 : Nat) (acZ0 : Int) (adZ0 : Int) (sZ1 : Int × List Int) (v : List Int) : St := ⟨[(0, .sl 1000000000 aaZ0 abZ0), (1, .i acZ0), (2, .i adZ0), (6, .i sZ1.1)], [(1000000000, .arr 1 (v.map AV.i))]⟩
theorem w_slices_insertionSortOrdered_intM2L2 (aaZ0 : Nat) (abZ0 : Nat) (acZ0 : Int) (adZ0 : Int) (sZ1 : Int × List Int) (sZ3 : Int × List Int) (o : (Int × List Int) ⊕ (List Int)) (h : M_slices_insertionSortOrdered_intM2L2 aaZ0 abZ0 acZ0 sZ3 = some o) : AWP (OkS Try.prog) A154M2L2 (qL [0, 1, 2, 6, 7] [1000000000] (S_slices_insertionSortOrdered_intM2L2 aaZ0 abZ0 acZ0 adZ0 sZ1) (qX 2 [0, 1, 2, 6] [1000000000] (SX_slices_insertionSortOrdered_intM2L2 aaZ0 abZ0 acZ0 adZ0 sZ1)) o) (S_slices_insertionSortOrdered_intM2L2 aaZ0 abZ0 acZ0 adZ0 sZ1 sZ3) := by
  unfold M_slices_insertionSortOrdered_intM2L2 at h
  simp only [ZC, S_slices_insertionSortOrdered_intM2L2, A154M2L2]
  obtain ⟨oZ10, hoZ10, h⟩ := bind_s h
  try refine ZF trivial ?_
  refine join_rule0 (sh := (fun v => ⟨[(0, .sl 1000000000 aaZ0 abZ0), (1, .i acZ0), (2, .i adZ0), (6, .i sZ1.1), (7, .i sZ3.1), (30, .b v)], [(1000000000, .arr 1 (sZ3.2.map AV.i))]⟩)) (s := oZ10) ?_ ?_
  · replace h := hoZ10
    obtain ⟨cZ4, h⟩ | ⟨cZ4, h⟩ := cond_s h
    · obtain ⟨kZ5, hkZ5, h⟩ := bind_s h
      obtain ⟨hkZ5a, hkZ5b⟩ := grd_s hkZ5
      obtain ⟨yZ6, hyZ6, h⟩ := bind_s h
      obtain ⟨kZ7, hkZ7, h⟩ := bind_s h
      obtain ⟨hkZ7a, hkZ7b⟩ := grd_s hkZ7
      obtain ⟨yZ8, hyZ8, h⟩ := bind_s h
      obtain ⟨rZ9, hrZ9, h⟩ := bind_s h
      refine ZF (ZA cZ4 (ZA hkZ5a (ZA hkZ5b (ZA hyZ6 (ZA hkZ7a (ZA hkZ7b hyZ8)))))) ?_
      refine ZS (ZA cZ4 (ZA hkZ5a (ZA hkZ5b (ZA hyZ6 (ZA hkZ7a (ZA hkZ7b hyZ8)))))) (w_cmp_Less_int _ _ hrZ9) ?_
      refine ZG ?_
      cases h
      exact ZL (ZA cZ4 (ZA hkZ5a (ZA hkZ5b (ZA hyZ6 (ZA hkZ7a (ZA hkZ7b hyZ8)))))) trivial
    · cases h
      exact ZL cZ4 trivial
  · simp only [ZC, A154M2R1]
    obtain ⟨cZ11, h⟩ | ⟨cZ11, h⟩ := cond_s h
    · obtain ⟨kZ12, hkZ12, h⟩ := bind_s h
      obtain ⟨hkZ12a, hkZ12b⟩ := grd_s hkZ12
      obtain ⟨yZ13, hyZ13, h⟩ := bind_s h
      obtain ⟨kZ14, hkZ14, h⟩ := bind_s h
      obtain ⟨hkZ14a, hkZ14b⟩ := grd_s hkZ14
      obtain ⟨yZ15, hyZ15, h⟩ := bind_s h
      obtain ⟨lZ16, hlZ16, h⟩ := bnd_s h
      have eZ17 : (sZ3.2.map AV.i).set (aaZ0 + (Int.toNat sZ3.1)) (.i yZ13) = lZ16.map AV.i := by rw [← hlZ16, List.map_set]
      obtain ⟨yZ18, hyZ18, h⟩ := bind_s h
      obtain ⟨lZ19, hlZ19, h⟩ := bnd_s h
      have eZ20 : (lZ16.map AV.i).set (aaZ0 + (Int.toNat (IntKind.wrap .i64 (sZ3.1 - 1)))) (.i yZ15) = lZ19.map AV.i := by rw [← hlZ19, List.map_set]
      cases h
      exact ZL (ZA cZ11 (ZA hkZ12a (ZA hkZ12b (ZA hyZ13 (ZA hkZ14a (ZA hkZ14b (ZA hyZ15 (ZA eZ17 (ZA hyZ18 eZ20))))))))) (ZA S_slices_insertionSortOrdered_intM2L2.eq_1 (ZA SX_slices_insertionSortOrdered_intM2L2.eq_1 (ZA hlZ16.symm hlZ19.symm)))
    · cases h
      exact ZL cZ11 (ZA S_slices_insertionSortOrdered_intM2L2.eq_1 SX_slices_insertionSortOrdered_intM2L2.eq_1)
def S_slices_insertionSortOrdered_intM2L1 (aaZ0 : Nat) (abZ0 : Nat) (acZ0 : Int) (adZ0 : Int) (v : Int × List Int) : St := ⟨[(0, .sl 1000000000 aaZ0 abZ0), (1, .i acZ0), (2, .i adZ0), (6, .i v.1)], [(1000000000, .arr 1 (v.2.map AV.i))]⟩
def SX_slices_insertionSortOrdered_intM2L1 (v : List Int) : St := ⟨[], [(1000000000, .arr 1 (v.map AV.i))]⟩
theorem w_slices_insertionSortOrdered_intM2L1 (aaZ0 : Nat) (abZ0 : Nat) (acZ0 : Int) (adZ0 : Int) (sZ1 : Int × List Int) (o : (Int × List Int) ⊕ (List Int)) (h : M_slices_insertionSortOrdered_intM2L1 aaZ0 abZ0 acZ0 adZ0 sZ1 = some o) : AWP (OkS Try.prog) A154M2L4 (qL [0, 1, 2, 6] [1000000000] (S_slices_insertionSortOrdered_intM2L1 aaZ0 abZ0 acZ0 adZ0) (qX 0 [] [1000000000] (SX_slices_insertionSortOrdered_intM2L1)) o) (S_slices_insertionSortOrdered_intM2L1 aaZ0 abZ0 acZ0 adZ0 sZ1) := by
  unfold M_slices_insertionSortOrdered_intM2L1 at h
  simp only [ZC, S_slices_insertionSortOrdered_intM2L1, A154M2L4]
  obtain ⟨cZ2, h⟩ | ⟨cZ2, h⟩ := cond_s h
  · obtain ⟨oZ23, hoZ23, h⟩ := bind_s h
    try refine ZF cZ2 ?_
    refine join_rule0 (sh := (fun v => ⟨[(0, .sl 1000000000 aaZ0 abZ0), (1, .i acZ0), (2, .i adZ0), (6, .i sZ1.1)], [(1000000000, .arr 1 (v.map AV.i))]⟩)) (s := oZ23) ?_ ?_
    · replace h := hoZ23
      obtain ⟨oZ21, hoZ21, h⟩ := bind_s h
      try refine ZF cZ2 ?_
      first | refine tail_rule0 (blk_rule0 (loop_rule (w_slices_insertionSortOrdered_intM2L2 aaZ0 abZ0 acZ0 adZ0 sZ1) hoZ21 ?_)) (fun τ qZ22 => ?_) | refine tail_blk0 (loop_rule (w_slices_insertionSortOrdered_intM2L2 aaZ0 abZ0 acZ0 adZ0 sZ1) hoZ21 ?_) (fun τ qZ22 => ?_)
      · exact ZK (ZA S_slices_insertionSortOrdered_intM2L2.eq_1 SX_slices_insertionSortOrdered_intM2L2.eq_1)
      · cases h
        try refine ZF trivial ?_
        refine ⟨rfl, Shp.sub qZ22 (by decide) (by decide) ?_⟩
        exact ZK SX_slices_insertionSortOrdered_intM2L2.eq_1
    · simp only [ZC, A154M2R3]
      cases h
      exact ZL cZ2 (ZA S_slices_insertionSortOrdered_intM2L1.eq_1 SX_slices_insertionSortOrdered_intM2L1.eq_1)
  · cases h
    exact ZL cZ2 (ZA S_slices_insertionSortOrdered_intM2L1.eq_1 SX_slices_insertionSortOrdered_intM2L1.eq_1)
theorem w_slices_insertionSortOrdered_intM2 (aaZ0 : Nat) (abZ0 : Nat) (acZ0 : Int) (adZ0 : Int) (aeZ0 : List Int) {r : List Int} (h : M_slices_insertionSortOrdered_intM2 aaZ0 abZ0 acZ0 adZ0 aeZ0 = some r) : OkM Try.prog 154 [.sl 1000000000 aaZ0 abZ0, .i acZ0, .i adZ0] [(1000000000, .arr 1 (aeZ0.map AV.i))] ((fun (r : List Int) => .tup []) r) ((fun (r : List Int) => [(1000000000, .arr 1 (r.map AV.i))]) r) := by
  refine okM_of_body (lr := [1000000000]) hmix m154M2 rfl rfl ?_
  unfold M_slices_insertionSortOrdered_intM2 at h
  simp only [ZC, A154M2, V154M2]
  obtain ⟨oZ24, hoZ24, h⟩ := bind_s h
  try refine ZF trivial ?_
  first | refine tail_rule0 (blk_rule0 (loop_rule (w_slices_insertionSortOrdered_intM2L1 aaZ0 abZ0 acZ0 adZ0) hoZ24 ?_)) (fun τ qZ25 => ?_) | refine tail_blk0 (loop_rule (w_slices_insertionSortOrdered_intM2L1 aaZ0 abZ0 acZ0 adZ0) hoZ24 ?_) (fun τ qZ25 => ?_)
  · exact ZK (ZA S_slices_insertionSortOrdered_intM2L1.eq_1 SX_slices_insertionSortOrdered_intM2L1.eq_1)
  · cases h
    refine finM_shp qZ25 (by decide) ?_ rfl
    exact ZK (ZA V154M2.eq_1 SX_slices_insertionSortOrdered_intM2L1.eq_1)
def S_slices_heapSortOrdered_intM2L1 (aaZ0 : Nat) (abZ0 : Nat) (acZ0 : Int) (adZ0 : Int) (v : Int × List Int) : St := ⟨[(0, .sl 1000000000 aaZ0 abZ0), (6, .i acZ0), (7, .i 0), (8, .i (IntKind.wrap .i64 (adZ0 - acZ0))), (9, .i v.1)], [(1000000000, .arr 1 (v.2.map AV.i))]⟩
def SX_slices_heapSortOrdered_intM2L1 (aaZ0 : Nat) (abZ0 : Nat) (acZ0 : Int) (adZ0 : Int) (v : List Int) : St := ⟨[(0, .sl 1000000000 aaZ0 abZ0), (6, .i acZ0), (7, .i 0), (8, .i (IntKind.wrap .i64 (adZ0 - acZ0)))], [(1000000000, .arr 1 (v.map AV.i))]⟩
theorem w_slices_heapSortOrdered_intM2L1 (aaZ0 : Nat) (abZ0 : Nat) (acZ0 : Int) (adZ0 : Int) (sZ2 : Int × List Int) (o : (Int × List Int) ⊕ (List Int)) (h : M_slices_heapSortOrdered_intM2L1 aaZ0 abZ0 acZ0 adZ0 sZ2 = some o) : AWP (OkS Try.prog) A155M2L1 (qL [0, 6, 7, 8, 9] [1000000000] (S_slices_heapSortOrdered_intM2L1 aaZ0 abZ0 acZ0 adZ0) (qX 0 [0, 6, 7, 8] [1000000000] (SX_slices_heapSortOrdered_intM2L1 aaZ0 abZ0 acZ0 adZ0)) o) (S_slices_heapSortOrdered_intM2L1 aaZ0 abZ0 acZ0 adZ0 sZ2) := by
  unfold M_slices_heapSortOrdered_intM2L1 at h
  simp only [ZC, S_slices_heapSortOrdered_intM2L1, A155M2L1]
  obtain ⟨cZ3, h⟩ | ⟨cZ3, h⟩ := cond_s h
  · obtain ⟨rZ4, hrZ4, h⟩ := bind_s h
    refine ZF cZ3 ?_
    refine ZW cZ3 (w_slices_siftDownOrdered_intM2 _ _ _ _ _ _ hrZ4) (h2 := by first | exact nm_ok [1000000000] rfl (by decide +kernel) | exact nm_ok2 [1000000000] [] rfl (by decide +kernel) ZQ | exact ZQ) (hk := ?_)
    refine ZG ?_
    cases h
    exact ZL cZ3 (ZA S_slices_heapSortOrdered_intM2L1.eq_1 SX_slices_heapSortOrdered_intM2L1.eq_1)
  · cases h
    exact ZL cZ3 (ZA S_slices_heapSortOrdered_intM2L1.eq_1 SX_slices_heapSortOrdered_intM2L1.eq_1)
def S_slices_heapSortOrdered_intM2L2 (aaZ0 : Nat) (abZ0 : Nat) (acZ0 : Int) (v : Int × List Int) : St := ⟨[(0, .sl 1000000000 aaZ0 abZ0), (6, .i acZ0), (7, .i 0), (10, .i v.1)], [(1000000000, .arr 1 (v.2.map AV.i))]⟩
def SX_slices_heapSortOrdered_intM2L2 (v : List Int) : St := ⟨[], [(1000000000, .arr 1 (v.map AV.i))]⟩
theorem w_slices_heapSortOrdered_intM2L2 (aaZ0 : Nat) (abZ0 : Nat) (acZ0 : Int) (sZ6 : Int × List Int) (o : (Int × List Int) ⊕ (List Int)) (h : M_slices_heapSortOrdered_intM2L2 aaZ0 abZ0 acZ0 sZ6 = some o) : AWP (OkS Try.prog) A155M2L3 (qL [0, 6, 7, 10] [1000000000] (S_slices_heapSortOrdered_intM2L2 aaZ0 abZ0 acZ0) (qX 2 [] [1000000000] (SX_slices_heapSortOrdered_intM2L2)) o) (S_slices_heapSortOrdered_intM2L2 aaZ0 abZ0 acZ0 sZ6) := by
  unfold M_slices_heapSortOrdered_intM2L2 at h
  simp only [ZC, S_slices_heapSortOrdered_intM2L2, A155M2L3]
  obtain ⟨cZ7, h⟩ | ⟨cZ7, h⟩ := cond_s h
  · obtain ⟨kZ8, hkZ8, h⟩ := bind_s h
    obtain ⟨hkZ8a, hkZ8b⟩ := grd_s hkZ8
    obtain ⟨yZ9, hyZ9, h⟩ := bind_s h
    obtain ⟨kZ10, hkZ10, h⟩ := bind_s h
    obtain ⟨hkZ10a, hkZ10b⟩ := grd_s hkZ10
    obtain ⟨yZ11, hyZ11, h⟩ := bind_s h
    obtain ⟨lZ12, hlZ12, h⟩ := bnd_s h
    have eZ13 : (sZ6.2.map AV.i).set (aaZ0 + (Int.toNat acZ0)) (.i yZ9) = lZ12.map AV.i := by rw [← hlZ12, List.map_set]
    obtain ⟨yZ14, hyZ14, h⟩ := bind_s h
    obtain ⟨lZ15, hlZ15, h⟩ := bnd_s h
    have eZ16 : (lZ12.map AV.i).set (aaZ0 + (Int.toNat (IntKind.wrap .i64 (acZ0 + sZ6.1)))) (.i yZ11) = lZ15.map AV.i := by rw [← hlZ15, List.map_set]
    obtain ⟨rZ17, hrZ17, h⟩ := bind_s h
    refine ZF (ZA cZ7 (ZA hkZ8a (ZA hkZ8b (ZA hyZ9 (ZA hkZ10a (ZA hkZ10b (ZA hyZ11 (ZA eZ13 (ZA hyZ14 eZ16))))))))) ?_
    refine ZW (ZA cZ7 (ZA hkZ8a (ZA hkZ8b (ZA hyZ9 (ZA hkZ10a (ZA hkZ10b (ZA hyZ11 (ZA eZ13 (ZA hyZ14 eZ16))))))))) (w_slices_siftDownOrdered_intM2 _ _ _ _ _ _ hrZ17) (h2 := by first | exact nm_ok [1000000000] rfl (by decide +kernel) | exact nm_ok2 [1000000000] [] rfl (by decide +kernel) ZQ | exact ZQ) (hk := ?_)
    refine ZG ?_
    cases h
    exact ZL (ZA cZ7 (ZA hkZ8a (ZA hkZ8b (ZA hyZ9 (ZA hkZ10a (ZA hkZ10b (ZA hyZ11 (ZA eZ13 (ZA hyZ14 eZ16))))))))) (ZA S_slices_heapSortOrdered_intM2L2.eq_1 (ZA SX_slices_heapSortOrdered_intM2L2.eq_1 (ZA hlZ12.symm hlZ15.symm)))
  · cases h
    exact ZL cZ7 (ZA S_slices_heapSortOrdered_intM2L2.eq_1 SX_slices_heapSortOrdered_intM2L2.eq_1)
theorem w_slices_heapSortOrdered_intM2 (aaZ0 : Nat) (abZ0 : Nat) (acZ0 : Int) (adZ0 : Int) (aeZ0 : List Int) {r : List Int} (h : M_slices_heapSortOrdered_intM2 aaZ0 abZ0 acZ0 adZ0 aeZ0 = some r) : OkM Try.prog 155 [.sl 1000000000 aaZ0 abZ0, .i acZ0, .i adZ0] [(1000000000, .arr 1 (aeZ0.map AV.i))] ((fun (r : List Int) => .tup []) r) ((fun (r : List Int) => [(1000000000, .arr 1 (r.map AV.i))]) r) := by
  refine okM_of_body (lr := [1000000000]) hmix m155M2 rfl rfl ?_
  unfold M_slices_heapSortOrdered_intM2 at h
  simp only [ZC, A155M2, V155M2]
  obtain ⟨uZ1, huZ1, h⟩ := bind_s h
  have huZ1g := grd_s huZ1
  obtain ⟨oZ5, hoZ5, h⟩ := bind_s h
  try refine ZF huZ1g ?_
  refine join_rule0 (blk_rule0 (loop_rule (w_slices_heapSortOrdered_intM2L1 aaZ0 abZ0 acZ0 adZ0) hoZ5 ?_)) ?_
  · exact ZK (ZA S_slices_heapSortOrdered_intM2L1.eq_1 SX_slices_heapSortOrdered_intM2L1.eq_1)
  · simp only [ZC, SX_slices_heapSortOrdered_intM2L1, A155M2R2]
    obtain ⟨oZ18, hoZ18, h⟩ := bind_s h
    try refine ZF huZ1g ?_
    first | refine tail_rule0 (blk_rule0 (loop_rule (w_slices_heapSortOrdered_intM2L2 aaZ0 abZ0 acZ0) hoZ18 ?_)) (fun τ qZ19 => ?_) | refine tail_blk0 (loop_rule (w_slices_heapSortOrdered_intM2L2 aaZ0 abZ0 acZ0) hoZ18 ?_) (fun τ qZ19 => ?_)
    · exact ZK (ZA S_slices_heapSortOrdered_intM2L2.eq_1 SX_slices_heapSortOrdered_intM2L2.eq_1)
    · cases h
      refine finM_shp qZ19 (by decide) ?_ rfl
      exact ZK (ZA V155M2.eq_1 SX_slices_heapSortOrdered_intM2L2.eq_1)
def S_slices_reverseRangeOrdered_intM2L1 (aaZ0 : Nat) (abZ0 : Nat) (v : Int × Int × List Int) : St := ⟨[(0, .sl 1000000000 aaZ0 abZ0), (6, .i v.1), (7, .i v.2.1)], [(1000000000, .arr 1 (v.2.2.map AV.i))]⟩
def SX_slices_reverseRangeOrdered_intM2L1 (v : List Int) : St := ⟨[], [(1000000000, .arr 1 (v.map AV.i))]⟩
theorem w_slices_reverseRangeOrdered_intM2L1 (aaZ0 : Nat) (abZ0 : Nat) (sZ1 : Int × Int × List Int) (o : (Int × Int × List Int) ⊕ (List Int)) (h : M_slices_reverseRangeOrdered_intM2L1 aaZ0 abZ0 sZ1 = some o) : AWP (OkS Try.prog) A158M2L1 (qL [0, 6, 7] [1000000000] (S_slices_reverseRangeOrdered_intM2L1 aaZ0 abZ0) (qX 0 [] [1000000000] (SX_slices_reverseRangeOrdered_intM2L1)) o) (S_slices_reverseRangeOrdered_intM2L1 aaZ0 abZ0 sZ1) := by
  unfold M_slices_reverseRangeOrdered_intM2L1 at h
  simp only [ZC, S_slices_reverseRangeOrdered_intM2L1, A158M2L1]
  obtain ⟨cZ2, h⟩ | ⟨cZ2, h⟩ := cond_s h
  · obtain ⟨kZ3, hkZ3, h⟩ := bind_s h
    obtain ⟨hkZ3a, hkZ3b⟩ := grd_s hkZ3
    obtain ⟨yZ4, hyZ4, h⟩ := bind_s h
    obtain ⟨kZ5, hkZ5, h⟩ := bind_s h
    obtain ⟨hkZ5a, hkZ5b⟩ := grd_s hkZ5
    obtain ⟨yZ6, hyZ6, h⟩ := bind_s h
    obtain ⟨lZ7, hlZ7, h⟩ := bnd_s h
    have eZ8 : (sZ1.2.2.map AV.i).set (aaZ0 + (Int.toNat sZ1.1)) (.i yZ4) = lZ7.map AV.i := by rw [← hlZ7, List.map_set]
    obtain ⟨yZ9, hyZ9, h⟩ := bind_s h
    obtain ⟨lZ10, hlZ10, h⟩ := bnd_s h
    have eZ11 : (lZ7.map AV.i).set (aaZ0 + (Int.toNat sZ1.2.1)) (.i yZ6) = lZ10.map AV.i := by rw [← hlZ10, List.map_set]
    cases h
    exact ZL (ZA cZ2 (ZA hkZ3a (ZA hkZ3b (ZA hyZ4 (ZA hkZ5a (ZA hkZ5b (ZA hyZ6 (ZA eZ8 (ZA hyZ9 eZ11))))))))) (ZA S_slices_reverseRangeOrdered_intM2L1.eq_1 (ZA SX_slices_reverseRangeOrdered_intM2L1.eq_1 (ZA hlZ7.symm hlZ10.symm)))
  · cases h
    exact ZL cZ2 (ZA S_slices_reverseRangeOrdered_intM2L1.eq_1 SX_slices_reverseRangeOrdered_intM2L1.eq_1)
theorem w_slices_reverseRangeOrdered_intM2 (aaZ0 : Nat) (abZ0 : Nat) (acZ0 : Int) (adZ0 : Int) (aeZ0 : List Int) {r : List Int} (h : M_slices_reverseRangeOrdered_intM2 aaZ0 abZ0 acZ0 adZ0 aeZ0 = some r) : OkM Try.prog 158 [.sl 1000000000 aaZ0 abZ0, .i acZ0, .i adZ0] [(1000000000, .arr 1 (aeZ0.map AV.i))] ((fun (r : List Int) => .tup []) r) ((fun (r : List Int) => [(1000000000, .arr 1 (r.map AV.i))]) r) := by
  refine okM_of_body (lr := [1000000000]) hmix m158M2 rfl rfl ?_
  unfold M_slices_reverseRangeOrdered_intM2 at h
  simp only [ZC, A158M2, V158M2]
  obtain ⟨oZ12, hoZ12, h⟩ := bind_s h
  try refine ZF trivial ?_
  first | refine tail_rule0 (blk_rule0 (loop_rule (w_slices_reverseRangeOrdered_intM2L1 aaZ0 abZ0) hoZ12 ?_)) (fun τ qZ13 => ?_) | refine tail_blk0 (loop_rule (w_slices_reverseRangeOrdered_intM2L1 aaZ0 abZ0) hoZ12 ?_) (fun τ qZ13 => ?_)
  · exact ZK (ZA S_slices_reverseRangeOrdered_intM2L1.eq_1 SX_slices_reverseRangeOrdered_intM2L1.eq_1)
  · cases h
    refine finM_shp qZ13 (by decide) ?_ rfl
    exact ZK (ZA V158M2.eq_1 SX_slices_reverseRangeOrdered_intM2L1.eq_1)
theorem w_slices_nextPowerOfTwo (lengthZ0 : Int) {r : Int} (h : M_slices_nextPowerOfTwo lengthZ0 = some r) : Ok Try.prog 168 [.i lengthZ0] ((fun r => .sc (.int .u64 r)) r) := by
  refine ok_of_body hmix m168 rfl ?_
  unfold M_slices_nextPowerOfTwo at h
  simp only [ZC, A168, V168, body_eq]
  obtain ⟨rZ1, hrZ1, h⟩ := bind_s h
  refine ZF trivial ?_
  refine ZS trivial (w_math_bits_Len _ hrZ1) ?_
  refine ZG ?_
  obtain ⟨uZ2, huZ2, h⟩ := bind_s h
  have huZ2g := grd_s huZ2
  cases h
  exact ZL huZ2g V168.eq_1
theorem w_slices_xorshift_NextM1 (aaZ0 : Int) {r : Int × Int} (h : M_slices_xorshift_NextM1 aaZ0 = some r) : OkM Try.prog 169 [.pt 1000000000 0 0] [(1000000000, .var (.sc (.int .u64 aaZ0)))] ((fun (r : Int × Int) => .sc (.int .u64 r.1)) r) ((fun (r : Int × Int) => [(1000000000, .var (.sc (.int .u64 r.2)))]) r) := by
  refine okM_of_body (lr := [1000000000]) hmix m169M1 rfl rfl ?_
  unfold M_slices_xorshift_NextM1 at h
  simp only [ZC, A169M1, V169M1]
  cases h
  exact ZL trivial V169M1.eq_1
def S_slices_breakPatternsOrdered_intM1L1 (aaZ0 : Nat) (abZ0 : Nat) (acZ0 : Int) (adZ0 : Int) (rZ2 : Int) (v : Int × Int × List Int) : St := ⟨[(0, .sl 1000000000 aaZ0 abZ0), (1, .i acZ0), (6, .i (IntKind.wrap .i64 (adZ0 - acZ0))), (7, .pt 7 0 0), (8, .sc (.int .u64 rZ2)), (9, .i v.1)], [(7, .var (.sc (.int .u64 v.2.1))), (1000000000, .arr 1 (v.2.2.map AV.i))]⟩
def SX_slices_breakPatternsOrdered_intM1L1 (v : List Int) : St := ⟨[], [(1000000000, .arr 1 (v.map AV.i))]⟩
theorem w_slices_breakPatternsOrdered_intM1L1 (aaZ0 : Nat) (abZ0 : Nat) (acZ0 : Int) (adZ0 : Int) (rZ2 : Int) (sZ4 : Int × Int × List Int) (o : (Int × Int × List Int) ⊕ (List Int)) (h : M_slices_breakPatternsOrdered_intM1L1 aaZ0 abZ0 acZ0 adZ0 rZ2 sZ4 = some o) : AWP (OkS Try.prog) A156M1L2 (qL [0, 1, 6, 7, 8, 9] [7, 1000000000] (S_slices_breakPatternsOrdered_intM1L1 aaZ0 abZ0 acZ0 adZ0 rZ2) (qX 0 [] [1000000000] (SX_slices_breakPatternsOrdered_intM1L1)) o) (S_slices_breakPatternsOrdered_intM1L1 aaZ0 abZ0 acZ0 adZ0 rZ2 sZ4) := by
  unfold M_slices_breakPatternsOrdered_intM1L1 at h
  simp only [ZC, S_slices_breakPatternsOrdered_intM1L1, A156M1L2]
  obtain ⟨uZ5, huZ5, h⟩ := bind_s h
  have huZ5g := grd_s huZ5
  obtain ⟨cZ6, h⟩ | ⟨cZ6, h⟩ := cond_s h
  · obtain ⟨rZ7, hrZ7, h⟩ := bind_s h
    refine ZF (ZA huZ5g cZ6) ?_
    refine ZW (ZA huZ5g cZ6) (w_slices_xorshift_NextM1 _ hrZ7) (h2 := by first | exact nm_ok [1000000000] rfl (by decide +kernel) | exact nm_ok2 [1000000000] [] rfl (by decide +kernel) ZQ | exact ZQ) (hk := ?_)
    refine ZG ?_
    obtain ⟨oZ9, hoZ9, h⟩ := bind_s h
    try refine ZF (ZA huZ5g cZ6) ?_
    refine join_rule0 (sh := (fun v => ⟨[(0, .sl 1000000000 aaZ0 abZ0), (1, .i acZ0), (6, .i (IntKind.wrap .i64 (adZ0 - acZ0))), (7, .pt 7 0 0), (8, .sc (.int .u64 rZ2)), (9, .i sZ4.1), (10, .i v)], [(7, .var (.sc (.int .u64 rZ7.2))), (1000000000, .arr 1 (sZ4.2.2.map AV.i))]⟩)) (s := oZ9) ?_ ?_
    · replace h := hoZ9
      obtain ⟨cZ8, h⟩ | ⟨cZ8, h⟩ := cond_s h
      · cases h
        exact ZL (ZA huZ5g (ZA cZ6 cZ8)) trivial
      · cases h
        exact ZL (ZA huZ5g (ZA cZ6 cZ8)) trivial
    · simp only [ZC, A156M1R1]
      obtain ⟨kZ10, hkZ10, h⟩ := bind_s h
      obtain ⟨hkZ10a, hkZ10b⟩ := grd_s hkZ10
      obtain ⟨yZ11, hyZ11, h⟩ := bind_s h
      obtain ⟨kZ12, hkZ12, h⟩ := bind_s h
      obtain ⟨hkZ12a, hkZ12b⟩ := grd_s hkZ12
      obtain ⟨yZ13, hyZ13, h⟩ := bind_s h
      obtain ⟨lZ14, hlZ14, h⟩ := bnd_s h
      have eZ15 : (sZ4.2.2.map AV.i).set (aaZ0 + (Int.toNat sZ4.1)) (.i yZ11) = lZ14.map AV.i := by rw [← hlZ14, List.map_set]
      obtain ⟨yZ16, hyZ16, h⟩ := bind_s h
      obtain ⟨lZ17, hlZ17, h⟩ := bnd_s h
      have eZ18 : (lZ14.map AV.i).set (aaZ0 + (Int.toNat (IntKind.wrap .i64 (acZ0 + oZ9)))) (.i yZ13) = lZ17.map AV.i := by rw [← hlZ17, List.map_set]
      cases h
      exact ZL (ZA huZ5g (ZA cZ6 (ZA hkZ10a (ZA hkZ10b (ZA hyZ11 (ZA hkZ12a (ZA hkZ12b (ZA hyZ13 (ZA eZ15 (ZA hyZ16 eZ18)))))))))) (ZA S_slices_breakPatternsOrdered_intM1L1.eq_1 (ZA SX_slices_breakPatternsOrdered_intM1L1.eq_1 (ZA hlZ14.symm hlZ17.symm)))
  · cases h
    exact ZL (ZA huZ5g cZ6) (ZA S_slices_breakPatternsOrdered_intM1L1.eq_1 SX_slices_breakPatternsOrdered_intM1L1.eq_1)
theorem w_slices_breakPatternsOrdered_intM1 (aaZ0 : Nat) (abZ0 : Nat) (acZ0 : Int) (adZ0 : Int) (aeZ0 : List Int) {r : List Int} (h : M_slices_breakPatternsOrdered_intM1 aaZ0 abZ0 acZ0 adZ0 aeZ0 = some r) : OkM Try.prog 156 [.sl 1000000000 aaZ0 abZ0, .i acZ0, .i adZ0] [(1000000000, .arr 1 (aeZ0.map AV.i))] ((fun (r : List Int) => .tup []) r) ((fun (r : List Int) => [(1000000000, .arr 1 (r.map AV.i))]) r) := by
  refine okM_of_body (lr := [1000000000]) hmix m156M1 rfl rfl ?_
  unfold M_slices_breakPatternsOrdered_intM1 at h
  simp only [ZC, A156M1, V156M1]
  obtain ⟨cZ1, h⟩ | ⟨cZ1, h⟩ := cond_s h
  · obtain ⟨rZ2, hrZ2, h⟩ := bind_s h
    refine ZF cZ1 ?_
    refine ZS cZ1 (w_slices_nextPowerOfTwo _ hrZ2) ?_
    refine ZG ?_
    obtain ⟨uZ3, huZ3, h⟩ := bind_s h
    have huZ3g := grd_s huZ3
    obtain ⟨oZ19, hoZ19, h⟩ := bind_s h
    try refine ZF (ZA cZ1 huZ3g) ?_
    first | refine tail_rule0 (blk_rule0 (loop_rule (w_slices_breakPatternsOrdered_intM1L1 aaZ0 abZ0 acZ0 adZ0 rZ2) hoZ19 ?_)) (fun τ qZ20 => ?_) | refine tail_blk0 (loop_rule (w_slices_breakPatternsOrdered_intM1L1 aaZ0 abZ0 acZ0 adZ0 rZ2) hoZ19 ?_) (fun τ qZ20 => ?_)
    · exact ZK (ZA S_slices_breakPatternsOrdered_intM1L1.eq_1 SX_slices_breakPatternsOrdered_intM1L1.eq_1)
    · cases h
      refine finM_shp qZ20 (by decide) ?_ rfl
      exact ZK (ZA V156M1.eq_1 SX_slices_breakPatternsOrdered_intM1L1.eq_1)
  · cases h
    exact ZL cZ1 V156M1.eq_1
def S_slices_pdqsortOrdered_intM2L1 (aaZ0 : Nat) (abZ0 : Nat) (v : Int × Int × Int × Bool × Bool × List Int) : St := ⟨[(0, .sl 1000000000 aaZ0 abZ0), (1, .i v.1), (2, .i v.2.1), (3, .i v.2.2.1), (8, .b v.2.2.2.1), (9, .b v.2.2.2.2.1)], [(1000000000, .arr 1 (v.2.2.2.2.2.map AV.i))]⟩
def SX_slices_pdqsortOrdered_intM2L1 (v : Empty) : St := ⟨[], []⟩
theorem w_slices_pdqsortOrdered_intM2L1 (aaZ0 : Nat) (abZ0 : Nat) (acZ0 : Int) (adZ0 : Int) (aeZ0 : Int) (afZ0 : List Int) (rcZ0 : Nat → Nat → Int → Int → Int → List Int → Option (List Int)) (ihZ0 : ∀ (aaZ0 : Nat) (abZ0 : Nat) (acZ0 : Int) (adZ0 : Int) (aeZ0 : Int) (afZ0 : List Int) {r : List Int}, rcZ0 aaZ0 abZ0 acZ0 adZ0 aeZ0 afZ0 = some r → OkM Try.prog 148 [.sl 1000000000 aaZ0 abZ0, .i acZ0, .i adZ0, .i aeZ0] [(1000000000, .arr 1 (afZ0.map AV.i))] ((fun (r : List Int) => .tup []) r) ((fun (r : List Int) => [(1000000000, .arr 1 (r.map AV.i))]) r)) (sZ1 : Int × Int × Int × Bool × Bool × List Int) (o : (Int × Int × Int × Bool × Bool × List Int) ⊕ (Empty ⊕ (List Int))) (h : M_slices_pdqsortOrdered_intM2L1 aaZ0 abZ0 rcZ0 sZ1 = some o) : AWP (OkS Try.prog) A148M2L6 (qL [0, 1, 2, 3, 8, 9] [1000000000] (S_slices_pdqsortOrdered_intM2L1 aaZ0 abZ0) (qS (qX 0 [] [] (SX_slices_pdqsortOrdered_intM2L1)) (qM V148M2 [1000000000] (fun (r : List Int) => .tup []) (fun (r : List Int) => [(1000000000, .arr 1 (r.map AV.i))]))) o) (S_slices_pdqsortOrdered_intM2L1 aaZ0 abZ0 sZ1) := by
  unfold M_slices_pdqsortOrdered_intM2L1 at h
  simp only [ZC, S_slices_pdqsortOrdered_intM2L1, A148M2L6]
  obtain ⟨cZ2, h⟩ | ⟨cZ2, h⟩ := cond_s h
  · obtain ⟨rZ3, hrZ3, h⟩ := bind_s h
    refine ZF cZ2 ?_
    refine ZW cZ2 (w_slices_insertionSortOrdered_intM2 _ _ _ _ _ hrZ3) (h2 := by first | exact nm_ok [1000000000] rfl (by decide +kernel) | exact nm_ok2 [1000000000] [] rfl (by decide +kernel) ZQ | exact ZQ) (hk := ?_)
    refine ZG ?_
    cases h
    exact ZL cZ2 V148M2.eq_1
  · obtain ⟨cZ4, h⟩ | ⟨cZ4, h⟩ := cond_s h
    · obtain ⟨rZ5, hrZ5, h⟩ := bind_s h
      refine ZF (ZA cZ2 cZ4) ?_
      refine ZW (ZA cZ2 cZ4) (w_slices_heapSortOrdered_intM2 _ _ _ _ _ hrZ5) (h2 := by first | exact nm_ok [1000000000] rfl (by decide +kernel) | exact nm_ok2 [1000000000] [] rfl (by decide +kernel) ZQ | exact ZQ) (hk := ?_)
      refine ZG ?_
      cases h
      exact ZL (ZA cZ2 cZ4) V148M2.eq_1
    · obtain ⟨oZ8, hoZ8, h⟩ := bind_s h
      try refine ZF (ZA cZ2 cZ4) ?_
      refine join_rule0 (sh := (fun v => ⟨[(0, .sl 1000000000 aaZ0 abZ0), (1, .i sZ1.1), (2, .i sZ1.2.1), (3, .i v.1), (8, .b sZ1.2.2.2.1), (9, .b sZ1.2.2.2.2.1), (10, .i (IntKind.wrap .i64 (sZ1.2.1 - sZ1.1)))], [(1000000000, .arr 1 (v.2.map AV.i))]⟩)) (s := oZ8) ?_ ?_
      · replace h := hoZ8
        obtain ⟨cZ6, h⟩ | ⟨cZ6, h⟩ := cond_s h
        · obtain ⟨rZ7, hrZ7, h⟩ := bind_s h
          refine ZF (ZA cZ2 (ZA cZ4 cZ6)) ?_
          refine ZW (ZA cZ2 (ZA cZ4 cZ6)) (w_slices_breakPatternsOrdered_intM1 _ _ _ _ _ hrZ7) (h2 := by first | exact nm_ok [1000000000] rfl (by decide +kernel) | exact nm_ok2 [1000000000] [] rfl (by decide +kernel) ZQ | exact ZQ) (hk := ?_)
          refine ZG ?_
          cases h
          exact ZL (ZA cZ2 (ZA cZ4 cZ6)) trivial
        · cases h
          exact ZL (ZA cZ2 (ZA cZ4 cZ6)) trivial
      · simp only [ZC, A148M2R4]
        obtain ⟨lZ9, hlZ9, h⟩ := bnd_s h
        have eZ10 : sub (oZ8.2.map AV.i) aaZ0 abZ0 = lZ9.map AV.i := by rw [sub_mapT, hlZ9]
        obtain ⟨rZ11, hrZ11, h⟩ := bind_s h
        refine ZF (ZA cZ2 (ZA cZ4 eZ10)) ?_
        refine ZU (ZA cZ2 (ZA cZ4 eZ10)) (w_slices_choosePivotOrdered_int _ _ _ hrZ11) ?_
        refine ZG ?_
        obtain ⟨oZ14, hoZ14, h⟩ := bind_s h
        try refine ZF (ZA cZ2 (ZA cZ4 eZ10)) ?_
        refine join_rule0 (sh := (fun v => ⟨[(0, .sl 1000000000 aaZ0 abZ0), (1, .i sZ1.1), (2, .i sZ1.2.1), (3, .i oZ8.1), (8, .b sZ1.2.2.2.1), (9, .b sZ1.2.2.2.2.1), (10, .i (IntKind.wrap .i64 (sZ1.2.1 - sZ1.1))), (11, .i v.1), (12, .i v.2.1)], [(1000000000, .arr 1 (v.2.2.map AV.i))]⟩)) (s := oZ14) ?_ ?_
        · replace h := hoZ14
          obtain ⟨cZ12, h⟩ | ⟨cZ12, h⟩ := cond_s h
          · obtain ⟨rZ13, hrZ13, h⟩ := bind_s h
            refine ZF (ZA cZ2 (ZA cZ4 (ZA eZ10 cZ12))) ?_
            refine ZW (ZA cZ2 (ZA cZ4 (ZA eZ10 cZ12))) (w_slices_reverseRangeOrdered_intM2 _ _ _ _ _ hrZ13) (h2 := by first | exact nm_ok [1000000000] rfl (by decide +kernel) | exact nm_ok2 [1000000000] [] rfl (by decide +kernel) ZQ | exact ZQ) (hk := ?_)
            refine ZG ?_
            cases h
            exact ZL (ZA cZ2 (ZA cZ4 (ZA eZ10 cZ12))) trivial
          · cases h
            exact ZL (ZA cZ2 (ZA cZ4 (ZA eZ10 cZ12))) trivial
        · simp only [ZC, A148M2R1]
          obtain ⟨oZ21, hoZ21, h⟩ := bind_s h
          try refine ZF (ZA cZ2 (ZA cZ4 eZ10)) ?_
          refine join_rule (sh := (fun v => ⟨[(0, .sl 1000000000 aaZ0 abZ0), (1, .i sZ1.1), (2, .i sZ1.2.1), (3, .i oZ8.1), (8, .b sZ1.2.2.2.1), (9, .b sZ1.2.2.2.2.1), (10, .i (IntKind.wrap .i64 (sZ1.2.1 - sZ1.1))), (11, .i oZ14.1)], [(1000000000, .arr 1 (v.map AV.i))]⟩)) (q := (qM V148M2 [1000000000] (fun (r : List Int) => .tup []) (fun (r : List Int) => [(1000000000, .arr 1 (r.map AV.i))]))) (o := oZ21) ?_ (fun vZ22 hv => ?_) (fun xZ23 hv e τ hne hq => ?_)
          · replace h := hoZ21
            obtain ⟨oZ17, hoZ17, h⟩ := bind_s h
            try refine ZF (ZA cZ2 (ZA cZ4 eZ10)) ?_
            refine join_rule0 (sh := (fun v => ⟨[(0, .sl 1000000000 aaZ0 abZ0), (1, .i sZ1.1), (2, .i sZ1.2.1), (3, .i oZ8.1), (8, .b sZ1.2.2.2.1), (9, .b sZ1.2.2.2.2.1), (10, .i (IntKind.wrap .i64 (sZ1.2.1 - sZ1.1))), (11, .i oZ14.1), (68, .b v)], [(1000000000, .arr 1 (oZ14.2.2.map AV.i))]⟩)) (s := oZ17) ?_ ?_
            · replace h := hoZ17
              obtain ⟨cZ15, h⟩ | ⟨cZ15, h⟩ := cond_s h
              · obtain ⟨cZ16, h⟩ | ⟨cZ16, h⟩ := cond_s h
                · cases h
                  exact ZL (ZA cZ2 (ZA cZ4 (ZA eZ10 (ZA cZ15 cZ16)))) trivial
                · cases h
                  exact ZL (ZA cZ2 (ZA cZ4 (ZA eZ10 (ZA cZ15 cZ16)))) trivial
              · cases h
                exact ZL (ZA cZ2 (ZA cZ4 (ZA eZ10 cZ15))) trivial
            · simp only [ZC, A148M2R5]
              obtain ⟨cZ18, h⟩ | ⟨cZ18, h⟩ := cond_s h
              · obtain ⟨rZ19, hrZ19, h⟩ := bind_s h
                refine ZF (ZA cZ2 (ZA cZ4 (ZA eZ10 cZ18))) ?_
                refine ZW (ZA cZ2 (ZA cZ4 (ZA eZ10 cZ18))) (w_slices_partialInsertionSortOrdered_intM1 _ _ _ _ _ hrZ19) (h2 := by first | exact nm_ok [1000000000] rfl (by decide +kernel) | exact nm_ok2 [1000000000] [] rfl (by decide +kernel) ZQ | exact ZQ) (hk := ?_)
                refine ZG ?_
                obtain ⟨cZ20, h⟩ | ⟨cZ20, h⟩ := cond_s h
                · cases h
                  exact ZL (ZA cZ2 (ZA cZ4 (ZA eZ10 (ZA cZ18 cZ20)))) V148M2.eq_1
                · cases h
                  exact ZL (ZA cZ2 (ZA cZ4 (ZA eZ10 (ZA cZ18 cZ20)))) trivial
              · cases h
                exact ZL (ZA cZ2 (ZA cZ4 (ZA eZ10 cZ18))) trivial
          · subst hv
            simp only [] at h
            simp only [ZC, A148M2R2]
            obtain ⟨oZ30, hoZ30, h⟩ := bind_s h
            try refine ZF (ZA cZ2 (ZA cZ4 eZ10)) ?_
            refine join_rule0 (sh := (fun v => ⟨[(0, .sl 1000000000 aaZ0 abZ0), (1, .i sZ1.1), (2, .i sZ1.2.1), (3, .i oZ8.1), (8, .b sZ1.2.2.2.1), (9, .b sZ1.2.2.2.2.1), (10, .i (IntKind.wrap .i64 (sZ1.2.1 - sZ1.1))), (11, .i oZ14.1), (87, .b v)], [(1000000000, .arr 1 (vZ22.map AV.i))]⟩)) (s := oZ30) ?_ ?_
            · replace h := hoZ30
              obtain ⟨cZ24, h⟩ | ⟨cZ24, h⟩ := cond_s h
              · obtain ⟨kZ25, hkZ25, h⟩ := bind_s h
                obtain ⟨hkZ25a, hkZ25b⟩ := grd_s hkZ25
                obtain ⟨yZ26, hyZ26, h⟩ := bind_s h
                obtain ⟨kZ27, hkZ27, h⟩ := bind_s h
                obtain ⟨hkZ27a, hkZ27b⟩ := grd_s hkZ27
                obtain ⟨yZ28, hyZ28, h⟩ := bind_s h
                obtain ⟨rZ29, hrZ29, h⟩ := bind_s h
                refine ZF (ZA cZ2 (ZA cZ4 (ZA eZ10 (ZA cZ24 (ZA hkZ25a (ZA hkZ25b (ZA hyZ26 (ZA hkZ27a (ZA hkZ27b hyZ28))))))))) ?_
                refine ZS (ZA cZ2 (ZA cZ4 (ZA eZ10 (ZA cZ24 (ZA hkZ25a (ZA hkZ25b (ZA hyZ26 (ZA hkZ27a (ZA hkZ27b hyZ28))))))))) (w_cmp_Less_int _ _ hrZ29) ?_
                refine ZG ?_
                cases h
                exact ZL (ZA cZ2 (ZA cZ4 (ZA eZ10 (ZA cZ24 (ZA hkZ25a (ZA hkZ25b (ZA hyZ26 (ZA hkZ27a (ZA hkZ27b hyZ28))))))))) trivial
              · cases h
                exact ZL (ZA cZ2 (ZA cZ4 (ZA eZ10 cZ24))) trivial
            · simp only [ZC, A148M2R3]
              obtain ⟨cZ31, h⟩ | ⟨cZ31, h⟩ := cond_s h
              · obtain ⟨rZ32, hrZ32, h⟩ := bind_s h
                refine ZF (ZA cZ2 (ZA cZ4 (ZA eZ10 cZ31))) ?_
                refine ZW (ZA cZ2 (ZA cZ4 (ZA eZ10 cZ31))) (w_slices_partitionEqualOrdered_intM1 _ _ _ _ _ _ hrZ32) (h2 := by first | exact nm_ok [1000000000] rfl (by decide +kernel) | exact nm_ok2 [1000000000] [] rfl (by decide +kernel) ZQ | exact ZQ) (hk := ?_)
                refine ZG ?_
                cases h
                exact ZL (ZA cZ2 (ZA cZ4 (ZA eZ10 cZ31))) (ZA S_slices_pdqsortOrdered_intM2L1.eq_1 SX_slices_pdqsortOrdered_intM2L1.eq_1)
              · obtain ⟨rZ33, hrZ33, h⟩ := bind_s h
                refine ZF (ZA cZ2 (ZA cZ4 (ZA eZ10 cZ31))) ?_
                refine ZW (ZA cZ2 (ZA cZ4 (ZA eZ10 cZ31))) (w_slices_partitionOrdered_intM1 _ _ _ _ _ _ hrZ33) (h2 := by first | exact nm_ok [1000000000] rfl (by decide +kernel) | exact nm_ok2 [1000000000] [] rfl (by decide +kernel) ZQ | exact ZQ) (hk := ?_)
                refine ZG ?_
                obtain ⟨uZ34, huZ34, h⟩ := bind_s h
                have huZ34g := grd_s huZ34
                obtain ⟨cZ35, h⟩ | ⟨cZ35, h⟩ := cond_s h
                · obtain ⟨rZ36, hrZ36, h⟩ := bind_s h
                  refine ZF (ZA cZ2 (ZA cZ4 (ZA eZ10 (ZA cZ31 (ZA huZ34g cZ35))))) ?_
                  refine ZW (ZA cZ2 (ZA cZ4 (ZA eZ10 (ZA cZ31 (ZA huZ34g cZ35))))) (ihZ0 _ _ _ _ _ _ hrZ36) (h2 := by first | exact nm_ok [1000000000] rfl (by decide +kernel) | exact nm_ok2 [1000000000] [] rfl (by decide +kernel) ZQ | exact ZQ) (hk := ?_)
                  refine ZG ?_
                  cases h
                  exact ZL (ZA cZ2 (ZA cZ4 (ZA eZ10 (ZA cZ31 (ZA huZ34g cZ35))))) (ZA S_slices_pdqsortOrdered_intM2L1.eq_1 SX_slices_pdqsortOrdered_intM2L1.eq_1)
                · obtain ⟨rZ37, hrZ37, h⟩ := bind_s h
                  refine ZF (ZA cZ2 (ZA cZ4 (ZA eZ10 (ZA cZ31 (ZA huZ34g cZ35))))) ?_
                  refine ZW (ZA cZ2 (ZA cZ4 (ZA eZ10 (ZA cZ31 (ZA huZ34g cZ35))))) (ihZ0 _ _ _ _ _ _ hrZ37) (h2 := by first | exact nm_ok [1000000000] rfl (by decide +kernel) | exact nm_ok2 [1000000000] [] rfl (by decide +kernel) ZQ | exact ZQ) (hk := ?_)
                  refine ZG ?_
                  cases h
                  exact ZL (ZA cZ2 (ZA cZ4 (ZA eZ10 (ZA cZ31 (ZA huZ34g cZ35))))) (ZA S_slices_pdqsortOrdered_intM2L1.eq_1 SX_slices_pdqsortOrdered_intM2L1.eq_1)
          · subst hv
            simp only [] at h
            obtain ⟨rfl, qZ38⟩ := hq
            cases h
            try refine ZF trivial ?_
            first | exact ⟨by simp, qZ38⟩ | exact ⟨by simp, rfl, qZ38⟩
theorem wB_slices_pdqsortOrdered_intM2 (rcZ0 : Nat → Nat → Int → Int → Int → List Int → Option (List Int)) (ihZ0 : ∀ (aaZ0 : Nat) (abZ0 : Nat) (acZ0 : Int) (adZ0 : Int) (aeZ0 : Int) (afZ0 : List Int) {r : List Int}, rcZ0 aaZ0 abZ0 acZ0 adZ0 aeZ0 afZ0 = some r → OkM Try.prog 148 [.sl 1000000000 aaZ0 abZ0, .i acZ0, .i adZ0, .i aeZ0] [(1000000000, .arr 1 (afZ0.map AV.i))] ((fun (r : List Int) => .tup []) r) ((fun (r : List Int) => [(1000000000, .arr 1 (r.map AV.i))]) r)) (aaZ0 : Nat) (abZ0 : Nat) (acZ0 : Int) (adZ0 : Int) (aeZ0 : Int) (afZ0 : List Int) {r : List Int} (h : M_slices_pdqsortOrdered_intM2_B rcZ0 aaZ0 abZ0 acZ0 adZ0 aeZ0 afZ0 = some r) : OkM Try.prog 148 [.sl 1000000000 aaZ0 abZ0, .i acZ0, .i adZ0, .i aeZ0] [(1000000000, .arr 1 (afZ0.map AV.i))] ((fun (r : List Int) => .tup []) r) ((fun (r : List Int) => [(1000000000, .arr 1 (r.map AV.i))]) r) := by
  refine okM_of_body (lr := [1000000000]) hmix m148M2 rfl rfl ?_
  unfold M_slices_pdqsortOrdered_intM2_B at h
  simp only [ZC, A148M2, V148M2]
  obtain ⟨oZ39, hoZ39, h⟩ := bind_s h
  try refine ZF trivial ?_
  first | refine tail_rule (o := oZ39) (blk_rule sideM (loop_rule (w_slices_pdqsortOrdered_intM2L1 aaZ0 abZ0 acZ0 adZ0 aeZ0 afZ0 rcZ0 ihZ0) hoZ39 ?_)) (fun vZ40 hv τ qZ42 => ?_) (fun xZ41 hv e τ hne hq => ?_) | refine tail_blk (o := oZ39) sideM (loop_rule (w_slices_pdqsortOrdered_intM2L1 aaZ0 abZ0 acZ0 adZ0 aeZ0 afZ0 rcZ0 ihZ0) hoZ39 ?_) (fun vZ40 hv τ qZ42 => ?_) (fun xZ41 hv e τ hne hq => ?_)
  · exact ZK (ZA S_slices_pdqsortOrdered_intM2L1.eq_1 SX_slices_pdqsortOrdered_intM2L1.eq_1)
  · exact vZ40.elim
  · subst hv
    simp only [] at h
    obtain ⟨rfl, qZ43⟩ := hq
    cases h
    exact qZ43
theorem w_slices_pdqsortOrdered_intM2 : ∀ (n : Nat) (aaZ0 : Nat) (abZ0 : Nat) (acZ0 : Int) (adZ0 : Int) (aeZ0 : Int) (afZ0 : List Int) {r : List Int} (_ : M_slices_pdqsortOrdered_intM2 n aaZ0 abZ0 acZ0 adZ0 aeZ0 afZ0 = some r), OkM Try.prog 148 [.sl 1000000000 aaZ0 abZ0, .i acZ0, .i adZ0, .i aeZ0] [(1000000000, .arr 1 (afZ0.map AV.i))] ((fun (r : List Int) => .tup []) r) ((fun (r : List Int) => [(1000000000, .arr 1 (r.map AV.i))]) r)
  | 0, aaZ0, abZ0, acZ0, adZ0, aeZ0, afZ0, _, h => by cases h
  | n + 1, aaZ0, abZ0, acZ0, adZ0, aeZ0, afZ0, _, h => wB_slices_pdqsortOrdered_intM2 (M_slices_pdqsortOrdered_intM2 n) (w_slices_pdqsortOrdered_intM2 n) aaZ0 abZ0 acZ0 adZ0 aeZ0 afZ0 h
def S_slices_pdqsortOrdered_intM1L1 (v : Nat × Int × Int × Int × Bool × Bool × List Int) : St := ⟨[(0, .sl 1000000000 0 v.1), (1, .i v.2.1), (2, .i v.2.2.1), (3, .i v.2.2.2.1), (8, .b v.2.2.2.2.1), (9, .b v.2.2.2.2.2.1)], [(1000000000, .arr 1 (v.2.2.2.2.2.2.map AV.i))]⟩
def SX_slices_pdqsortOrdered_intM1L1 (v : Empty) : St := ⟨[], []⟩
theorem w_slices_pdqsortOrdered_intM1L1 (sZ1 : Nat × Int × Int × Int × Bool × Bool × List Int) (o : (Nat × Int × Int × Int × Bool × Bool × List Int) ⊕ (Empty ⊕ (List Int))) (h : M_slices_pdqsortOrdered_intM1L1 sZ1 = some o) : AWP (OkS Try.prog) A148M1L6 (qL [0, 1, 2, 3, 8, 9] [1000000000] (S_slices_pdqsortOrdered_intM1L1) (qS (qX 0 [] [] (SX_slices_pdqsortOrdered_intM1L1)) (qM V148M1 [1000000000] (fun (r : List Int) => .tup []) (fun (r : List Int) => [(1000000000, .arr 1 (r.map AV.i))]))) o) (S_slices_pdqsortOrdered_intM1L1 sZ1) := by
  unfold M_slices_pdqsortOrdered_intM1L1 at h
  simp only [ZC, S_slices_pdqsortOrdered_intM1L1, A148M1L6]
  obtain ⟨cZ2, h⟩ | ⟨cZ2, h⟩ := cond_s h
  · obtain ⟨rZ3, hrZ3, h⟩ := bind_s h
    refine ZF cZ2 ?_
    refine ZW cZ2 (w_slices_insertionSortOrdered_intM2 _ _ _ _ _ hrZ3) (h2 := by first | exact nm_ok [1000000000] rfl (by decide +kernel) | exact nm_ok2 [1000000000] [] rfl (by decide +kernel) ZQ | exact ZQ) (hk := ?_)
    refine ZG ?_
    cases h
    exact ZL cZ2 V148M1.eq_1
  · obtain ⟨cZ4, h⟩ | ⟨cZ4, h⟩ := cond_s h
    · obtain ⟨rZ5, hrZ5, h⟩ := bind_s h
      refine ZF (ZA cZ2 cZ4) ?_
      refine ZW (ZA cZ2 cZ4) (w_slices_heapSortOrdered_intM2 _ _ _ _ _ hrZ5) (h2 := by first | exact nm_ok [1000000000] rfl (by decide +kernel) | exact nm_ok2 [1000000000] [] rfl (by decide +kernel) ZQ | exact ZQ) (hk := ?_)
      refine ZG ?_
      cases h
      exact ZL (ZA cZ2 cZ4) V148M1.eq_1
    · obtain ⟨oZ8, hoZ8, h⟩ := bind_s h
      try refine ZF (ZA cZ2 cZ4) ?_
      refine join_rule0 (sh := (fun v => ⟨[(0, .sl 1000000000 0 sZ1.1), (1, .i sZ1.2.1), (2, .i sZ1.2.2.1), (3, .i v.1), (8, .b sZ1.2.2.2.2.1), (9, .b sZ1.2.2.2.2.2.1), (10, .i (IntKind.wrap .i64 (sZ1.2.2.1 - sZ1.2.1)))], [(1000000000, .arr 1 (v.2.map AV.i))]⟩)) (s := oZ8) ?_ ?_
      · replace h := hoZ8
        obtain ⟨cZ6, h⟩ | ⟨cZ6, h⟩ := cond_s h
        · obtain ⟨rZ7, hrZ7, h⟩ := bind_s h
          refine ZF (ZA cZ2 (ZA cZ4 cZ6)) ?_
          refine ZW (ZA cZ2 (ZA cZ4 cZ6)) (w_slices_breakPatternsOrdered_intM1 _ _ _ _ _ hrZ7) (h2 := by first | exact nm_ok [1000000000] rfl (by decide +kernel) | exact nm_ok2 [1000000000] [] rfl (by decide +kernel) ZQ | exact ZQ) (hk := ?_)
          refine ZG ?_
          cases h
          exact ZL (ZA cZ2 (ZA cZ4 cZ6)) trivial
        · cases h
          exact ZL (ZA cZ2 (ZA cZ4 cZ6)) trivial
      · simp only [ZC, A148M1R4]
        obtain ⟨lZ9, hlZ9, h⟩ := bnd_s h
        have eZ10 : sub (oZ8.2.map AV.i) 0 sZ1.1 = lZ9.map AV.i := by rw [sub_mapT, hlZ9]
        obtain ⟨rZ11, hrZ11, h⟩ := bind_s h
        refine ZF (ZA cZ2 (ZA cZ4 eZ10)) ?_
        refine ZU (ZA cZ2 (ZA cZ4 eZ10)) (w_slices_choosePivotOrdered_int _ _ _ hrZ11) ?_
        refine ZG ?_
        obtain ⟨oZ14, hoZ14, h⟩ := bind_s h
        try refine ZF (ZA cZ2 (ZA cZ4 eZ10)) ?_
        refine join_rule0 (sh := (fun v => ⟨[(0, .sl 1000000000 0 sZ1.1), (1, .i sZ1.2.1), (2, .i sZ1.2.2.1), (3, .i oZ8.1), (8, .b sZ1.2.2.2.2.1), (9, .b sZ1.2.2.2.2.2.1), (10, .i (IntKind.wrap .i64 (sZ1.2.2.1 - sZ1.2.1))), (11, .i v.1), (12, .i v.2.1)], [(1000000000, .arr 1 (v.2.2.map AV.i))]⟩)) (s := oZ14) ?_ ?_
        · replace h := hoZ14
          obtain ⟨cZ12, h⟩ | ⟨cZ12, h⟩ := cond_s h
          · obtain ⟨rZ13, hrZ13, h⟩ := bind_s h
            refine ZF (ZA cZ2 (ZA cZ4 (ZA eZ10 cZ12))) ?_
            refine ZW (ZA cZ2 (ZA cZ4 (ZA eZ10 cZ12))) (w_slices_reverseRangeOrdered_intM2 _ _ _ _ _ hrZ13) (h2 := by first | exact nm_ok [1000000000] rfl (by decide +kernel) | exact nm_ok2 [1000000000] [] rfl (by decide +kernel) ZQ | exact ZQ) (hk := ?_)
            refine ZG ?_
            cases h
            exact ZL (ZA cZ2 (ZA cZ4 (ZA eZ10 cZ12))) trivial
          · cases h
            exact ZL (ZA cZ2 (ZA cZ4 (ZA eZ10 cZ12))) trivial
        · simp only [ZC, A148M1R1]
          obtain ⟨oZ21, hoZ21, h⟩ := bind_s h
          try refine ZF (ZA cZ2 (ZA cZ4 eZ10)) ?_
          refine join_rule (sh := (fun v => ⟨[(0, .sl 1000000000 0 sZ1.1), (1, .i sZ1.2.1), (2, .i sZ1.2.2.1), (3, .i oZ8.1), (8, .b sZ1.2.2.2.2.1), (9, .b sZ1.2.2.2.2.2.1), (10, .i (IntKind.wrap .i64 (sZ1.2.2.1 - sZ1.2.1))), (11, .i oZ14.1)], [(1000000000, .arr 1 (v.map AV.i))]⟩)) (q := (qM V148M1 [1000000000] (fun (r : List Int) => .tup []) (fun (r : List Int) => [(1000000000, .arr 1 (r.map AV.i))]))) (o := oZ21) ?_ (fun vZ22 hv => ?_) (fun xZ23 hv e τ hne hq => ?_)
          · replace h := hoZ21
            obtain ⟨oZ17, hoZ17, h⟩ := bind_s h
            try refine ZF (ZA cZ2 (ZA cZ4 eZ10)) ?_
            refine join_rule0 (sh := (fun v => ⟨[(0, .sl 1000000000 0 sZ1.1), (1, .i sZ1.2.1), (2, .i sZ1.2.2.1), (3, .i oZ8.1), (8, .b sZ1.2.2.2.2.1), (9, .b sZ1.2.2.2.2.2.1), (10, .i (IntKind.wrap .i64 (sZ1.2.2.1 - sZ1.2.1))), (11, .i oZ14.1), (68, .b v)], [(1000000000, .arr 1 (oZ14.2.2.map AV.i))]⟩)) (s := oZ17) ?_ ?_
            · replace h := hoZ17
              obtain ⟨cZ15, h⟩ | ⟨cZ15, h⟩ := cond_s h
              · obtain ⟨cZ16, h⟩ | ⟨cZ16, h⟩ := cond_s h
                · cases h
                  exact ZL (ZA cZ2 (ZA cZ4 (ZA eZ10 (ZA cZ15 cZ16)))) trivial
                · cases h
                  exact ZL (ZA cZ2 (ZA cZ4 (ZA eZ10 (ZA cZ15 cZ16)))) trivial
              · cases h
                exact ZL (ZA cZ2 (ZA cZ4 (ZA eZ10 cZ15))) trivial
            · simp only [ZC, A148M1R5]
              obtain ⟨cZ18, h⟩ | ⟨cZ18, h⟩ := cond_s h
              · obtain ⟨rZ19, hrZ19, h⟩ := bind_s h
                refine ZF (ZA cZ2 (ZA cZ4 (ZA eZ10 cZ18))) ?_
                refine ZW (ZA cZ2 (ZA cZ4 (ZA eZ10 cZ18))) (w_slices_partialInsertionSortOrdered_intM1 _ _ _ _ _ hrZ19) (h2 := by first | exact nm_ok [1000000000] rfl (by decide +kernel) | exact nm_ok2 [1000000000] [] rfl (by decide +kernel) ZQ | exact ZQ) (hk := ?_)
                refine ZG ?_
                obtain ⟨cZ20, h⟩ | ⟨cZ20, h⟩ := cond_s h
                · cases h
                  exact ZL (ZA cZ2 (ZA cZ4 (ZA eZ10 (ZA cZ18 cZ20)))) V148M1.eq_1
                · cases h
                  exact ZL (ZA cZ2 (ZA cZ4 (ZA eZ10 (ZA cZ18 cZ20)))) trivial
              · cases h
                exact ZL (ZA cZ2 (ZA cZ4 (ZA eZ10 cZ18))) trivial
          · subst hv
            simp only [] at h
            simp only [ZC, A148M1R2]
            obtain ⟨oZ30, hoZ30, h⟩ := bind_s h
            try refine ZF (ZA cZ2 (ZA cZ4 eZ10)) ?_
            refine join_rule0 (sh := (fun v => ⟨[(0, .sl 1000000000 0 sZ1.1), (1, .i sZ1.2.1), (2, .i sZ1.2.2.1), (3, .i oZ8.1), (8, .b sZ1.2.2.2.2.1), (9, .b sZ1.2.2.2.2.2.1), (10, .i (IntKind.wrap .i64 (sZ1.2.2.1 - sZ1.2.1))), (11, .i oZ14.1), (87, .b v)], [(1000000000, .arr 1 (vZ22.map AV.i))]⟩)) (s := oZ30) ?_ ?_
            · replace h := hoZ30
              obtain ⟨cZ24, h⟩ | ⟨cZ24, h⟩ := cond_s h
              · obtain ⟨kZ25, hkZ25, h⟩ := bind_s h
                obtain ⟨hkZ25a, hkZ25b⟩ := grd_s hkZ25
                obtain ⟨yZ26, hyZ26, h⟩ := bind_s h
                obtain ⟨kZ27, hkZ27, h⟩ := bind_s h
                obtain ⟨hkZ27a, hkZ27b⟩ := grd_s hkZ27
                obtain ⟨yZ28, hyZ28, h⟩ := bind_s h
                obtain ⟨rZ29, hrZ29, h⟩ := bind_s h
                refine ZF (ZA cZ2 (ZA cZ4 (ZA eZ10 (ZA cZ24 (ZA hkZ25a (ZA hkZ25b (ZA hyZ26 (ZA hkZ27a (ZA hkZ27b hyZ28))))))))) ?_
                refine ZS (ZA cZ2 (ZA cZ4 (ZA eZ10 (ZA cZ24 (ZA hkZ25a (ZA hkZ25b (ZA hyZ26 (ZA hkZ27a (ZA hkZ27b hyZ28))))))))) (w_cmp_Less_int _ _ hrZ29) ?_
                refine ZG ?_
                cases h
                exact ZL (ZA cZ2 (ZA cZ4 (ZA eZ10 (ZA cZ24 (ZA hkZ25a (ZA hkZ25b (ZA hyZ26 (ZA hkZ27a (ZA hkZ27b hyZ28))))))))) trivial
              · cases h
                exact ZL (ZA cZ2 (ZA cZ4 (ZA eZ10 cZ24))) trivial
            · simp only [ZC, A148M1R3]
              obtain ⟨cZ31, h⟩ | ⟨cZ31, h⟩ := cond_s h
              · obtain ⟨rZ32, hrZ32, h⟩ := bind_s h
                refine ZF (ZA cZ2 (ZA cZ4 (ZA eZ10 cZ31))) ?_
                refine ZW (ZA cZ2 (ZA cZ4 (ZA eZ10 cZ31))) (w_slices_partitionEqualOrdered_intM1 _ _ _ _ _ _ hrZ32) (h2 := by first | exact nm_ok [1000000000] rfl (by decide +kernel) | exact nm_ok2 [1000000000] [] rfl (by decide +kernel) ZQ | exact ZQ) (hk := ?_)
                refine ZG ?_
                cases h
                exact ZL (ZA cZ2 (ZA cZ4 (ZA eZ10 cZ31))) (ZA S_slices_pdqsortOrdered_intM1L1.eq_1 SX_slices_pdqsortOrdered_intM1L1.eq_1)
              · obtain ⟨rZ33, hrZ33, h⟩ := bind_s h
                refine ZF (ZA cZ2 (ZA cZ4 (ZA eZ10 cZ31))) ?_
                refine ZW (ZA cZ2 (ZA cZ4 (ZA eZ10 cZ31))) (w_slices_partitionOrdered_intM1 _ _ _ _ _ _ hrZ33) (h2 := by first | exact nm_ok [1000000000] rfl (by decide +kernel) | exact nm_ok2 [1000000000] [] rfl (by decide +kernel) ZQ | exact ZQ) (hk := ?_)
                refine ZG ?_
                obtain ⟨uZ34, huZ34, h⟩ := bind_s h
                have huZ34g := grd_s huZ34
                obtain ⟨cZ35, h⟩ | ⟨cZ35, h⟩ := cond_s h
                · obtain ⟨rZ36, hrZ36, h⟩ := bind_s h
                  refine ZF (ZA cZ2 (ZA cZ4 (ZA eZ10 (ZA cZ31 (ZA huZ34g cZ35))))) ?_
                  refine ZW (ZA cZ2 (ZA cZ4 (ZA eZ10 (ZA cZ31 (ZA huZ34g cZ35))))) (w_slices_pdqsortOrdered_intM2 N0 _ _ _ _ _ _ hrZ36) (h2 := by first | exact nm_ok [1000000000] rfl (by decide +kernel) | exact nm_ok2 [1000000000] [] rfl (by decide +kernel) ZQ | exact ZQ) (hk := ?_)
                  refine ZG ?_
                  cases h
                  exact ZL (ZA cZ2 (ZA cZ4 (ZA eZ10 (ZA cZ31 (ZA huZ34g cZ35))))) (ZA S_slices_pdqsortOrdered_intM1L1.eq_1 SX_slices_pdqsortOrdered_intM1L1.eq_1)
                · obtain ⟨rZ37, hrZ37, h⟩ := bind_s h
                  refine ZF (ZA cZ2 (ZA cZ4 (ZA eZ10 (ZA cZ31 (ZA huZ34g cZ35))))) ?_
                  refine ZW (ZA cZ2 (ZA cZ4 (ZA eZ10 (ZA cZ31 (ZA huZ34g cZ35))))) (w_slices_pdqsortOrdered_intM2 N0 _ _ _ _ _ _ hrZ37) (h2 := by first | exact nm_ok [1000000000] rfl (by decide +kernel) | exact nm_ok2 [1000000000] [] rfl (by decide +kernel) ZQ | exact ZQ) (hk := ?_)
                  refine ZG ?_
                  cases h
                  exact ZL (ZA cZ2 (ZA cZ4 (ZA eZ10 (ZA cZ31 (ZA huZ34g cZ35))))) (ZA S_slices_pdqsortOrdered_intM1L1.eq_1 SX_slices_pdqsortOrdered_intM1L1.eq_1)
          · subst hv
            simp only [] at h
            obtain ⟨rfl, qZ38⟩ := hq
            cases h
            try refine ZF trivial ?_
            first | exact ⟨by simp, qZ38⟩ | exact ⟨by simp, rfl, qZ38⟩
theorem w_slices_pdqsortOrdered_intM1 (aaZ0 : Int) (abZ0 : Int) (acZ0 : Int) (adZ0 : List Int) {r : List Int} (h : M_slices_pdqsortOrdered_intM1 aaZ0 abZ0 acZ0 adZ0 = some r) : OkM Try.prog 148 [.sl 1000000000 0 adZ0.length, .i aaZ0, .i abZ0, .i acZ0] [(1000000000, .arr 1 (adZ0.map AV.i))] ((fun (r : List Int) => .tup []) r) ((fun (r : List Int) => [(1000000000, .arr 1 (r.map AV.i))]) r) := by
  refine okM_of_body (lr := [1000000000]) hmix m148M1 rfl rfl ?_
  unfold M_slices_pdqsortOrdered_intM1 at h
  simp only [ZC, A148M1, V148M1]
  obtain ⟨oZ39, hoZ39, h⟩ := bind_s h
  try refine ZF trivial ?_
  first | refine tail_rule (o := oZ39) (blk_rule sideM (loop_rule (w_slices_pdqsortOrdered_intM1L1) hoZ39 ?_)) (fun vZ40 hv τ qZ42 => ?_) (fun xZ41 hv e τ hne hq => ?_) | refine tail_blk (o := oZ39) sideM (loop_rule (w_slices_pdqsortOrdered_intM1L1) hoZ39 ?_) (fun vZ40 hv τ qZ42 => ?_) (fun xZ41 hv e τ hne hq => ?_)
  · exact ZK (ZA S_slices_pdqsortOrdered_intM1L1.eq_1 SX_slices_pdqsortOrdered_intM1L1.eq_1)
  · exact vZ40.elim
  · subst hv
    simp only [] at h
    obtain ⟨rfl, qZ43⟩ := hq
    cases h
    exact qZ43
theorem w_slices_Sort_Lint_intM1 (aaZ0 : List Int) {r : List Int} (h : M_slices_Sort_Lint_intM1 aaZ0 = some r) : OkM Try.prog 135 [.sl 1000000000 0 aaZ0.length] [(1000000000, .arr 1 (aaZ0.map AV.i))] ((fun (r : List Int) => .tup []) r) ((fun (r : List Int) => [(1000000000, .arr 1 (r.map AV.i))]) r) := by
  refine okM_of_body (lr := [1000000000]) hmix m135M1 rfl rfl ?_
  unfold M_slices_Sort_Lint_intM1 at h
  simp only [ZC, A135M1, V135M1]
  obtain ⟨rZ1, hrZ1, h⟩ := bind_s h
  refine ZF trivial ?_
  refine ZS trivial (w_math_bits_Len _ hrZ1) ?_
  refine ZG ?_
  obtain ⟨rZ2, hrZ2, h⟩ := bind_s h
  refine ZF trivial ?_
  refine ZW trivial (w_slices_pdqsortOrdered_intM1 _ _ _ _ hrZ2) (h2 := by first | exact nm_ok [1000000000] rfl (by decide +kernel) | exact nm_ok2 [1000000000] [] rfl (by decide +kernel) ZQ | exact ZQ) (hk := ?_)
  refine ZG ?_
  cases h
  exact ZL trivial V135M1.eq_1
def S_slices_Compact_Lint_intM1L2 (aaZ0 : Nat) (abZ0 : Nat) (sZ2 : Int) (v : Int × Int × List Int) : St := ⟨[(0, .sl 1000000000 aaZ0 abZ0), (3, .i v.1), (4, .sl 1000000000 (aaZ0 + (Int.toNat sZ2)) (abZ0 - (Int.toNat sZ2))), (5, .i v.2.1)], [(1000000000, .arr 1 (v.2.2.map AV.i))]⟩
def SX_slices_Compact_Lint_intM1L2 (aaZ0 : Nat) (abZ0 : Nat) (v : Int × List Int) : St := ⟨[(0, .sl 1000000000 aaZ0 abZ0), (3, .i v.1)], [(1000000000, .arr 1 (v.2.map AV.i))]⟩
theorem w_slices_Compact_Lint_intM1L2 (aaZ0 : Nat) (abZ0 : Nat) (sZ2 : Int) (sZ10 : Int × Int × List Int) (o : (Int × Int × List Int) ⊕ (Int × List Int)) (h : M_slices_Compact_Lint_intM1L2 aaZ0 abZ0 sZ2 sZ10 = some o) : AWP (OkS Try.prog) A136M1L1 (qL [0, 3, 4, 5] [1000000000] (S_slices_Compact_Lint_intM1L2 aaZ0 abZ0 sZ2) (qX 2 [0, 3] [1000000000] (SX_slices_Compact_Lint_intM1L2 aaZ0 abZ0)) o) (S_slices_Compact_Lint_intM1L2 aaZ0 abZ0 sZ2 sZ10) := by
  unfold M_slices_Compact_Lint_intM1L2 at h
  simp only [ZC, S_slices_Compact_Lint_intM1L2, A136M1L1]
  obtain ⟨cZ11, h⟩ | ⟨cZ11, h⟩ := cond_s h
  · obtain ⟨kZ12, hkZ12, h⟩ := bind_s h
    obtain ⟨hkZ12a, hkZ12b⟩ := grd_s hkZ12
    obtain ⟨yZ13, hyZ13, h⟩ := bind_s h
    obtain ⟨kZ14, hkZ14, h⟩ := bind_s h
    obtain ⟨hkZ14a, hkZ14b⟩ := grd_s hkZ14
    obtain ⟨yZ15, hyZ15, h⟩ := bind_s h
    obtain ⟨cZ16, h⟩ | ⟨cZ16, h⟩ := cond_s h
    · obtain ⟨kZ17, hkZ17, h⟩ := bind_s h
      obtain ⟨hkZ17a, hkZ17b⟩ := grd_s hkZ17
      obtain ⟨yZ18, hyZ18, h⟩ := bind_s h
      obtain ⟨lZ19, hlZ19, h⟩ := bnd_s h
      have eZ20 : (sZ10.2.2.map AV.i).set (aaZ0 + (Int.toNat sZ10.1)) (.i yZ13) = lZ19.map AV.i := by rw [← hlZ19, List.map_set]
      cases h
      exact ZL (ZA cZ11 (ZA hkZ12a (ZA hkZ12b (ZA hyZ13 (ZA hkZ14a (ZA hkZ14b (ZA hyZ15 (ZA cZ16 (ZA hkZ17a (ZA hkZ17b (ZA hyZ18 eZ20))))))))))) (ZA S_slices_Compact_Lint_intM1L2.eq_1 (ZA SX_slices_Compact_Lint_intM1L2.eq_1 hlZ19.symm))
    · cases h
      exact ZL (ZA cZ11 (ZA hkZ12a (ZA hkZ12b (ZA hyZ13 (ZA hkZ14a (ZA hkZ14b (ZA hyZ15 cZ16))))))) (ZA S_slices_Compact_Lint_intM1L2.eq_1 SX_slices_Compact_Lint_intM1L2.eq_1)
  · cases h
    exact ZL cZ11 (ZA S_slices_Compact_Lint_intM1L2.eq_1 SX_slices_Compact_Lint_intM1L2.eq_1)
def S_slices_Compact_Lint_intM1L1 (aaZ0 : Nat) (abZ0 : Nat) (acZ0 : List Int) (v : Int) : St := ⟨[(0, .sl 1000000000 aaZ0 abZ0), (3, .i v)], [(1000000000, .arr 1 (acZ0.map AV.i))]⟩
def SX_slices_Compact_Lint_intM1L1 (aaZ0 : Nat) (abZ0 : Nat) (acZ0 : List Int) (v : Unit) : St := ⟨[(0, .sl 1000000000 aaZ0 abZ0)], [(1000000000, .arr 1 (acZ0.map AV.i))]⟩
theorem w_slices_Compact_Lint_intM1L1 (aaZ0 : Nat) (abZ0 : Nat) (acZ0 : List Int) (sZ2 : Int) (o : Int ⊕ (Unit ⊕ (Nat × Nat × List Int))) (h : M_slices_Compact_Lint_intM1L1 aaZ0 abZ0 acZ0 sZ2 = some o) : AWP (OkS Try.prog) A136M1L3 (qL [0, 3] [1000000000] (S_slices_Compact_Lint_intM1L1 aaZ0 abZ0 acZ0) (qS (qX 0 [0] [1000000000] (SX_slices_Compact_Lint_intM1L1 aaZ0 abZ0 acZ0)) (qM V136M1 [1000000000] (fun (r : Nat × Nat × List Int) => .sl 1000000000 r.1 r.2.1) (fun (r : Nat × Nat × List Int) => [(1000000000, .arr 1 (r.2.2.map AV.i))]))) o) (S_slices_Compact_Lint_intM1L1 aaZ0 abZ0 acZ0 sZ2) := by
  unfold M_slices_Compact_Lint_intM1L1 at h
  simp only [ZC, S_slices_Compact_Lint_intM1L1, A136M1L3]
  obtain ⟨cZ3, h⟩ | ⟨cZ3, h⟩ := cond_s h
  · obtain ⟨kZ4, hkZ4, h⟩ := bind_s h
    obtain ⟨hkZ4a, hkZ4b⟩ := grd_s hkZ4
    obtain ⟨yZ5, hyZ5, h⟩ := bind_s h
    obtain ⟨kZ6, hkZ6, h⟩ := bind_s h
    obtain ⟨hkZ6a, hkZ6b⟩ := grd_s hkZ6
    obtain ⟨yZ7, hyZ7, h⟩ := bind_s h
    obtain ⟨cZ8, h⟩ | ⟨cZ8, h⟩ := cond_s h
    · obtain ⟨uZ9, huZ9, h⟩ := bind_s h
      obtain ⟨huZ9a, huZ9b, huZ9c, huZ9d⟩ := grd_s huZ9
      obtain ⟨oZ21, hoZ21, h⟩ := bind_s h
      try refine ZF (ZA cZ3 (ZA hkZ4a (ZA hkZ4b (ZA hyZ5 (ZA hkZ6a (ZA hkZ6b (ZA hyZ7 (ZA cZ8 (ZA huZ9a (ZA huZ9b (ZA huZ9c huZ9d))))))))))) ?_
      refine join_rule0 (blk_rule0 (loop_rule (w_slices_Compact_Lint_intM1L2 aaZ0 abZ0 sZ2) hoZ21 ?_)) ?_
      · exact ZK (ZA S_slices_Compact_Lint_intM1L2.eq_1 SX_slices_Compact_Lint_intM1L2.eq_1)
      · simp only [ZC, SX_slices_Compact_Lint_intM1L2, A136M1R2]
        obtain ⟨uZ22, huZ22, h⟩ := bind_s h
        obtain ⟨huZ22a, huZ22b, huZ22c, huZ22d⟩ := grd_s huZ22
        obtain ⟨lZ23, hlZ23, h⟩ := bnd_s h
        have eZ24 : over (oZ21.2.map AV.i) (aaZ0 + (Int.toNat oZ21.1)) (List.replicate (abZ0 - (Int.toNat oZ21.1)) (.i 0 : AV)) = lZ23.map AV.i := by rw [← hlZ23, ← over_map]; simp [List.map_take]
        obtain ⟨uZ25, huZ25, h⟩ := bind_s h
        obtain ⟨huZ25a, huZ25b, huZ25c, huZ25d⟩ := grd_s huZ25
        cases h
        exact ZL (ZA cZ3 (ZA hkZ4a (ZA hkZ4b (ZA hyZ5 (ZA hkZ6a (ZA hkZ6b (ZA hyZ7 (ZA cZ8 (ZA huZ9a (ZA huZ9b (ZA huZ9c (ZA huZ9d (ZA huZ22a (ZA huZ22b (ZA huZ22c (ZA huZ22d (ZA eZ24 (ZA huZ25a (ZA huZ25b (ZA huZ25c huZ25d)))))))))))))))))))) (ZA V136M1.eq_1 (ZA hlZ23.symm @over_length))
    · cases h
      exact ZL (ZA cZ3 (ZA hkZ4a (ZA hkZ4b (ZA hyZ5 (ZA hkZ6a (ZA hkZ6b (ZA hyZ7 cZ8))))))) (ZA S_slices_Compact_Lint_intM1L1.eq_1 SX_slices_Compact_Lint_intM1L1.eq_1)
  · cases h
    exact ZL cZ3 (ZA S_slices_Compact_Lint_intM1L1.eq_1 SX_slices_Compact_Lint_intM1L1.eq_1)
theorem w_slices_Compact_Lint_intM1 (aaZ0 : Nat) (abZ0 : Nat) (acZ0 : List Int) {r : Nat × Nat × List Int} (h : M_slices_Compact_Lint_intM1 aaZ0 abZ0 acZ0 = some r) : OkM Try.prog 136 [.sl 1000000000 aaZ0 abZ0] [(1000000000, .arr 1 (acZ0.map AV.i))] ((fun (r : Nat × Nat × List Int) => .sl 1000000000 r.1 r.2.1) r) ((fun (r : Nat × Nat × List Int) => [(1000000000, .arr 1 (r.2.2.map AV.i))]) r) := by
  refine okM_of_body (lr := [1000000000]) hmix m136M1 rfl rfl ?_
  unfold M_slices_Compact_Lint_intM1 at h
  simp only [ZC, A136M1, V136M1]
  obtain ⟨cZ1, h⟩ | ⟨cZ1, h⟩ := cond_s h
  · cases h
    exact ZL cZ1 V136M1.eq_1
  · obtain ⟨oZ26, hoZ26, h⟩ := bind_s h
    try refine ZF cZ1 ?_
    refine join_rule (o := oZ26) (blk_rule sideM (loop_rule (w_slices_Compact_Lint_intM1L1 aaZ0 abZ0 acZ0) hoZ26 ?_)) (fun vZ27 hv => ?_) (fun xZ28 hv e τ hne hq => ?_)
    · exact ZK (ZA S_slices_Compact_Lint_intM1L1.eq_1 SX_slices_Compact_Lint_intM1L1.eq_1)
    · subst hv
      simp only [] at h
      simp only [ZC, SX_slices_Compact_Lint_intM1L1, A136M1R4]
      cases h
      exact ZL cZ1 V136M1.eq_1
    · subst hv
      simp only [] at h
      obtain ⟨rfl, qZ29⟩ := hq
      cases h
      exact qZ29
def S_impl_commonL1 (aZ0 : List Int) (bZ0 : List Int) (v : Int × List Int) : St := ⟨[(1, .lst .o 1 (bZ0.map AV.i)), (5, .sl 5 0 v.2.length), (9, .lst .o 1 (aZ0.map AV.i)), (10, .i (aZ0.length : Int)), (11, .i v.1)], [(5, .arr 1 (v.2.map AV.i))]⟩
def SX_impl_commonL1 (v : List Int) : St := ⟨[(5, .sl 5 0 v.length)], [(5, .arr 1 (v.map AV.i))]⟩
theorem w_impl_commonL1 (aZ0 : List Int) (bZ0 : List Int) (sZ1 : Int × List Int) (o : (Int × List Int) ⊕ (List Int)) (h : M_impl_commonL1 aZ0 bZ0 sZ1 = some o) : AWP (OkS Try.prog) A107L1 (qL [1, 5, 9, 10, 11] [5] (S_impl_commonL1 aZ0 bZ0) (qX 0 [5] [5] (SX_impl_commonL1)) o) (S_impl_commonL1 aZ0 bZ0 sZ1) := by
  unfold M_impl_commonL1 at h
  simp only [ZC, S_impl_commonL1, A107L1]
  obtain ⟨cZ2, h⟩ | ⟨cZ2, h⟩ := cond_s h
  · obtain ⟨yZ3, hyZ3, h⟩ := bind_s h
    obtain ⟨hyZ3a, hyZ3b⟩ := geti_s hyZ3
    obtain ⟨rZ4, hrZ4, h⟩ := bind_s h
    refine ZF (ZA cZ2 (ZA hyZ3a hyZ3b)) ?_
    refine ZS (ZA cZ2 (ZA hyZ3a hyZ3b)) (w_slices_Contains_Lint_int _ _ hrZ4) ?_
    refine ZG ?_
    obtain ⟨cZ5, h⟩ | ⟨cZ5, h⟩ := cond_s h
    · obtain ⟨lZ6, hlZ6, h⟩ := bnd_s h
      have eZ7 : Row.arr 1 [(.i yZ3 : AV)] = Row.arr 1 (lZ6.map AV.i) := by rw [← hlZ6]; rfl
      have eZ8 : lZ6.length = 1 := by rw [← hlZ6]; rfl
      obtain ⟨uZ9, huZ9, h⟩ := bind_s h
      have huZ9g := grd_s huZ9
      obtain ⟨lZ10, hlZ10, h⟩ := bnd_s h
      have eZ11 : sZ1.2.map AV.i ++ lZ6.map AV.i = lZ10.map AV.i := by rw [← hlZ10, List.map_append]
      have eZ12 : sZ1.2.length + 1 = lZ10.length := by simp [← hlZ6, ← hlZ10] <;> omega
      rw [eZ12] at huZ9g
      cases h
      exact ZL (ZA cZ2 (ZA hyZ3a (ZA hyZ3b (ZA cZ5 (ZA eZ7 (ZA eZ8 (ZA huZ9g (ZA eZ11 eZ12)))))))) (ZA S_impl_commonL1.eq_1 (ZA SX_impl_commonL1.eq_1 (ZA hlZ6.symm (ZA hlZ10.symm eZ8))))
    · cases h
      exact ZL (ZA cZ2 (ZA hyZ3a (ZA hyZ3b cZ5))) (ZA S_impl_commonL1.eq_1 SX_impl_commonL1.eq_1)
  · cases h
    exact ZL cZ2 (ZA S_impl_commonL1.eq_1 SX_impl_commonL1.eq_1)
theorem w_impl_common (aZ0 : List Int) (bZ0 : List Int) {r : List Int} (h : M_impl_common aZ0 bZ0 = some r) : Ok Try.prog 107 [.lst .o 1 (aZ0.map AV.i), .lst .o 1 (bZ0.map AV.i)] ((fun r => .lst .u 1 (r.map AV.i)) r) := by
  refine ok_of_body hmix m107 rfl ?_
  unfold M_impl_common at h
  simp only [ZC, A107, V107, body_eq]
  obtain ⟨oZ13, hoZ13, h⟩ := bind_s h
  try refine ZF trivial ?_
  refine join_rule0 (blk_rule0 (loop_rule (w_impl_commonL1 aZ0 bZ0) hoZ13 ?_)) ?_
  · exact ZK (ZA S_impl_commonL1.eq_1 SX_impl_commonL1.eq_1)
  · simp only [ZC, SX_impl_commonL1, A107R2]
    obtain ⟨rZ14, hrZ14, h⟩ := bind_s h
    refine ZF trivial ?_
    refine ZW trivial (w_slices_Sort_Lint_intM1 _ hrZ14) (h2 := by first | exact nm_ok [1000000000] rfl (by decide +kernel) | exact nm_ok2 [1000000000] [] rfl (by decide +kernel) ZQ | exact ZQ) (hk := ?_)
    refine ZG ?_
    obtain ⟨rZ15, hrZ15, h⟩ := bind_s h
    refine ZF trivial ?_
    refine ZW trivial (w_slices_Compact_Lint_intM1 _ _ _ hrZ15) (h2 := by first | exact nm_ok [1000000000] rfl (by decide +kernel) | exact nm_ok2 [1000000000] [] rfl (by decide +kernel) ZQ | exact ZQ) (hk := ?_)
    refine ZG ?_
    obtain ⟨lZ16, hlZ16, h⟩ := bnd_s h
    have eZ17 : sub (rZ15.2.2.map AV.i) rZ15.1 rZ15.2.1 = lZ16.map AV.i := by rw [sub_mapT, hlZ16]
    cases h
    exact ZL eZ17 V107.eq_1
theorem w_impl_RouteAvailability_c1 (goneZ0 : List Int) (p1Z0 : TRoute) {r : Bool} (h : M_impl_RouteAvailability_c1 goneZ0 p1Z0 = some r) : Ok Try.prog 109 [.lst .o 1 (goneZ0.map AV.i), .bp (.agg [.i p1Z0.Start, .lst .o 1 (p1Z0.Fibers.map AV.i)]) 0] ((fun r => .b r) r) := by
  refine ok_of_body hmix m109 rfl ?_
  unfold M_impl_RouteAvailability_c1 at h
  simp only [ZC, A109, V109, body_eq]
  obtain ⟨rZ1, hrZ1, h⟩ := bind_s h
  refine ZF trivial ?_
  refine ZU trivial (w_impl_common _ _ hrZ1) ?_
  refine ZG ?_
  cases h
  exact ZL trivial V109.eq_1
theorem w_impl_RouteAvailability (nZ0 : TNetwork) (oZ0 : TOutage) (rZ0 : TRoute) {r : Int × Bool} (h : M_impl_RouteAvailability nZ0 oZ0 rZ0 = some r) : Ok Try.prog 56 [.agg [.lst .o 1 (nZ0.Nodes.map AV.z), .lst .o 4 (nZ0.Fibers.map (e_TFiber .o))], .agg [.i oZ0.Unit, .lst .o 1 (oZ0.Down.map AV.i)], .agg [.i rZ0.Start, .lst .o 1 (rZ0.Fibers.map AV.i)]] ((fun r => .tup [.i r.1, .b r.2]) r) := by
  refine ok_of_body hmix m56 rfl ?_
  unfold M_impl_RouteAvailability at h
  simp only [ZC, A56, V56, body_eq]
  obtain ⟨oZ4, hoZ4, h⟩ := bind_s h
  try refine ZF trivial ?_
  refine join_rule0 (sh := (fun v => ⟨[(3, .pt 3 0 0), (4, .pt 4 0 0), (5, .pt 5 0 0), (17, .b v)], [(3, .var (.agg [.lst .o 1 (nZ0.Nodes.map AV.z), .lst .o 4 (nZ0.Fibers.map (e_TFiber .o))])), (4, .var (.agg [.i oZ0.Unit, .lst .o 1 (oZ0.Down.map AV.i)])), (5, .var (.agg [.i rZ0.Start, .lst .o 1 (rZ0.Fibers.map AV.i)]))]⟩)) (s := oZ4) ?_ ?_
  · replace h := hoZ4
    obtain ⟨rZ1, hrZ1, h⟩ := bind_s h
    refine ZF trivial ?_
    refine ZS trivial (w_impl_IsValidOutage _ _ hrZ1) ?_
    refine ZG ?_
    obtain ⟨cZ2, h⟩ | ⟨cZ2, h⟩ := cond_s h
    · cases h
      exact ZL cZ2 trivial
    · obtain ⟨rZ3, hrZ3, h⟩ := bind_s h
      refine ZF cZ2 ?_
      refine ZS cZ2 (w_impl_IsValidRoute _ _ hrZ3) ?_
      refine ZG ?_
      cases h
      exact ZL cZ2 trivial
  · simp only [ZC, A56R1]
    obtain ⟨cZ5, h⟩ | ⟨cZ5, h⟩ := cond_s h
    · cases h
      exact ZL cZ5 V56.eq_1
    · obtain ⟨rZ6, hrZ6, h⟩ := bind_s h
      refine ZF cZ5 ?_
      refine ZS cZ5 (w_impl_Outage_chance _ _ _ hrZ6 109 [.bp (.agg [.i rZ0.Start, .lst .o 1 (rZ0.Fibers.map AV.i)]) 0] ⟨fun ρ k => by simp only [VS1, VS2, VS3, VS4, VS5, VS6, VT1, VT2, finM_ret, finM_nrm, decide_true, decide_false, List.nodup_nil, List.nodup_cons, oks_p, oks_m, oks_h, ne_eq, not_false_eq_true, Int.reduceEq, Int.reduceNe, true_and, Nat.reduceSub, Nat.reduceMul, ↓reduceIte, reduceCtorEq, Nat.reduceEqDiff, Nat.reduceAdd, Nat.reduceLeDiff, Int.reduceLE], by simp [mentsL, AV.ments]⟩ (fun _ _ h => w_impl_RouteAvailability_c1 _ _ h)) ?_
      refine ZG ?_
      cases h
      exact ZL cZ5 V56.eq_1
def S_laws_eqStringSL1 (aZ0 : List ByteArray) (bZ0 : List ByteArray) (v : Int) : St := ⟨[(0, .lst .o 1 (aZ0.map AV.z)), (1, .lst .o 1 (bZ0.map AV.z)), (5, .i v)], []⟩
def SX_laws_eqStringSL1 (v : Unit) : St := ⟨[], []⟩
theorem w_laws_eqStringSL1 (aZ0 : List ByteArray) (bZ0 : List ByteArray) (sZ2 : Int) (o : Int ⊕ (Unit ⊕ Bool)) (h : M_laws_eqStringSL1 aZ0 bZ0 sZ2 = some o) : AWP (OkS Try.prog) A70L1 (qL [0, 1, 5] [] (S_laws_eqStringSL1 aZ0 bZ0) (qS (qX 0 [] [] (SX_laws_eqStringSL1)) (qR V70 (fun r => .b r))) o) (S_laws_eqStringSL1 aZ0 bZ0 sZ2) := by
  unfold M_laws_eqStringSL1 at h
  simp only [ZC, S_laws_eqStringSL1, A70L1]
  obtain ⟨cZ3, h⟩ | ⟨cZ3, h⟩ := cond_s h
  · obtain ⟨yZ4, hyZ4, h⟩ := bind_s h
    obtain ⟨hyZ4a, hyZ4b⟩ := geti_s hyZ4
    obtain ⟨yZ5, hyZ5, h⟩ := bind_s h
    obtain ⟨hyZ5a, hyZ5b⟩ := geti_s hyZ5
    obtain ⟨cZ6, h⟩ | ⟨cZ6, h⟩ := cond_s h
    · cases h
      exact ZL (ZA cZ3 (ZA hyZ4a (ZA hyZ4b (ZA hyZ5a (ZA hyZ5b cZ6))))) V70.eq_1
    · cases h
      exact ZL (ZA cZ3 (ZA hyZ4a (ZA hyZ4b (ZA hyZ5a (ZA hyZ5b cZ6))))) (ZA S_laws_eqStringSL1.eq_1 SX_laws_eqStringSL1.eq_1)
  · cases h
    exact ZL cZ3 (ZA S_laws_eqStringSL1.eq_1 SX_laws_eqStringSL1.eq_1)
theorem w_laws_eqStringS (aZ0 : List ByteArray) (bZ0 : List ByteArray) {r : Bool} (h : M_laws_eqStringS aZ0 bZ0 = some r) : Ok Try.prog 70 [.lst .o 1 (aZ0.map AV.z), .lst .o 1 (bZ0.map AV.z)] ((fun r => .b r) r) := by
  refine ok_of_body hmix m70 rfl ?_
  unfold M_laws_eqStringS at h
  simp only [ZC, A70, V70, body_eq]
  obtain ⟨cZ1, h⟩ | ⟨cZ1, h⟩ := cond_s h
  · cases h
    exact ZL cZ1 V70.eq_1
  · obtain ⟨oZ7, hoZ7, h⟩ := bind_s h
    try refine ZF cZ1 ?_
    refine join_rule (o := oZ7) (blk_rule sideR (loop_rule (w_laws_eqStringSL1 aZ0 bZ0) hoZ7 ?_)) (fun vZ8 hv => ?_) (fun xZ9 hv e τ hne hq => ?_)
    · exact ZK (ZA S_laws_eqStringSL1.eq_1 SX_laws_eqStringSL1.eq_1)
    · subst hv
      simp only [] at h
      simp only [ZC, SX_laws_eqStringSL1, A70R2]
      cases h
      exact ZL cZ1 V70.eq_1
    · subst hv
      simp only [] at h
      obtain ⟨rfl, qZ10⟩ := hq
      cases h
      exact qZ10
theorem w_laws_eqFiber (aZ0 : TFiber) (bZ0 : TFiber) {r : Bool} (h : M_laws_eqFiber aZ0 bZ0 = some r) : Ok Try.prog 117 [.agg [.i aZ0.A, .i aZ0.B, .i aZ0.Length, .i aZ0.Risk], .agg [.i bZ0.A, .i bZ0.B, .i bZ0.Length, .i bZ0.Risk]] ((fun r => .b r) r) := by
  refine ok_of_body hmix m117 rfl ?_
  unfold M_laws_eqFiber at h
  simp only [ZC, A117, V117, body_eq]
  obtain ⟨cZ1, h⟩ | ⟨cZ1, h⟩ := cond_s h
  · cases h
    exact ZL cZ1 V117.eq_1
  · obtain ⟨cZ2, h⟩ | ⟨cZ2, h⟩ := cond_s h
    · cases h
      exact ZL (ZA cZ1 cZ2) V117.eq_1
    · obtain ⟨cZ3, h⟩ | ⟨cZ3, h⟩ := cond_s h
      · cases h
        exact ZL (ZA cZ1 (ZA cZ2 cZ3)) V117.eq_1
      · obtain ⟨cZ4, h⟩ | ⟨cZ4, h⟩ := cond_s h
        · cases h
          exact ZL (ZA cZ1 (ZA cZ2 (ZA cZ3 cZ4))) V117.eq_1
        · cases h
          exact ZL (ZA cZ1 (ZA cZ2 (ZA cZ3 cZ4))) V117.eq_1
def S_laws_eqFiberSL1 (aZ0 : List TFiber) (bZ0 : List TFiber) (v : Int) : St := ⟨[(0, .lst .o 4 (aZ0.map (e_TFiber .o))), (1, .lst .o 4 (bZ0.map (e_TFiber .o))), (5, .i v)], []⟩
def SX_laws_eqFiberSL1 (v : Unit) : St := ⟨[], []⟩
theorem w_laws_eqFiberSL1 (aZ0 : List TFiber) (bZ0 : List TFiber) (sZ2 : Int) (o : Int ⊕ (Unit ⊕ Bool)) (h : M_laws_eqFiberSL1 aZ0 bZ0 sZ2 = some o) : AWP (OkS Try.prog) A71L1 (qL [0, 1, 5] [] (S_laws_eqFiberSL1 aZ0 bZ0) (qS (qX 0 [] [] (SX_laws_eqFiberSL1)) (qR V71 (fun r => .b r))) o) (S_laws_eqFiberSL1 aZ0 bZ0 sZ2) := by
  unfold M_laws_eqFiberSL1 at h
  simp only [ZC, S_laws_eqFiberSL1, A71L1]
  obtain ⟨cZ3, h⟩ | ⟨cZ3, h⟩ := cond_s h
  · obtain ⟨yZ4, hyZ4, h⟩ := bind_s h
    obtain ⟨hyZ4a, hyZ4b⟩ := geti_s hyZ4
    obtain ⟨yZ5, hyZ5, h⟩ := bind_s h
    obtain ⟨hyZ5a, hyZ5b⟩ := geti_s hyZ5
    obtain ⟨rZ6, hrZ6, h⟩ := bind_s h
    refine ZF (ZA cZ3 (ZA hyZ4a (ZA hyZ4b (ZA hyZ5a hyZ5b)))) ?_
    refine ZS (ZA cZ3 (ZA hyZ4a (ZA hyZ4b (ZA hyZ5a hyZ5b)))) (w_laws_eqFiber _ _ hrZ6) ?_
    refine ZG ?_
    obtain ⟨cZ7, h⟩ | ⟨cZ7, h⟩ := cond_s h
    · cases h
      exact ZL (ZA cZ3 (ZA hyZ4a (ZA hyZ4b (ZA hyZ5a (ZA hyZ5b cZ7))))) V71.eq_1
    · cases h
      exact ZL (ZA cZ3 (ZA hyZ4a (ZA hyZ4b (ZA hyZ5a (ZA hyZ5b cZ7))))) (ZA S_laws_eqFiberSL1.eq_1 SX_laws_eqFiberSL1.eq_1)
  · cases h
    exact ZL cZ3 (ZA S_laws_eqFiberSL1.eq_1 SX_laws_eqFiberSL1.eq_1)
theorem w_laws_eqFiberS (aZ0 : List TFiber) (bZ0 : List TFiber) {r : Bool} (h : M_laws_eqFiberS aZ0 bZ0 = some r) : Ok Try.prog 71 [.lst .o 4 (aZ0.map (e_TFiber .o)), .lst .o 4 (bZ0.map (e_TFiber .o))] ((fun r => .b r) r) := by
  refine ok_of_body hmix m71 rfl ?_
  unfold M_laws_eqFiberS at h
  simp only [ZC, A71, V71, body_eq]
  obtain ⟨cZ1, h⟩ | ⟨cZ1, h⟩ := cond_s h
  · cases h
    exact ZL cZ1 V71.eq_1
  · obtain ⟨oZ8, hoZ8, h⟩ := bind_s h
    try refine ZF cZ1 ?_
    refine join_rule (o := oZ8) (blk_rule sideR (loop_rule (w_laws_eqFiberSL1 aZ0 bZ0) hoZ8 ?_)) (fun vZ9 hv => ?_) (fun xZ10 hv e τ hne hq => ?_)
    · exact ZK (ZA S_laws_eqFiberSL1.eq_1 SX_laws_eqFiberSL1.eq_1)
    · subst hv
      simp only [] at h
      simp only [ZC, SX_laws_eqFiberSL1, A71R2]
      cases h
      exact ZL cZ1 V71.eq_1
    · subst hv
      simp only [] at h
      obtain ⟨rfl, qZ11⟩ := hq
      cases h
      exact qZ11
theorem w_laws_eqNetwork (aZ0 : TNetwork) (bZ0 : TNetwork) {r : Bool} (h : M_laws_eqNetwork aZ0 bZ0 = some r) : Ok Try.prog 21 [.agg [.lst .o 1 (aZ0.Nodes.map AV.z), .lst .o 4 (aZ0.Fibers.map (e_TFiber .o))], .agg [.lst .o 1 (bZ0.Nodes.map AV.z), .lst .o 4 (bZ0.Fibers.map (e_TFiber .o))]] ((fun r => .b r) r) := by
  refine ok_of_body hmix m21 rfl ?_
  unfold M_laws_eqNetwork at h
  simp only [ZC, A21, V21, body_eq]
  obtain ⟨rZ1, hrZ1, h⟩ := bind_s h
  refine ZF trivial ?_
  refine ZS trivial (w_laws_eqStringS _ _ hrZ1) ?_
  refine ZG ?_
  obtain ⟨cZ2, h⟩ | ⟨cZ2, h⟩ := cond_s h
  · cases h
    exact ZL cZ2 V21.eq_1
  · obtain ⟨rZ3, hrZ3, h⟩ := bind_s h
    refine ZF cZ2 ?_
    refine ZS cZ2 (w_laws_eqFiberS _ _ hrZ3) ?_
    refine ZG ?_
    obtain ⟨cZ4, h⟩ | ⟨cZ4, h⟩ := cond_s h
    · cases h
      exact ZL (ZA cZ2 cZ4) V21.eq_1
    · cases h
      exact ZL (ZA cZ2 cZ4) V21.eq_1
def S_laws_eqIntSL1 (aZ0 : List Int) (bZ0 : List Int) (v : Int) : St := ⟨[(0, .lst .o 1 (aZ0.map AV.i)), (1, .lst .o 1 (bZ0.map AV.i)), (5, .i v)], []⟩
def SX_laws_eqIntSL1 (v : Unit) : St := ⟨[], []⟩
theorem w_laws_eqIntSL1 (aZ0 : List Int) (bZ0 : List Int) (sZ2 : Int) (o : Int ⊕ (Unit ⊕ Bool)) (h : M_laws_eqIntSL1 aZ0 bZ0 sZ2 = some o) : AWP (OkS Try.prog) A28L1 (qL [0, 1, 5] [] (S_laws_eqIntSL1 aZ0 bZ0) (qS (qX 0 [] [] (SX_laws_eqIntSL1)) (qR V28 (fun r => .b r))) o) (S_laws_eqIntSL1 aZ0 bZ0 sZ2) := by
  unfold M_laws_eqIntSL1 at h
  simp only [ZC, S_laws_eqIntSL1, A28L1]
  obtain ⟨cZ3, h⟩ | ⟨cZ3, h⟩ := cond_s h
  · obtain ⟨yZ4, hyZ4, h⟩ := bind_s h
    obtain ⟨hyZ4a, hyZ4b⟩ := geti_s hyZ4
    obtain ⟨yZ5, hyZ5, h⟩ := bind_s h
    obtain ⟨hyZ5a, hyZ5b⟩ := geti_s hyZ5
    obtain ⟨cZ6, h⟩ | ⟨cZ6, h⟩ := cond_s h
    · cases h
      exact ZL (ZA cZ3 (ZA hyZ4a (ZA hyZ4b (ZA hyZ5a (ZA hyZ5b cZ6))))) V28.eq_1
    · cases h
      exact ZL (ZA cZ3 (ZA hyZ4a (ZA hyZ4b (ZA hyZ5a (ZA hyZ5b cZ6))))) (ZA S_laws_eqIntSL1.eq_1 SX_laws_eqIntSL1.eq_1)
  · cases h
    exact ZL cZ3 (ZA S_laws_eqIntSL1.eq_1 SX_laws_eqIntSL1.eq_1)
theorem w_laws_eqIntS (aZ0 : List Int) (bZ0 : List Int) {r : Bool} (h : M_laws_eqIntS aZ0 bZ0 = some r) : Ok Try.prog 28 [.lst .o 1 (aZ0.map AV.i), .lst .o 1 (bZ0.map AV.i)] ((fun r => .b r) r) := by
  refine ok_of_body hmix m28 rfl ?_
  unfold M_laws_eqIntS at h
  simp only [ZC, A28, V28, body_eq]
  obtain ⟨cZ1, h⟩ | ⟨cZ1, h⟩ := cond_s h
  · cases h
    exact ZL cZ1 V28.eq_1
  · obtain ⟨oZ7, hoZ7, h⟩ := bind_s h
    try refine ZF cZ1 ?_
    refine join_rule (o := oZ7) (blk_rule sideR (loop_rule (w_laws_eqIntSL1 aZ0 bZ0) hoZ7 ?_)) (fun vZ8 hv => ?_) (fun xZ9 hv e τ hne hq => ?_)
    · exact ZK (ZA S_laws_eqIntSL1.eq_1 SX_laws_eqIntSL1.eq_1)
    · subst hv
      simp only [] at h
      simp only [ZC, SX_laws_eqIntSL1, A28R2]
      cases h
      exact ZL cZ1 V28.eq_1
    · subst hv
      simp only [] at h
      obtain ⟨rfl, qZ10⟩ := hq
      cases h
      exact qZ10
theorem w_laws_eqOutage (aZ0 : TOutage) (bZ0 : TOutage) {r : Bool} (h : M_laws_eqOutage aZ0 bZ0 = some r) : Ok Try.prog 22 [.agg [.i aZ0.Unit, .lst .o 1 (aZ0.Down.map AV.i)], .agg [.i bZ0.Unit, .lst .o 1 (bZ0.Down.map AV.i)]] ((fun r => .b r) r) := by
  refine ok_of_body hmix m22 rfl ?_
  unfold M_laws_eqOutage at h
  simp only [ZC, A22, V22, body_eq]
  obtain ⟨cZ1, h⟩ | ⟨cZ1, h⟩ := cond_s h
  · cases h
    exact ZL cZ1 V22.eq_1
  · obtain ⟨rZ2, hrZ2, h⟩ := bind_s h
    refine ZF cZ1 ?_
    refine ZS cZ1 (w_laws_eqIntS _ _ hrZ2) ?_
    refine ZG ?_
    obtain ⟨cZ3, h⟩ | ⟨cZ3, h⟩ := cond_s h
    · cases h
      exact ZL (ZA cZ1 cZ3) V22.eq_1
    · cases h
      exact ZL (ZA cZ1 cZ3) V22.eq_1
theorem w_laws_eqRoute (aZ0 : TRoute) (bZ0 : TRoute) {r : Bool} (h : M_laws_eqRoute aZ0 bZ0 = some r) : Ok Try.prog 54 [.agg [.i aZ0.Start, .lst .o 1 (aZ0.Fibers.map AV.i)], .agg [.i bZ0.Start, .lst .o 1 (bZ0.Fibers.map AV.i)]] ((fun r => .b r) r) := by
  refine ok_of_body hmix m54 rfl ?_
  unfold M_laws_eqRoute at h
  simp only [ZC, A54, V54, body_eq]
  obtain ⟨cZ1, h⟩ | ⟨cZ1, h⟩ := cond_s h
  · cases h
    exact ZL cZ1 V54.eq_1
  · obtain ⟨rZ2, hrZ2, h⟩ := bind_s h
    refine ZF cZ1 ?_
    refine ZS cZ1 (w_laws_eqIntS _ _ hrZ2) ?_
    refine ZG ?_
    obtain ⟨cZ3, h⟩ | ⟨cZ3, h⟩ := cond_s h
    · cases h
      exact ZL (ZA cZ1 cZ3) V54.eq_1
    · cases h
      exact ZL (ZA cZ1 cZ3) V54.eq_1
theorem w_laws_FnExactRouteAvailability (aNZ0 : TNetwork) (aOZ0 : TOutage) (aRZ0 : TRoute) {r : Bool} (h : M_laws_FnExactRouteAvailability aNZ0 aOZ0 aRZ0 = some r) : Ok Try.prog 13 [.agg [.lst .o 1 (aNZ0.Nodes.map AV.z), .lst .o 4 (aNZ0.Fibers.map (e_TFiber .o))], .agg [.i aOZ0.Unit, .lst .o 1 (aOZ0.Down.map AV.i)], .agg [.i aRZ0.Start, .lst .o 1 (aRZ0.Fibers.map AV.i)]] ((fun r => .b r) r) := by
  refine ok_of_body hmix m13 rfl ?_
  unfold M_laws_FnExactRouteAvailability at h
  simp only [ZC, A13, V13, body_eq]
  obtain ⟨rZ1, hrZ1, h⟩ := bind_s h
  refine ZF trivial ?_
  refine ZS trivial (w_laws_szNetwork _ _ hrZ1) ?_
  refine ZG ?_
  obtain ⟨cZ2, h⟩ | ⟨cZ2, h⟩ := cond_s h
  · cases h
    exact ZL cZ2 V13.eq_1
  · obtain ⟨rZ3, hrZ3, h⟩ := bind_s h
    refine ZF cZ2 ?_
    refine ZS cZ2 (w_laws_szOutage _ _ hrZ3) ?_
    refine ZG ?_
    obtain ⟨cZ4, h⟩ | ⟨cZ4, h⟩ := cond_s h
    · cases h
      exact ZL (ZA cZ2 cZ4) V13.eq_1
    · obtain ⟨rZ5, hrZ5, h⟩ := bind_s h
      refine ZF (ZA cZ2 cZ4) ?_
      refine ZS (ZA cZ2 cZ4) (w_laws_szRoute _ _ hrZ5) ?_
      refine ZG ?_
      obtain ⟨cZ6, h⟩ | ⟨cZ6, h⟩ := cond_s h
      · cases h
        exact ZL (ZA cZ2 (ZA cZ4 cZ6)) V13.eq_1
      · obtain ⟨rZ7, hrZ7, h⟩ := bind_s h
        refine ZF (ZA cZ2 (ZA cZ4 cZ6)) ?_
        refine ZU (ZA cZ2 (ZA cZ4 cZ6)) (w_laws_toNetwork _ hrZ7) ?_
        refine ZG ?_
        obtain ⟨rZ8, hrZ8, h⟩ := bind_s h
        refine ZF (ZA cZ2 (ZA cZ4 cZ6)) ?_
        refine ZU (ZA cZ2 (ZA cZ4 cZ6)) (w_laws_toOutage _ hrZ8) ?_
        refine ZG ?_
        obtain ⟨rZ9, hrZ9, h⟩ := bind_s h
        refine ZF (ZA cZ2 (ZA cZ4 cZ6)) ?_
        refine ZU (ZA cZ2 (ZA cZ4 cZ6)) (w_laws_toRoute _ hrZ9) ?_
        refine ZG ?_
        obtain ⟨rZ10, hrZ10, h⟩ := bind_s h
        refine ZF (ZA cZ2 (ZA cZ4 cZ6)) ?_
        refine ZU (ZA cZ2 (ZA cZ4 cZ6)) (w_spec_RouteAvailability _ _ _ hrZ10) ?_
        refine ZG ?_
        obtain ⟨rZ11, hrZ11, h⟩ := bind_s h
        refine ZF (ZA cZ2 (ZA cZ4 cZ6)) ?_
        refine ZU (ZA cZ2 (ZA cZ4 cZ6)) (w_laws_toNetwork _ hrZ11) ?_
        refine ZG ?_
        obtain ⟨rZ12, hrZ12, h⟩ := bind_s h
        refine ZF (ZA cZ2 (ZA cZ4 cZ6)) ?_
        refine ZU (ZA cZ2 (ZA cZ4 cZ6)) (w_laws_toOutage _ hrZ12) ?_
        refine ZG ?_
        obtain ⟨rZ13, hrZ13, h⟩ := bind_s h
        refine ZF (ZA cZ2 (ZA cZ4 cZ6)) ?_
        refine ZU (ZA cZ2 (ZA cZ4 cZ6)) (w_laws_toRoute _ hrZ13) ?_
        refine ZG ?_
        obtain ⟨rZ14, hrZ14, h⟩ := bind_s h
        refine ZF (ZA cZ2 (ZA cZ4 cZ6)) ?_
        refine ZU (ZA cZ2 (ZA cZ4 cZ6)) (w_impl_RouteAvailability _ _ _ hrZ14) ?_
        refine ZG ?_
        obtain ⟨oZ16, hoZ16, h⟩ := bind_s h
        try refine ZF (ZA cZ2 (ZA cZ4 cZ6)) ?_
        refine join_rule0 (sh := (fun v => ⟨[(3, .pt 3 0 0), (4, .pt 4 0 0), (5, .pt 5 0 0), (10, .pt 10 0 0), (11, .pt 11 0 0), (12, .pt 12 0 0), (60, .b v)], [(3, .var (.agg [.lst .o 1 (aNZ0.Nodes.map AV.z), .lst .o 4 (aNZ0.Fibers.map (e_TFiber .o))])), (4, .var (.agg [.i aOZ0.Unit, .lst .o 1 (aOZ0.Down.map AV.i)])), (5, .var (.agg [.i aRZ0.Start, .lst .o 1 (aRZ0.Fibers.map AV.i)])), (10, .var (.agg [.sl 41 0 rZ11.Nodes.length, .sl 1041 0 rZ11.Fibers.length])), (11, .var (.agg [.i rZ12.Unit, .sl 43 0 rZ12.Down.length])), (12, .var (.agg [.i rZ13.Start, .sl 45 0 rZ13.Fibers.length])), (41, .arr 1 (rZ11.Nodes.map AV.z)), (43, .arr 1 (rZ12.Down.map AV.i)), (45, .arr 1 (rZ13.Fibers.map AV.i)), (1041, .arr 4 (rZ11.Fibers.map (e_TFiber .u)))]⟩)) (s := oZ16) ?_ ?_
        · replace h := hoZ16
          obtain ⟨cZ15, h⟩ | ⟨cZ15, h⟩ := cond_s h
          · cases h
            exact ZL (ZA cZ2 (ZA cZ4 (ZA cZ6 cZ15))) trivial
          · cases h
            exact ZL (ZA cZ2 (ZA cZ4 (ZA cZ6 cZ15))) trivial
        · simp only [ZC, A13R1]
          obtain ⟨cZ17, h⟩ | ⟨cZ17, h⟩ := cond_s h
          · cases h
            exact ZL (ZA cZ2 (ZA cZ4 (ZA cZ6 cZ17))) V13.eq_1
          · obtain ⟨rZ18, hrZ18, h⟩ := bind_s h
            refine ZF (ZA cZ2 (ZA cZ4 (ZA cZ6 cZ17))) ?_
            refine ZU (ZA cZ2 (ZA cZ4 (ZA cZ6 cZ17))) (w_laws_toNetwork _ hrZ18) ?_
            refine ZG ?_
            obtain ⟨rZ19, hrZ19, h⟩ := bind_s h
            refine ZF (ZA cZ2 (ZA cZ4 (ZA cZ6 cZ17))) ?_
            refine ZS (ZA cZ2 (ZA cZ4 (ZA cZ6 cZ17))) (w_laws_eqNetwork _ _ hrZ19) ?_
            refine ZG ?_
            obtain ⟨cZ20, h⟩ | ⟨cZ20, h⟩ := cond_s h
            · cases h
              exact ZL (ZA cZ2 (ZA cZ4 (ZA cZ6 (ZA cZ17 cZ20)))) V13.eq_1
            · obtain ⟨rZ21, hrZ21, h⟩ := bind_s h
              refine ZF (ZA cZ2 (ZA cZ4 (ZA cZ6 (ZA cZ17 cZ20)))) ?_
              refine ZU (ZA cZ2 (ZA cZ4 (ZA cZ6 (ZA cZ17 cZ20)))) (w_laws_toOutage _ hrZ21) ?_
              refine ZG ?_
              obtain ⟨rZ22, hrZ22, h⟩ := bind_s h
              refine ZF (ZA cZ2 (ZA cZ4 (ZA cZ6 (ZA cZ17 cZ20)))) ?_
              refine ZS (ZA cZ2 (ZA cZ4 (ZA cZ6 (ZA cZ17 cZ20)))) (w_laws_eqOutage _ _ hrZ22) ?_
              refine ZG ?_
              obtain ⟨cZ23, h⟩ | ⟨cZ23, h⟩ := cond_s h
              · cases h
                exact ZL (ZA cZ2 (ZA cZ4 (ZA cZ6 (ZA cZ17 (ZA cZ20 cZ23))))) V13.eq_1
              · obtain ⟨rZ24, hrZ24, h⟩ := bind_s h
                refine ZF (ZA cZ2 (ZA cZ4 (ZA cZ6 (ZA cZ17 (ZA cZ20 cZ23))))) ?_
                refine ZU (ZA cZ2 (ZA cZ4 (ZA cZ6 (ZA cZ17 (ZA cZ20 cZ23))))) (w_laws_toRoute _ hrZ24) ?_
                refine ZG ?_
                obtain ⟨rZ25, hrZ25, h⟩ := bind_s h
                refine ZF (ZA cZ2 (ZA cZ4 (ZA cZ6 (ZA cZ17 (ZA cZ20 cZ23))))) ?_
                refine ZS (ZA cZ2 (ZA cZ4 (ZA cZ6 (ZA cZ17 (ZA cZ20 cZ23))))) (w_laws_eqRoute _ _ hrZ25) ?_
                refine ZG ?_
                obtain ⟨cZ26, h⟩ | ⟨cZ26, h⟩ := cond_s h
                · cases h
                  exact ZL (ZA cZ2 (ZA cZ4 (ZA cZ6 (ZA cZ17 (ZA cZ20 (ZA cZ23 cZ26)))))) V13.eq_1
                · cases h
                  exact ZL (ZA cZ2 (ZA cZ4 (ZA cZ6 (ZA cZ17 (ZA cZ20 (ZA cZ23 cZ26)))))) V13.eq_1
end Vs

