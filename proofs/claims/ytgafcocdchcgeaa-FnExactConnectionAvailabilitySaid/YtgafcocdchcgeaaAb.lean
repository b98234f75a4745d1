/-
  Part of the proof that the law FnExactConnectionAvailability returns true at every input; no condition beside the row's own.
-/
import Derived.Test.YtgafcocdchcgeaaAa
set_option linter.unusedSimpArgs false
set_option linter.unusedVariables false
set_option maxHeartbeats 1000000
set_option maxRecDepth 8000
namespace Vs
open Go Go.Proofs
attribute [local irreducible] AWP stOps eff awpC callA callM
theorem VT1 : (∀ (f : Fl) (x : TFiber), e_TFiber f x = .agg [.i x.A, .i x.B, .i x.Length, .i x.Risk]) ∧
  (∀ (f : Fl) (x : TNetwork), e_TNetwork f x = .agg [.lst f 1 (x.Nodes.map AV.z), .lst f 4 (x.Fibers.map (e_TFiber f))]) ∧
  (∀ (f : Fl) (x : TOutage), e_TOutage f x = .agg [.i x.Unit, .lst f 1 (x.Down.map AV.i)]) ∧
  (∀ (f : Fl) (x : List Int), e_Li f x = .lst f 1 (x.map AV.i)) := ⟨fun _ _ => rfl, fun _ _ => rfl, fun _ _ => rfl, fun _ _ => rfl⟩
theorem VT2 : (∀ (f : Fl) (x : TFiber), (e_TFiber f x).nrm = e_TFiber .o x) ∧
  (∀ (f : Fl) (xs : List TFiber), (xs.map (e_TFiber f)).map AV.nrm = xs.map (e_TFiber .o)) ∧
  (∀ (f : Fl) (x : TFiber), (e_TFiber f x).als = e_TFiber f.als x) ∧
  (∀ (f : Fl) (xs : List TFiber), (xs.map (e_TFiber f)).map AV.als = xs.map (e_TFiber f.als)) ∧
  (∀ (f : Fl) (x : TFiber), (e_TFiber f x).fix = e_TFiber f.fix x) ∧
  (∀ (f : Fl) (xs : List TFiber), (xs.map (e_TFiber f)).map AV.fix = xs.map (e_TFiber f.fix)) ∧
  (∀ (f : Fl) (x : TNetwork), (e_TNetwork f x).nrm = e_TNetwork .o x) ∧
  (∀ (f : Fl) (xs : List TNetwork), (xs.map (e_TNetwork f)).map AV.nrm = xs.map (e_TNetwork .o)) ∧
  (∀ (f : Fl) (x : TNetwork), (e_TNetwork f x).als = e_TNetwork f.als x) ∧
  (∀ (f : Fl) (xs : List TNetwork), (xs.map (e_TNetwork f)).map AV.als = xs.map (e_TNetwork f.als)) ∧
  (∀ (f : Fl) (x : TNetwork), (e_TNetwork f x).fix = e_TNetwork f.fix x) ∧
  (∀ (f : Fl) (xs : List TNetwork), (xs.map (e_TNetwork f)).map AV.fix = xs.map (e_TNetwork f.fix)) ∧
  (∀ (f : Fl) (x : TOutage), (e_TOutage f x).nrm = e_TOutage .o x) ∧
  (∀ (f : Fl) (xs : List TOutage), (xs.map (e_TOutage f)).map AV.nrm = xs.map (e_TOutage .o)) ∧
  (∀ (f : Fl) (x : TOutage), (e_TOutage f x).als = e_TOutage f.als x) ∧
  (∀ (f : Fl) (xs : List TOutage), (xs.map (e_TOutage f)).map AV.als = xs.map (e_TOutage f.als)) ∧
  (∀ (f : Fl) (x : TOutage), (e_TOutage f x).fix = e_TOutage f.fix x) ∧
  (∀ (f : Fl) (xs : List TOutage), (xs.map (e_TOutage f)).map AV.fix = xs.map (e_TOutage f.fix)) ∧
  (∀ (f : Fl) (x : List Int), (e_Li f x).nrm = e_Li .o x) ∧
  (∀ (f : Fl) (xs : List (List Int)), (xs.map (e_Li f)).map AV.nrm = xs.map (e_Li .o)) ∧
  (∀ (f : Fl) (x : List Int), (e_Li f x).als = e_Li f.als x) ∧
  (∀ (f : Fl) (xs : List (List Int)), (xs.map (e_Li f)).map AV.als = xs.map (e_Li f.als)) ∧
  (∀ (f : Fl) (x : List Int), (e_Li f x).fix = e_Li f.fix x) ∧
  (∀ (f : Fl) (xs : List (List Int)), (xs.map (e_Li f)).map AV.fix = xs.map (e_Li f.fix)) :=
  ⟨@e_TFiber_nrm, @e_TFiber_nrmm, @e_TFiber_als, @e_TFiber_alsm, @e_TFiber_fix, @e_TFiber_fixm, @e_TNetwork_nrm, @e_TNetwork_nrmm, @e_TNetwork_als, @e_TNetwork_alsm, @e_TNetwork_fix, @e_TNetwork_fixm, @e_TOutage_nrm, @e_TOutage_nrmm, @e_TOutage_als, @e_TOutage_alsm, @e_TOutage_fix, @e_TOutage_fixm, @e_Li_nrm, @e_Li_nrmm, @e_Li_als, @e_Li_alsm, @e_Li_fix, @e_Li_fixm⟩
theorem VF1 : (∀ (f : Fl) (x : TFiber), (e_TFiber f x).fix = e_TFiber f.fix x) ∧
  (∀ (f : Fl) (xs : List TFiber), (xs.map (e_TFiber f)).map AV.fix = xs.map (e_TFiber f.fix)) ∧
  (∀ (f : Fl) (x : TNetwork), (e_TNetwork f x).fix = e_TNetwork f.fix x) ∧
  (∀ (f : Fl) (xs : List TNetwork), (xs.map (e_TNetwork f)).map AV.fix = xs.map (e_TNetwork f.fix)) ∧
  (∀ (f : Fl) (x : TOutage), (e_TOutage f x).fix = e_TOutage f.fix x) ∧
  (∀ (f : Fl) (xs : List TOutage), (xs.map (e_TOutage f)).map AV.fix = xs.map (e_TOutage f.fix)) ∧
  (∀ (f : Fl) (x : List Int), (e_Li f x).fix = e_Li f.fix x) ∧
  (∀ (f : Fl) (xs : List (List Int)), (xs.map (e_Li f)).map AV.fix = xs.map (e_Li f.fix)) :=
  ⟨@e_TFiber_fix, @e_TFiber_fixm, @e_TNetwork_fix, @e_TNetwork_fixm, @e_TOutage_fix, @e_TOutage_fixm, @e_Li_fix, @e_Li_fixm⟩
theorem VZ1 : (∀ (x : TFiber), (e_TFiber .o x).fz = true) ∧
  (∀ (xs : List TFiber), fzL (xs.map (e_TFiber .o)) = true) ∧
  (∀ (x : TFiber), (e_TFiber .u x).ouB = true) ∧
  (∀ (xs : List TFiber), ouBL (xs.map (e_TFiber .u)) = true) ∧
  (∀ (x : TNetwork), (e_TNetwork .o x).fz = true) ∧
  (∀ (xs : List TNetwork), fzL (xs.map (e_TNetwork .o)) = true) ∧
  (∀ (x : TNetwork), (e_TNetwork .u x).ouB = true) ∧
  (∀ (xs : List TNetwork), ouBL (xs.map (e_TNetwork .u)) = true) ∧
  (∀ (x : TOutage), (e_TOutage .o x).fz = true) ∧
  (∀ (xs : List TOutage), fzL (xs.map (e_TOutage .o)) = true) ∧
  (∀ (x : TOutage), (e_TOutage .u x).ouB = true) ∧
  (∀ (xs : List TOutage), ouBL (xs.map (e_TOutage .u)) = true) ∧
  (∀ (x : List Int), (e_Li .o x).fz = true) ∧
  (∀ (xs : List (List Int)), fzL (xs.map (e_Li .o)) = true) ∧
  (∀ (x : List Int), (e_Li .u x).ouB = true) ∧
  (∀ (xs : List (List Int)), ouBL (xs.map (e_Li .u)) = true) :=
  ⟨@e_TFiber_fz, @e_TFiber_fzm, @e_TFiber_ou, @e_TFiber_oum, @e_TNetwork_fz, @e_TNetwork_fzm, @e_TNetwork_ou, @e_TNetwork_oum, @e_TOutage_fz, @e_TOutage_fzm, @e_TOutage_ou, @e_TOutage_oum, @e_Li_fz, @e_Li_fzm, @e_Li_ou, @e_Li_oum⟩
def S_laws_szStringSL1 (aZ0 : List ByteArray) (v : Int × Int) : St := ⟨[(0, .lst .o 1 (aZ0.map AV.z)), (1, .i v.1), (5, .i v.2)], []⟩
def SX_laws_szStringSL1 (v : Int) : St := ⟨[(1, .i v)], []⟩
theorem w_laws_szStringSL1 (aZ0 : List ByteArray) (sZ2 : Int × Int) (o : (Int × Int) ⊕ (Int ⊕ Int)) (h : M_laws_szStringSL1 aZ0 sZ2 = some o) : AWP (OkS Try.prog) A59L1 (qL [0, 1, 5] [] (S_laws_szStringSL1 aZ0) (qS (qX 0 [1] [] (SX_laws_szStringSL1)) (qR V59 (fun r => .i r))) o) (S_laws_szStringSL1 aZ0 sZ2) := by
  unfold M_laws_szStringSL1 at h
  simp only [S_laws_szStringSL1, A59L1]
  refine Or.elim (bt (decide (sZ2.2 < (aZ0.length : Int)))) (fun cZ3 => ?_) (fun cZ3 => ?_)
  · replace h := cond_t cZ3 h
    obtain ⟨yZ4, hyZ4, h⟩ := bind_s h
    obtain ⟨hyZ4a, hyZ4b⟩ := geti_s hyZ4
    refine Or.elim (bt (decide ((IntKind.wrap .i64 (sZ2.1 - (yZ4.size : Int))) < 0))) (fun cZ5 => ?_) (fun cZ5 => ?_)
    · replace h := cond_t cZ5 h
      cases h
      try simp only [VS1, VS2, VS3, VS4, VS5, VS6, VT1, VT2, finM_ret, finM_nrm, decide_true, decide_false, List.nodup_nil, List.nodup_cons, oks_p, oks_m, oks_h, ne_eq, not_false_eq_true, Int.reduceEq, Int.reduceNe, true_and, Nat.reduceSub, Nat.reduceMul, ↓reduceIte, reduceCtorEq, Nat.reduceEqDiff, Nat.reduceAdd, Nat.reduceLeDiff, Int.reduceLE, cZ3, hyZ4a, hyZ4b, cZ5]
      all_goals simp [qL, qJ, qJ0, qS, qX, qR, qM, Shp, sub, tupd, VS1, VS2, VS3, VS4, VS5, VS6, VT1, VT2, V59]
    · replace h := cond_f cZ5 h
      cases h
      try simp only [VS1, VS2, VS3, VS4, VS5, VS6, VT1, VT2, finM_ret, finM_nrm, decide_true, decide_false, List.nodup_nil, List.nodup_cons, oks_p, oks_m, oks_h, ne_eq, not_false_eq_true, Int.reduceEq, Int.reduceNe, true_and, Nat.reduceSub, Nat.reduceMul, ↓reduceIte, reduceCtorEq, Nat.reduceEqDiff, Nat.reduceAdd, Nat.reduceLeDiff, Int.reduceLE, cZ3, hyZ4a, hyZ4b, cZ5]
      all_goals simp [qL, qJ, qJ0, qS, qX, qR, qM, Shp, sub, tupd, VS1, VS2, VS3, VS4, VS5, VS6, VT1, VT2, S_laws_szStringSL1, SX_laws_szStringSL1]
  · replace h := cond_f cZ3 h
    cases h
    try simp only [VS1, VS2, VS3, VS4, VS5, VS6, VT1, VT2, finM_ret, finM_nrm, decide_true, decide_false, List.nodup_nil, List.nodup_cons, oks_p, oks_m, oks_h, ne_eq, not_false_eq_true, Int.reduceEq, Int.reduceNe, true_and, Nat.reduceSub, Nat.reduceMul, ↓reduceIte, reduceCtorEq, Nat.reduceEqDiff, Nat.reduceAdd, Nat.reduceLeDiff, Int.reduceLE, cZ3]
    all_goals simp [qL, qJ, qJ0, qS, qX, qR, qM, Shp, sub, tupd, VS1, VS2, VS3, VS4, VS5, VS6, VT1, VT2, S_laws_szStringSL1, SX_laws_szStringSL1]
theorem w_laws_szStringS (aZ0 : List ByteArray) (leftZ0 : Int) {r : Int} (h : M_laws_szStringS aZ0 leftZ0 = some r) : Ok Try.prog 59 [.lst .o 1 (aZ0.map AV.z), .i leftZ0] ((fun r => .i r) r) := by
  refine ok_of_body hmix m59 rfl ?_
  unfold M_laws_szStringS at h
  simp only [A59, V59, body_eq]
  refine Or.elim (bt (decide ((IntKind.wrap .i64 (leftZ0 - (aZ0.length : Int))) < 0))) (fun cZ1 => ?_) (fun cZ1 => ?_)
  · replace h := cond_t cZ1 h
    cases h
    try simp only [VS1, VS2, VS3, VS4, VS5, VS6, VT1, VT2, finM_ret, finM_nrm, decide_true, decide_false, List.nodup_nil, List.nodup_cons, oks_p, oks_m, oks_h, ne_eq, not_false_eq_true, Int.reduceEq, Int.reduceNe, true_and, Nat.reduceSub, Nat.reduceMul, ↓reduceIte, reduceCtorEq, Nat.reduceEqDiff, Nat.reduceAdd, Nat.reduceLeDiff, Int.reduceLE, cZ1]
    all_goals simp [qL, qJ, qJ0, qS, qX, qR, qM, Shp, sub, tupd, VS1, VS2, VS3, VS4, VS5, VS6, VT1, VT2, V59]
  · replace h := cond_f cZ1 h
    obtain ⟨oZ6, hoZ6, h⟩ := bind_s h
    try simp only [VS1, VS2, VS3, VS4, VS5, VS6, VT1, VT2, finM_ret, finM_nrm, decide_true, decide_false, List.nodup_nil, List.nodup_cons, oks_p, oks_m, oks_h, ne_eq, not_false_eq_true, Int.reduceEq, Int.reduceNe, true_and, Nat.reduceSub, Nat.reduceMul, ↓reduceIte, reduceCtorEq, Nat.reduceEqDiff, Nat.reduceAdd, Nat.reduceLeDiff, Int.reduceLE, cZ1]
    refine join_rule (o := oZ6) (blk_rule sideR (loop_rule (w_laws_szStringSL1 aZ0) hoZ6 ?_)) (fun vZ7 hv => ?_) (fun xZ8 hv e τ hne hq => ?_)
    · all_goals simp [qL, qJ, qJ0, qS, qX, qR, qM, Shp, sub, tupd, VS1, VS2, VS3, VS4, VS5, VS6, VT1, VT2, S_laws_szStringSL1, SX_laws_szStringSL1]
    · subst hv
      simp only [] at h
      simp only [SX_laws_szStringSL1, A59R2]
      cases h
      try simp only [VS1, VS2, VS3, VS4, VS5, VS6, VT1, VT2, finM_ret, finM_nrm, decide_true, decide_false, List.nodup_nil, List.nodup_cons, oks_p, oks_m, oks_h, ne_eq, not_false_eq_true, Int.reduceEq, Int.reduceNe, true_and, Nat.reduceSub, Nat.reduceMul, ↓reduceIte, reduceCtorEq, Nat.reduceEqDiff, Nat.reduceAdd, Nat.reduceLeDiff, Int.reduceLE, cZ1]
      all_goals simp [qL, qJ, qJ0, qS, qX, qR, qM, Shp, sub, tupd, VS1, VS2, VS3, VS4, VS5, VS6, VT1, VT2, V59]
    · subst hv
      simp only [] at h
      obtain ⟨rfl, qZ9⟩ := hq
      cases h
      exact qZ9
theorem w_laws_szFiberS (aZ0 : List TFiber) (leftZ0 : Int) {r : Int} (h : M_laws_szFiberS aZ0 leftZ0 = some r) : Ok Try.prog 60 [.lst .o 4 (aZ0.map (e_TFiber .o)), .i leftZ0] ((fun r => .i r) r) := by
  refine ok_of_body hmix m60 rfl ?_
  unfold M_laws_szFiberS at h
  simp only [A60, V60, body_eq]
  refine Or.elim (bt (decide ((IntKind.wrap .i64 (leftZ0 - (aZ0.length : Int))) < 0))) (fun cZ1 => ?_) (fun cZ1 => ?_)
  · replace h := cond_t cZ1 h
    cases h
    try simp only [VS1, VS2, VS3, VS4, VS5, VS6, VT1, VT2, finM_ret, finM_nrm, decide_true, decide_false, List.nodup_nil, List.nodup_cons, oks_p, oks_m, oks_h, ne_eq, not_false_eq_true, Int.reduceEq, Int.reduceNe, true_and, Nat.reduceSub, Nat.reduceMul, ↓reduceIte, reduceCtorEq, Nat.reduceEqDiff, Nat.reduceAdd, Nat.reduceLeDiff, Int.reduceLE, cZ1]
    all_goals simp [qL, qJ, qJ0, qS, qX, qR, qM, Shp, sub, tupd, VS1, VS2, VS3, VS4, VS5, VS6, VT1, VT2, V60]
  · replace h := cond_f cZ1 h
    cases h
    try simp only [VS1, VS2, VS3, VS4, VS5, VS6, VT1, VT2, finM_ret, finM_nrm, decide_true, decide_false, List.nodup_nil, List.nodup_cons, oks_p, oks_m, oks_h, ne_eq, not_false_eq_true, Int.reduceEq, Int.reduceNe, true_and, Nat.reduceSub, Nat.reduceMul, ↓reduceIte, reduceCtorEq, Nat.reduceEqDiff, Nat.reduceAdd, Nat.reduceLeDiff, Int.reduceLE, cZ1]
    all_goals simp [qL, qJ, qJ0, qS, qX, qR, qM, Shp, sub, tupd, VS1, VS2, VS3, VS4, VS5, VS6, VT1, VT2, V60]
theorem w_laws_szNetwork (aZ0 : TNetwork) (leftZ0 : Int) {r : Int} (h : M_laws_szNetwork aZ0 leftZ0 = some r) : Ok Try.prog 15 [.agg [.lst .o 1 (aZ0.Nodes.map AV.z), .lst .o 4 (aZ0.Fibers.map (e_TFiber .o))], .i leftZ0] ((fun r => .i r) r) := by
  refine ok_of_body hmix m15 rfl ?_
  unfold M_laws_szNetwork at h
  simp only [A15, V15, body_eq]
  obtain ⟨rZ1, hrZ1, h⟩ := bind_s h
  simp only [VS1, VS2, VS3, VS4, VS5, VS6, VT1, VT2, finM_ret, finM_nrm, decide_true, decide_false, List.nodup_nil, List.nodup_cons, oks_p, oks_m, oks_h, ne_eq, not_false_eq_true, Int.reduceEq, Int.reduceNe, true_and, Nat.reduceSub, Nat.reduceMul, ↓reduceIte, reduceCtorEq, Nat.reduceEqDiff, Nat.reduceAdd, Nat.reduceLeDiff, Int.reduceLE]
  refine call_s (by simp only [VS1, VS2, VS3, VS4, VS5, VS6, VT1, VT2, finM_ret, finM_nrm, decide_true, decide_false, List.nodup_nil, List.nodup_cons, oks_p, oks_m, oks_h, ne_eq, not_false_eq_true, Int.reduceEq, Int.reduceNe, true_and, Nat.reduceSub, Nat.reduceMul, ↓reduceIte, reduceCtorEq, Nat.reduceEqDiff, Nat.reduceAdd, Nat.reduceLeDiff, Int.reduceLE]; exact w_laws_szStringS _ _ hrZ1 ) ?_
  simp only [VA, VF1, ↓reduceIte, Nat.reduceEqDiff, Nat.reduceAdd, Nat.reduceMul, Nat.reduceSub, Nat.reduceLeDiff]
  refine Or.elim (bt (decide (rZ1 < 0))) (fun cZ2 => ?_) (fun cZ2 => ?_)
  · replace h := cond_t cZ2 h
    cases h
    try simp only [VS1, VS2, VS3, VS4, VS5, VS6, VT1, VT2, finM_ret, finM_nrm, decide_true, decide_false, List.nodup_nil, List.nodup_cons, oks_p, oks_m, oks_h, ne_eq, not_false_eq_true, Int.reduceEq, Int.reduceNe, true_and, Nat.reduceSub, Nat.reduceMul, ↓reduceIte, reduceCtorEq, Nat.reduceEqDiff, Nat.reduceAdd, Nat.reduceLeDiff, Int.reduceLE, cZ2]
    all_goals simp [qL, qJ, qJ0, qS, qX, qR, qM, Shp, sub, tupd, VS1, VS2, VS3, VS4, VS5, VS6, VT1, VT2, V15]
  · replace h := cond_f cZ2 h
    obtain ⟨rZ3, hrZ3, h⟩ := bind_s h
    simp only [VS1, VS2, VS3, VS4, VS5, VS6, VT1, VT2, finM_ret, finM_nrm, decide_true, decide_false, List.nodup_nil, List.nodup_cons, oks_p, oks_m, oks_h, ne_eq, not_false_eq_true, Int.reduceEq, Int.reduceNe, true_and, Nat.reduceSub, Nat.reduceMul, ↓reduceIte, reduceCtorEq, Nat.reduceEqDiff, Nat.reduceAdd, Nat.reduceLeDiff, Int.reduceLE, cZ2]
    refine call_s (by simp only [VS1, VS2, VS3, VS4, VS5, VS6, VT1, VT2, finM_ret, finM_nrm, decide_true, decide_false, List.nodup_nil, List.nodup_cons, oks_p, oks_m, oks_h, ne_eq, not_false_eq_true, Int.reduceEq, Int.reduceNe, true_and, Nat.reduceSub, Nat.reduceMul, ↓reduceIte, reduceCtorEq, Nat.reduceEqDiff, Nat.reduceAdd, Nat.reduceLeDiff, Int.reduceLE, cZ2]; exact w_laws_szFiberS _ _ hrZ3 ) ?_
    simp only [VA, VF1, ↓reduceIte, Nat.reduceEqDiff, Nat.reduceAdd, Nat.reduceMul, Nat.reduceSub, Nat.reduceLeDiff]
    refine Or.elim (bt (decide (rZ3 < 0))) (fun cZ4 => ?_) (fun cZ4 => ?_)
    · replace h := cond_t cZ4 h
      cases h
      try simp only [VS1, VS2, VS3, VS4, VS5, VS6, VT1, VT2, finM_ret, finM_nrm, decide_true, decide_false, List.nodup_nil, List.nodup_cons, oks_p, oks_m, oks_h, ne_eq, not_false_eq_true, Int.reduceEq, Int.reduceNe, true_and, Nat.reduceSub, Nat.reduceMul, ↓reduceIte, reduceCtorEq, Nat.reduceEqDiff, Nat.reduceAdd, Nat.reduceLeDiff, Int.reduceLE, cZ2, cZ4]
      all_goals simp [qL, qJ, qJ0, qS, qX, qR, qM, Shp, sub, tupd, VS1, VS2, VS3, VS4, VS5, VS6, VT1, VT2, V15]
    · replace h := cond_f cZ4 h
      cases h
      try simp only [VS1, VS2, VS3, VS4, VS5, VS6, VT1, VT2, finM_ret, finM_nrm, decide_true, decide_false, List.nodup_nil, List.nodup_cons, oks_p, oks_m, oks_h, ne_eq, not_false_eq_true, Int.reduceEq, Int.reduceNe, true_and, Nat.reduceSub, Nat.reduceMul, ↓reduceIte, reduceCtorEq, Nat.reduceEqDiff, Nat.reduceAdd, Nat.reduceLeDiff, Int.reduceLE, cZ2, cZ4]
      all_goals simp [qL, qJ, qJ0, qS, qX, qR, qM, Shp, sub, tupd, VS1, VS2, VS3, VS4, VS5, VS6, VT1, VT2, V15]
theorem w_laws_szIntS (aZ0 : List Int) (leftZ0 : Int) {r : Int} (h : M_laws_szIntS aZ0 leftZ0 = some r) : Ok Try.prog 61 [.lst .o 1 (aZ0.map AV.i), .i leftZ0] ((fun r => .i r) r) := by
  refine ok_of_body hmix m61 rfl ?_
  unfold M_laws_szIntS at h
  simp only [A61, V61, body_eq]
  refine Or.elim (bt (decide ((IntKind.wrap .i64 (leftZ0 - (aZ0.length : Int))) < 0))) (fun cZ1 => ?_) (fun cZ1 => ?_)
  · replace h := cond_t cZ1 h
    cases h
    try simp only [VS1, VS2, VS3, VS4, VS5, VS6, VT1, VT2, finM_ret, finM_nrm, decide_true, decide_false, List.nodup_nil, List.nodup_cons, oks_p, oks_m, oks_h, ne_eq, not_false_eq_true, Int.reduceEq, Int.reduceNe, true_and, Nat.reduceSub, Nat.reduceMul, ↓reduceIte, reduceCtorEq, Nat.reduceEqDiff, Nat.reduceAdd, Nat.reduceLeDiff, Int.reduceLE, cZ1]
    all_goals simp [qL, qJ, qJ0, qS, qX, qR, qM, Shp, sub, tupd, VS1, VS2, VS3, VS4, VS5, VS6, VT1, VT2, V61]
  · replace h := cond_f cZ1 h
    cases h
    try simp only [VS1, VS2, VS3, VS4, VS5, VS6, VT1, VT2, finM_ret, finM_nrm, decide_true, decide_false, List.nodup_nil, List.nodup_cons, oks_p, oks_m, oks_h, ne_eq, not_false_eq_true, Int.reduceEq, Int.reduceNe, true_and, Nat.reduceSub, Nat.reduceMul, ↓reduceIte, reduceCtorEq, Nat.reduceEqDiff, Nat.reduceAdd, Nat.reduceLeDiff, Int.reduceLE, cZ1]
    all_goals simp [qL, qJ, qJ0, qS, qX, qR, qM, Shp, sub, tupd, VS1, VS2, VS3, VS4, VS5, VS6, VT1, VT2, V61]
theorem w_laws_szOutage (aZ0 : TOutage) (leftZ0 : Int) {r : Int} (h : M_laws_szOutage aZ0 leftZ0 = some r) : Ok Try.prog 16 [.agg [.i aZ0.Unit, .lst .o 1 (aZ0.Down.map AV.i)], .i leftZ0] ((fun r => .i r) r) := by
  refine ok_of_body hmix m16 rfl ?_
  unfold M_laws_szOutage at h
  simp only [A16, V16, body_eq]
  obtain ⟨rZ1, hrZ1, h⟩ := bind_s h
  simp only [VS1, VS2, VS3, VS4, VS5, VS6, VT1, VT2, finM_ret, finM_nrm, decide_true, decide_false, List.nodup_nil, List.nodup_cons, oks_p, oks_m, oks_h, ne_eq, not_false_eq_true, Int.reduceEq, Int.reduceNe, true_and, Nat.reduceSub, Nat.reduceMul, ↓reduceIte, reduceCtorEq, Nat.reduceEqDiff, Nat.reduceAdd, Nat.reduceLeDiff, Int.reduceLE]
  refine call_s (by simp only [VS1, VS2, VS3, VS4, VS5, VS6, VT1, VT2, finM_ret, finM_nrm, decide_true, decide_false, List.nodup_nil, List.nodup_cons, oks_p, oks_m, oks_h, ne_eq, not_false_eq_true, Int.reduceEq, Int.reduceNe, true_and, Nat.reduceSub, Nat.reduceMul, ↓reduceIte, reduceCtorEq, Nat.reduceEqDiff, Nat.reduceAdd, Nat.reduceLeDiff, Int.reduceLE]; exact w_laws_szIntS _ _ hrZ1 ) ?_
  simp only [VA, VF1, ↓reduceIte, Nat.reduceEqDiff, Nat.reduceAdd, Nat.reduceMul, Nat.reduceSub, Nat.reduceLeDiff]
  refine Or.elim (bt (decide (rZ1 < 0))) (fun cZ2 => ?_) (fun cZ2 => ?_)
  · replace h := cond_t cZ2 h
    cases h
    try simp only [VS1, VS2, VS3, VS4, VS5, VS6, VT1, VT2, finM_ret, finM_nrm, decide_true, decide_false, List.nodup_nil, List.nodup_cons, oks_p, oks_m, oks_h, ne_eq, not_false_eq_true, Int.reduceEq, Int.reduceNe, true_and, Nat.reduceSub, Nat.reduceMul, ↓reduceIte, reduceCtorEq, Nat.reduceEqDiff, Nat.reduceAdd, Nat.reduceLeDiff, Int.reduceLE, cZ2]
    all_goals simp [qL, qJ, qJ0, qS, qX, qR, qM, Shp, sub, tupd, VS1, VS2, VS3, VS4, VS5, VS6, VT1, VT2, V16]
  · replace h := cond_f cZ2 h
    cases h
    try simp only [VS1, VS2, VS3, VS4, VS5, VS6, VT1, VT2, finM_ret, finM_nrm, decide_true, decide_false, List.nodup_nil, List.nodup_cons, oks_p, oks_m, oks_h, ne_eq, not_false_eq_true, Int.reduceEq, Int.reduceNe, true_and, Nat.reduceSub, Nat.reduceMul, ↓reduceIte, reduceCtorEq, Nat.reduceEqDiff, Nat.reduceAdd, Nat.reduceLeDiff, Int.reduceLE, cZ2]
    all_goals simp [qL, qJ, qJ0, qS, qX, qR, qM, Shp, sub, tupd, VS1, VS2, VS3, VS4, VS5, VS6, VT1, VT2, V16]
def S_laws_toStringSL1 (aZ0 : List ByteArray) (v : Int × List ByteArray) : St := ⟨[(0, .lst .o 1 (aZ0.map AV.z)), (3, .sl 3 0 v.2.length), (4, .i v.1)], [(3, .arr 1 (v.2.map AV.z))]⟩
def SX_laws_toStringSL1 (v : List ByteArray) : St := ⟨[(3, .sl 3 0 v.length)], [(3, .arr 1 (v.map AV.z))]⟩
theorem w_laws_toStringSL1 (aZ0 : List ByteArray) (sZ4 : Int × List ByteArray) (o : (Int × List ByteArray) ⊕ (List ByteArray)) (h : M_laws_toStringSL1 aZ0 sZ4 = some o) : AWP (OkS Try.prog) A63L1 (qL [0, 3, 4] [3] (S_laws_toStringSL1 aZ0) (qX 0 [3] [3] (SX_laws_toStringSL1)) o) (S_laws_toStringSL1 aZ0 sZ4) := by
  unfold M_laws_toStringSL1 at h
  simp only [S_laws_toStringSL1, A63L1]
  refine Or.elim (bt (decide (sZ4.1 < (aZ0.length : Int)))) (fun cZ5 => ?_) (fun cZ5 => ?_)
  · replace h := cond_t cZ5 h
    obtain ⟨yZ6, hyZ6, h⟩ := bind_s h
    obtain ⟨hyZ6a, hyZ6b⟩ := geti_s hyZ6
    obtain ⟨kZ7, hkZ7, h⟩ := bind_s h
    obtain ⟨hkZ7a, hkZ7b⟩ := grd_s hkZ7
    obtain ⟨yZ8, hyZ8, h⟩ := bind_s h
    obtain ⟨lZ9, hlZ9, h⟩ := bnd_s h
    have eZ10 : (sZ4.2.map AV.z).set (Int.toNat sZ4.1) (.z yZ6) = lZ9.map AV.z := by rw [← hlZ9, List.map_set]
    cases h
    try simp only [VS1, VS2, VS3, VS4, VS5, VS6, VT1, VT2, finM_ret, finM_nrm, decide_true, decide_false, List.nodup_nil, List.nodup_cons, oks_p, oks_m, oks_h, ne_eq, not_false_eq_true, Int.reduceEq, Int.reduceNe, true_and, Nat.reduceSub, Nat.reduceMul, ↓reduceIte, reduceCtorEq, Nat.reduceEqDiff, Nat.reduceAdd, Nat.reduceLeDiff, Int.reduceLE, cZ5, hyZ6a, hyZ6b, hkZ7a, hkZ7b, hyZ8, eZ10]
    all_goals simp [qL, qJ, qJ0, qS, qX, qR, qM, Shp, sub, tupd, VS1, VS2, VS3, VS4, VS5, VS6, VT1, VT2, S_laws_toStringSL1, SX_laws_toStringSL1, ← hlZ9]
  · replace h := cond_f cZ5 h
    cases h
    try simp only [VS1, VS2, VS3, VS4, VS5, VS6, VT1, VT2, finM_ret, finM_nrm, decide_true, decide_false, List.nodup_nil, List.nodup_cons, oks_p, oks_m, oks_h, ne_eq, not_false_eq_true, Int.reduceEq, Int.reduceNe, true_and, Nat.reduceSub, Nat.reduceMul, ↓reduceIte, reduceCtorEq, Nat.reduceEqDiff, Nat.reduceAdd, Nat.reduceLeDiff, Int.reduceLE, cZ5]
    all_goals simp [qL, qJ, qJ0, qS, qX, qR, qM, Shp, sub, tupd, VS1, VS2, VS3, VS4, VS5, VS6, VT1, VT2, S_laws_toStringSL1, SX_laws_toStringSL1]
theorem w_laws_toStringS (aZ0 : List ByteArray) {r : List ByteArray} (h : M_laws_toStringS aZ0 = some r) : Ok Try.prog 63 [.lst .o 1 (aZ0.map AV.z)] ((fun r => .lst .u 1 (r.map AV.z)) r) := by
  refine ok_of_body hmix m63 rfl ?_
  unfold M_laws_toStringS at h
  simp only [A63, V63, body_eq]
  obtain ⟨uZ1, huZ1, h⟩ := bind_s h
  obtain ⟨huZ11, huZ12, huZ13, huZ14⟩ := grd_s huZ1
  obtain ⟨lZ2, hlZ2, h⟩ := bnd_s h
  have eZ3 : List.replicate (Int.toNat (aZ0.length : Int)) (.z (⟨#[]⟩) : AV) = lZ2.map AV.z := by rw [← hlZ2, List.map_replicate]
  obtain ⟨oZ11, hoZ11, h⟩ := bind_s h
  try simp only [VS1, VS2, VS3, VS4, VS5, VS6, VT1, VT2, finM_ret, finM_nrm, decide_true, decide_false, List.nodup_nil, List.nodup_cons, oks_p, oks_m, oks_h, ne_eq, not_false_eq_true, Int.reduceEq, Int.reduceNe, true_and, Nat.reduceSub, Nat.reduceMul, ↓reduceIte, reduceCtorEq, Nat.reduceEqDiff, Nat.reduceAdd, Nat.reduceLeDiff, Int.reduceLE, huZ11, huZ12, huZ13, huZ14, eZ3]
  refine join_rule0 (blk_rule0 (loop_rule (w_laws_toStringSL1 aZ0) hoZ11 ?_)) ?_
  · all_goals simp [qL, qJ, qJ0, qS, qX, qR, qM, Shp, sub, tupd, VS1, VS2, VS3, VS4, VS5, VS6, VT1, VT2, S_laws_toStringSL1, SX_laws_toStringSL1, ← hlZ2, List.length_replicate]
  · simp only [SX_laws_toStringSL1, A63R2]
    cases h
    try simp only [VS1, VS2, VS3, VS4, VS5, VS6, VT1, VT2, finM_ret, finM_nrm, decide_true, decide_false, List.nodup_nil, List.nodup_cons, oks_p, oks_m, oks_h, ne_eq, not_false_eq_true, Int.reduceEq, Int.reduceNe, true_and, Nat.reduceSub, Nat.reduceMul, ↓reduceIte, reduceCtorEq, Nat.reduceEqDiff, Nat.reduceAdd, Nat.reduceLeDiff, Int.reduceLE, huZ11, huZ12, huZ13, huZ14, eZ3]
    all_goals simp [qL, qJ, qJ0, qS, qX, qR, qM, Shp, sub, tupd, VS1, VS2, VS3, VS4, VS5, VS6, VT1, VT2, V63]
theorem w_laws_toFiber (aZ0 : TFiber) {r : TFiber} (h : M_laws_toFiber aZ0 = some r) : Ok Try.prog 112 [.agg [.i aZ0.A, .i aZ0.B, .i aZ0.Length, .i aZ0.Risk]] ((fun r => .agg [.i r.A, .i r.B, .i r.Length, .i r.Risk]) r) := by
  refine ok_of_body hmix m112 rfl ?_
  unfold M_laws_toFiber at h
  simp only [A112, V112, body_eq]
  cases h
  try simp only [VS1, VS2, VS3, VS4, VS5, VS6, VT1, VT2, finM_ret, finM_nrm, decide_true, decide_false, List.nodup_nil, List.nodup_cons, oks_p, oks_m, oks_h, ne_eq, not_false_eq_true, Int.reduceEq, Int.reduceNe, true_and, Nat.reduceSub, Nat.reduceMul, ↓reduceIte, reduceCtorEq, Nat.reduceEqDiff, Nat.reduceAdd, Nat.reduceLeDiff, Int.reduceLE]
  all_goals simp [qL, qJ, qJ0, qS, qX, qR, qM, Shp, sub, tupd, VS1, VS2, VS3, VS4, VS5, VS6, VT1, VT2, V112]
def S_laws_toFiberSL1 (aZ0 : List TFiber) (v : Int × List TFiber) : St := ⟨[(0, .lst .o 4 (aZ0.map (e_TFiber .o))), (3, .sl 3 0 v.2.length), (4, .i v.1)], [(3, .arr 4 (v.2.map (e_TFiber .u)))]⟩
def SX_laws_toFiberSL1 (v : List TFiber) : St := ⟨[(3, .sl 3 0 v.length)], [(3, .arr 4 (v.map (e_TFiber .u)))]⟩
theorem w_laws_toFiberSL1 (aZ0 : List TFiber) (sZ4 : Int × List TFiber) (o : (Int × List TFiber) ⊕ (List TFiber)) (h : M_laws_toFiberSL1 aZ0 sZ4 = some o) : AWP (OkS Try.prog) A64L1 (qL [0, 3, 4] [3] (S_laws_toFiberSL1 aZ0) (qX 0 [3] [3] (SX_laws_toFiberSL1)) o) (S_laws_toFiberSL1 aZ0 sZ4) := by
  unfold M_laws_toFiberSL1 at h
  simp only [S_laws_toFiberSL1, A64L1]
  refine Or.elim (bt (decide (sZ4.1 < (aZ0.length : Int)))) (fun cZ5 => ?_) (fun cZ5 => ?_)
  · replace h := cond_t cZ5 h
    obtain ⟨yZ6, hyZ6, h⟩ := bind_s h
    obtain ⟨hyZ6a, hyZ6b⟩ := geti_s hyZ6
    obtain ⟨rZ7, hrZ7, h⟩ := bind_s h
    simp only [VS1, VS2, VS3, VS4, VS5, VS6, VT1, VT2, finM_ret, finM_nrm, decide_true, decide_false, List.nodup_nil, List.nodup_cons, oks_p, oks_m, oks_h, ne_eq, not_false_eq_true, Int.reduceEq, Int.reduceNe, true_and, Nat.reduceSub, Nat.reduceMul, ↓reduceIte, reduceCtorEq, Nat.reduceEqDiff, Nat.reduceAdd, Nat.reduceLeDiff, Int.reduceLE, cZ5, hyZ6a, hyZ6b]
    refine call_u (by simp only [VS1, VS2, VS3, VS4, VS5, VS6, VT1, VT2, finM_ret, finM_nrm, decide_true, decide_false, List.nodup_nil, List.nodup_cons, oks_p, oks_m, oks_h, ne_eq, not_false_eq_true, Int.reduceEq, Int.reduceNe, true_and, Nat.reduceSub, Nat.reduceMul, ↓reduceIte, reduceCtorEq, Nat.reduceEqDiff, Nat.reduceAdd, Nat.reduceLeDiff, Int.reduceLE, cZ5, hyZ6a, hyZ6b]; exact w_laws_toFiber _ hrZ7 ) (by simp [AV.allU, allUL, allUL_iff, VT1, VT2]) (by simp only [VS1, VS2, VS3, VS4, VS5, VS6, VT1, VT2, finM_ret, finM_nrm, decide_true, decide_false, List.nodup_nil, List.nodup_cons, oks_p, oks_m, oks_h, ne_eq, not_false_eq_true, Int.reduceEq, Int.reduceNe, true_and, Nat.reduceSub, Nat.reduceMul, ↓reduceIte, reduceCtorEq, Nat.reduceEqDiff, Nat.reduceAdd, Nat.reduceLeDiff, Int.reduceLE, Nat.reduceLT]) ?_
    simp only [VA, VF1, ↓reduceIte, Nat.reduceEqDiff, Nat.reduceAdd, Nat.reduceMul, Nat.reduceSub, Nat.reduceLeDiff]
    obtain ⟨kZ8, hkZ8, h⟩ := bind_s h
    obtain ⟨hkZ8a, hkZ8b⟩ := grd_s hkZ8
    obtain ⟨yZ9, hyZ9, h⟩ := bind_s h
    obtain ⟨lZ10, hlZ10, h⟩ := bnd_s h
    have eZ11 : (sZ4.2.map (e_TFiber .u)).set (Int.toNat sZ4.1) (.agg [.i rZ7.A, .i rZ7.B, .i rZ7.Length, .i rZ7.Risk]) = lZ10.map (e_TFiber .u) := by rw [← hlZ10, List.map_set]; rfl
    cases h
    try simp only [VS1, VS2, VS3, VS4, VS5, VS6, VT1, VT2, finM_ret, finM_nrm, decide_true, decide_false, List.nodup_nil, List.nodup_cons, oks_p, oks_m, oks_h, ne_eq, not_false_eq_true, Int.reduceEq, Int.reduceNe, true_and, Nat.reduceSub, Nat.reduceMul, ↓reduceIte, reduceCtorEq, Nat.reduceEqDiff, Nat.reduceAdd, Nat.reduceLeDiff, Int.reduceLE, cZ5, hyZ6a, hyZ6b, hkZ8a, hkZ8b, hyZ9, eZ11]
    all_goals simp [qL, qJ, qJ0, qS, qX, qR, qM, Shp, sub, tupd, VS1, VS2, VS3, VS4, VS5, VS6, VT1, VT2, S_laws_toFiberSL1, SX_laws_toFiberSL1, ← hlZ10]
  · replace h := cond_f cZ5 h
    cases h
    try simp only [VS1, VS2, VS3, VS4, VS5, VS6, VT1, VT2, finM_ret, finM_nrm, decide_true, decide_false, List.nodup_nil, List.nodup_cons, oks_p, oks_m, oks_h, ne_eq, not_false_eq_true, Int.reduceEq, Int.reduceNe, true_and, Nat.reduceSub, Nat.reduceMul, ↓reduceIte, reduceCtorEq, Nat.reduceEqDiff, Nat.reduceAdd, Nat.reduceLeDiff, Int.reduceLE, cZ5]
    all_goals simp [qL, qJ, qJ0, qS, qX, qR, qM, Shp, sub, tupd, VS1, VS2, VS3, VS4, VS5, VS6, VT1, VT2, S_laws_toFiberSL1, SX_laws_toFiberSL1]
theorem w_laws_toFiberS (aZ0 : List TFiber) {r : List TFiber} (h : M_laws_toFiberS aZ0 = some r) : Ok Try.prog 64 [.lst .o 4 (aZ0.map (e_TFiber .o))] ((fun r => .lst .u 4 (r.map (e_TFiber .u))) r) := by
  refine ok_of_body hmix m64 rfl ?_
  unfold M_laws_toFiberS at h
  simp only [A64, V64, body_eq]
  obtain ⟨uZ1, huZ1, h⟩ := bind_s h
  obtain ⟨huZ11, huZ12, huZ13, huZ14⟩ := grd_s huZ1
  obtain ⟨lZ2, hlZ2, h⟩ := bnd_s h
  have eZ3 : List.replicate (Int.toNat (aZ0.length : Int)) (.agg [.i 0, .i 0, .i 0, .i 0] : AV) = lZ2.map (e_TFiber .u) := by rw [← hlZ2, List.map_replicate]; rfl
  obtain ⟨oZ12, hoZ12, h⟩ := bind_s h
  try simp only [VS1, VS2, VS3, VS4, VS5, VS6, VT1, VT2, finM_ret, finM_nrm, decide_true, decide_false, List.nodup_nil, List.nodup_cons, oks_p, oks_m, oks_h, ne_eq, not_false_eq_true, Int.reduceEq, Int.reduceNe, true_and, Nat.reduceSub, Nat.reduceMul, ↓reduceIte, reduceCtorEq, Nat.reduceEqDiff, Nat.reduceAdd, Nat.reduceLeDiff, Int.reduceLE, huZ11, huZ12, huZ13, huZ14, eZ3]
  refine join_rule0 (blk_rule0 (loop_rule (w_laws_toFiberSL1 aZ0) hoZ12 ?_)) ?_
  · all_goals simp [qL, qJ, qJ0, qS, qX, qR, qM, Shp, sub, tupd, VS1, VS2, VS3, VS4, VS5, VS6, VT1, VT2, S_laws_toFiberSL1, SX_laws_toFiberSL1, ← hlZ2, List.length_replicate]
  · simp only [SX_laws_toFiberSL1, A64R2]
    cases h
    try simp only [VS1, VS2, VS3, VS4, VS5, VS6, VT1, VT2, finM_ret, finM_nrm, decide_true, decide_false, List.nodup_nil, List.nodup_cons, oks_p, oks_m, oks_h, ne_eq, not_false_eq_true, Int.reduceEq, Int.reduceNe, true_and, Nat.reduceSub, Nat.reduceMul, ↓reduceIte, reduceCtorEq, Nat.reduceEqDiff, Nat.reduceAdd, Nat.reduceLeDiff, Int.reduceLE, huZ11, huZ12, huZ13, huZ14, eZ3]
    all_goals simp [qL, qJ, qJ0, qS, qX, qR, qM, Shp, sub, tupd, VS1, VS2, VS3, VS4, VS5, VS6, VT1, VT2, V64]
theorem w_laws_toNetwork (aZ0 : TNetwork) {r : TNetwork} (h : M_laws_toNetwork aZ0 = some r) : Ok Try.prog 18 [.agg [.lst .o 1 (aZ0.Nodes.map AV.z), .lst .o 4 (aZ0.Fibers.map (e_TFiber .o))]] ((fun r => .agg [.lst .u 1 (r.Nodes.map AV.z), .lst .u 4 (r.Fibers.map (e_TFiber .u))]) r) := by
  refine ok_of_body hmix m18 rfl ?_
  unfold M_laws_toNetwork at h
  simp only [A18, V18, body_eq]
  obtain ⟨rZ1, hrZ1, h⟩ := bind_s h
  simp only [VS1, VS2, VS3, VS4, VS5, VS6, VT1, VT2, finM_ret, finM_nrm, decide_true, decide_false, List.nodup_nil, List.nodup_cons, oks_p, oks_m, oks_h, ne_eq, not_false_eq_true, Int.reduceEq, Int.reduceNe, true_and, Nat.reduceSub, Nat.reduceMul, ↓reduceIte, reduceCtorEq, Nat.reduceEqDiff, Nat.reduceAdd, Nat.reduceLeDiff, Int.reduceLE]
  refine call_u (by simp only [VS1, VS2, VS3, VS4, VS5, VS6, VT1, VT2, finM_ret, finM_nrm, decide_true, decide_false, List.nodup_nil, List.nodup_cons, oks_p, oks_m, oks_h, ne_eq, not_false_eq_true, Int.reduceEq, Int.reduceNe, true_and, Nat.reduceSub, Nat.reduceMul, ↓reduceIte, reduceCtorEq, Nat.reduceEqDiff, Nat.reduceAdd, Nat.reduceLeDiff, Int.reduceLE]; exact w_laws_toStringS _ hrZ1 ) (by simp [AV.allU, allUL, allUL_iff, VT1, VT2]) (by simp only [VS1, VS2, VS3, VS4, VS5, VS6, VT1, VT2, finM_ret, finM_nrm, decide_true, decide_false, List.nodup_nil, List.nodup_cons, oks_p, oks_m, oks_h, ne_eq, not_false_eq_true, Int.reduceEq, Int.reduceNe, true_and, Nat.reduceSub, Nat.reduceMul, ↓reduceIte, reduceCtorEq, Nat.reduceEqDiff, Nat.reduceAdd, Nat.reduceLeDiff, Int.reduceLE, Nat.reduceLT]) ?_
  simp only [VA, VF1, ↓reduceIte, Nat.reduceEqDiff, Nat.reduceAdd, Nat.reduceMul, Nat.reduceSub, Nat.reduceLeDiff]
  obtain ⟨rZ2, hrZ2, h⟩ := bind_s h
  simp only [VS1, VS2, VS3, VS4, VS5, VS6, VT1, VT2, finM_ret, finM_nrm, decide_true, decide_false, List.nodup_nil, List.nodup_cons, oks_p, oks_m, oks_h, ne_eq, not_false_eq_true, Int.reduceEq, Int.reduceNe, true_and, Nat.reduceSub, Nat.reduceMul, ↓reduceIte, reduceCtorEq, Nat.reduceEqDiff, Nat.reduceAdd, Nat.reduceLeDiff, Int.reduceLE]
  refine call_u (by simp only [VS1, VS2, VS3, VS4, VS5, VS6, VT1, VT2, finM_ret, finM_nrm, decide_true, decide_false, List.nodup_nil, List.nodup_cons, oks_p, oks_m, oks_h, ne_eq, not_false_eq_true, Int.reduceEq, Int.reduceNe, true_and, Nat.reduceSub, Nat.reduceMul, ↓reduceIte, reduceCtorEq, Nat.reduceEqDiff, Nat.reduceAdd, Nat.reduceLeDiff, Int.reduceLE]; exact w_laws_toFiberS _ hrZ2 ) (by simp [AV.allU, allUL, allUL_iff, VT1, VT2]) (by simp only [VS1, VS2, VS3, VS4, VS5, VS6, VT1, VT2, finM_ret, finM_nrm, decide_true, decide_false, List.nodup_nil, List.nodup_cons, oks_p, oks_m, oks_h, ne_eq, not_false_eq_true, Int.reduceEq, Int.reduceNe, true_and, Nat.reduceSub, Nat.reduceMul, ↓reduceIte, reduceCtorEq, Nat.reduceEqDiff, Nat.reduceAdd, Nat.reduceLeDiff, Int.reduceLE, Nat.reduceLT]) ?_
  simp only [VA, VF1, ↓reduceIte, Nat.reduceEqDiff, Nat.reduceAdd, Nat.reduceMul, Nat.reduceSub, Nat.reduceLeDiff]
  cases h
  try simp only [VS1, VS2, VS3, VS4, VS5, VS6, VT1, VT2, finM_ret, finM_nrm, decide_true, decide_false, List.nodup_nil, List.nodup_cons, oks_p, oks_m, oks_h, ne_eq, not_false_eq_true, Int.reduceEq, Int.reduceNe, true_and, Nat.reduceSub, Nat.reduceMul, ↓reduceIte, reduceCtorEq, Nat.reduceEqDiff, Nat.reduceAdd, Nat.reduceLeDiff, Int.reduceLE]
  all_goals simp [qL, qJ, qJ0, qS, qX, qR, qM, Shp, sub, tupd, VS1, VS2, VS3, VS4, VS5, VS6, VT1, VT2, V18]
def S_laws_toIntSL1 (aZ0 : List Int) (v : Int × List Int) : St := ⟨[(0, .lst .o 1 (aZ0.map AV.i)), (3, .sl 3 0 v.2.length), (4, .i v.1)], [(3, .arr 1 (v.2.map AV.i))]⟩
def SX_laws_toIntSL1 (v : List Int) : St := ⟨[(3, .sl 3 0 v.length)], [(3, .arr 1 (v.map AV.i))]⟩
theorem w_laws_toIntSL1 (aZ0 : List Int) (sZ4 : Int × List Int) (o : (Int × List Int) ⊕ (List Int)) (h : M_laws_toIntSL1 aZ0 sZ4 = some o) : AWP (OkS Try.prog) A26L1 (qL [0, 3, 4] [3] (S_laws_toIntSL1 aZ0) (qX 0 [3] [3] (SX_laws_toIntSL1)) o) (S_laws_toIntSL1 aZ0 sZ4) := by
  unfold M_laws_toIntSL1 at h
  simp only [S_laws_toIntSL1, A26L1]
  refine Or.elim (bt (decide (sZ4.1 < (aZ0.length : Int)))) (fun cZ5 => ?_) (fun cZ5 => ?_)
  · replace h := cond_t cZ5 h
    obtain ⟨yZ6, hyZ6, h⟩ := bind_s h
    obtain ⟨hyZ6a, hyZ6b⟩ := geti_s hyZ6
    obtain ⟨kZ7, hkZ7, h⟩ := bind_s h
    obtain ⟨hkZ7a, hkZ7b⟩ := grd_s hkZ7
    obtain ⟨yZ8, hyZ8, h⟩ := bind_s h
    obtain ⟨lZ9, hlZ9, h⟩ := bnd_s h
    have eZ10 : (sZ4.2.map AV.i).set (Int.toNat sZ4.1) (.i yZ6) = lZ9.map AV.i := by rw [← hlZ9, List.map_set]
    cases h
    try simp only [VS1, VS2, VS3, VS4, VS5, VS6, VT1, VT2, finM_ret, finM_nrm, decide_true, decide_false, List.nodup_nil, List.nodup_cons, oks_p, oks_m, oks_h, ne_eq, not_false_eq_true, Int.reduceEq, Int.reduceNe, true_and, Nat.reduceSub, Nat.reduceMul, ↓reduceIte, reduceCtorEq, Nat.reduceEqDiff, Nat.reduceAdd, Nat.reduceLeDiff, Int.reduceLE, cZ5, hyZ6a, hyZ6b, hkZ7a, hkZ7b, hyZ8, eZ10]
    all_goals simp [qL, qJ, qJ0, qS, qX, qR, qM, Shp, sub, tupd, VS1, VS2, VS3, VS4, VS5, VS6, VT1, VT2, S_laws_toIntSL1, SX_laws_toIntSL1, ← hlZ9]
  · replace h := cond_f cZ5 h
    cases h
    try simp only [VS1, VS2, VS3, VS4, VS5, VS6, VT1, VT2, finM_ret, finM_nrm, decide_true, decide_false, List.nodup_nil, List.nodup_cons, oks_p, oks_m, oks_h, ne_eq, not_false_eq_true, Int.reduceEq, Int.reduceNe, true_and, Nat.reduceSub, Nat.reduceMul, ↓reduceIte, reduceCtorEq, Nat.reduceEqDiff, Nat.reduceAdd, Nat.reduceLeDiff, Int.reduceLE, cZ5]
    all_goals simp [qL, qJ, qJ0, qS, qX, qR, qM, Shp, sub, tupd, VS1, VS2, VS3, VS4, VS5, VS6, VT1, VT2, S_laws_toIntSL1, SX_laws_toIntSL1]
theorem w_laws_toIntS (aZ0 : List Int) {r : List Int} (h : M_laws_toIntS aZ0 = some r) : Ok Try.prog 26 [.lst .o 1 (aZ0.map AV.i)] ((fun r => .lst .u 1 (r.map AV.i)) r) := by
  refine ok_of_body hmix m26 rfl ?_
  unfold M_laws_toIntS at h
  simp only [A26, V26, body_eq]
  obtain ⟨uZ1, huZ1, h⟩ := bind_s h
  obtain ⟨huZ11, huZ12, huZ13, huZ14⟩ := grd_s huZ1
  obtain ⟨lZ2, hlZ2, h⟩ := bnd_s h
  have eZ3 : List.replicate (Int.toNat (aZ0.length : Int)) (.i 0 : AV) = lZ2.map AV.i := by rw [← hlZ2, List.map_replicate]
  obtain ⟨oZ11, hoZ11, h⟩ := bind_s h
  try simp only [VS1, VS2, VS3, VS4, VS5, VS6, VT1, VT2, finM_ret, finM_nrm, decide_true, decide_false, List.nodup_nil, List.nodup_cons, oks_p, oks_m, oks_h, ne_eq, not_false_eq_true, Int.reduceEq, Int.reduceNe, true_and, Nat.reduceSub, Nat.reduceMul, ↓reduceIte, reduceCtorEq, Nat.reduceEqDiff, Nat.reduceAdd, Nat.reduceLeDiff, Int.reduceLE, huZ11, huZ12, huZ13, huZ14, eZ3]
  refine join_rule0 (blk_rule0 (loop_rule (w_laws_toIntSL1 aZ0) hoZ11 ?_)) ?_
  · all_goals simp [qL, qJ, qJ0, qS, qX, qR, qM, Shp, sub, tupd, VS1, VS2, VS3, VS4, VS5, VS6, VT1, VT2, S_laws_toIntSL1, SX_laws_toIntSL1, ← hlZ2, List.length_replicate]
  · simp only [SX_laws_toIntSL1, A26R2]
    cases h
    try simp only [VS1, VS2, VS3, VS4, VS5, VS6, VT1, VT2, finM_ret, finM_nrm, decide_true, decide_false, List.nodup_nil, List.nodup_cons, oks_p, oks_m, oks_h, ne_eq, not_false_eq_true, Int.reduceEq, Int.reduceNe, true_and, Nat.reduceSub, Nat.reduceMul, ↓reduceIte, reduceCtorEq, Nat.reduceEqDiff, Nat.reduceAdd, Nat.reduceLeDiff, Int.reduceLE, huZ11, huZ12, huZ13, huZ14, eZ3]
    all_goals simp [qL, qJ, qJ0, qS, qX, qR, qM, Shp, sub, tupd, VS1, VS2, VS3, VS4, VS5, VS6, VT1, VT2, V26]
theorem w_laws_toOutage (aZ0 : TOutage) {r : TOutage} (h : M_laws_toOutage aZ0 = some r) : Ok Try.prog 19 [.agg [.i aZ0.Unit, .lst .o 1 (aZ0.Down.map AV.i)]] ((fun r => .agg [.i r.Unit, .lst .u 1 (r.Down.map AV.i)]) r) := by
  refine ok_of_body hmix m19 rfl ?_
  unfold M_laws_toOutage at h
  simp only [A19, V19, body_eq]
  obtain ⟨rZ1, hrZ1, h⟩ := bind_s h
  simp only [VS1, VS2, VS3, VS4, VS5, VS6, VT1, VT2, finM_ret, finM_nrm, decide_true, decide_false, List.nodup_nil, List.nodup_cons, oks_p, oks_m, oks_h, ne_eq, not_false_eq_true, Int.reduceEq, Int.reduceNe, true_and, Nat.reduceSub, Nat.reduceMul, ↓reduceIte, reduceCtorEq, Nat.reduceEqDiff, Nat.reduceAdd, Nat.reduceLeDiff, Int.reduceLE]
  refine call_u (by simp only [VS1, VS2, VS3, VS4, VS5, VS6, VT1, VT2, finM_ret, finM_nrm, decide_true, decide_false, List.nodup_nil, List.nodup_cons, oks_p, oks_m, oks_h, ne_eq, not_false_eq_true, Int.reduceEq, Int.reduceNe, true_and, Nat.reduceSub, Nat.reduceMul, ↓reduceIte, reduceCtorEq, Nat.reduceEqDiff, Nat.reduceAdd, Nat.reduceLeDiff, Int.reduceLE]; exact w_laws_toIntS _ hrZ1 ) (by simp [AV.allU, allUL, allUL_iff, VT1, VT2]) (by simp only [VS1, VS2, VS3, VS4, VS5, VS6, VT1, VT2, finM_ret, finM_nrm, decide_true, decide_false, List.nodup_nil, List.nodup_cons, oks_p, oks_m, oks_h, ne_eq, not_false_eq_true, Int.reduceEq, Int.reduceNe, true_and, Nat.reduceSub, Nat.reduceMul, ↓reduceIte, reduceCtorEq, Nat.reduceEqDiff, Nat.reduceAdd, Nat.reduceLeDiff, Int.reduceLE, Nat.reduceLT]) ?_
  simp only [VA, VF1, ↓reduceIte, Nat.reduceEqDiff, Nat.reduceAdd, Nat.reduceMul, Nat.reduceSub, Nat.reduceLeDiff]
  cases h
  try simp only [VS1, VS2, VS3, VS4, VS5, VS6, VT1, VT2, finM_ret, finM_nrm, decide_true, decide_false, List.nodup_nil, List.nodup_cons, oks_p, oks_m, oks_h, ne_eq, not_false_eq_true, Int.reduceEq, Int.reduceNe, true_and, Nat.reduceSub, Nat.reduceMul, ↓reduceIte, reduceCtorEq, Nat.reduceEqDiff, Nat.reduceAdd, Nat.reduceLeDiff, Int.reduceLE]
  all_goals simp [qL, qJ, qJ0, qS, qX, qR, qM, Shp, sub, tupd, VS1, VS2, VS3, VS4, VS5, VS6, VT1, VT2, V19]
theorem w_spec_l1In (xZ0 : Int) (aZ0 : Int) (bZ0 : Int) {r : Bool} (h : M_spec_l1In xZ0 aZ0 bZ0 = some r) : Ok Try.prog 72 [.i xZ0, .i aZ0, .i bZ0] ((fun r => .b r) r) := by
  refine ok_of_body hmix m72 rfl ?_
  unfold M_spec_l1In at h
  simp only [A72, V72, body_eq]
  refine Or.elim (bt (decide (aZ0 ≤ xZ0))) (fun cZ1 => ?_) (fun cZ1 => ?_)
  · replace h := cond_t cZ1 h
    cases h
    try simp only [VS1, VS2, VS3, VS4, VS5, VS6, VT1, VT2, finM_ret, finM_nrm, decide_true, decide_false, List.nodup_nil, List.nodup_cons, oks_p, oks_m, oks_h, ne_eq, not_false_eq_true, Int.reduceEq, Int.reduceNe, true_and, Nat.reduceSub, Nat.reduceMul, ↓reduceIte, reduceCtorEq, Nat.reduceEqDiff, Nat.reduceAdd, Nat.reduceLeDiff, Int.reduceLE, cZ1]
    all_goals simp [qL, qJ, qJ0, qS, qX, qR, qM, Shp, sub, tupd, VS1, VS2, VS3, VS4, VS5, VS6, VT1, VT2, V72]
  · replace h := cond_f cZ1 h
    cases h
    try simp only [VS1, VS2, VS3, VS4, VS5, VS6, VT1, VT2, finM_ret, finM_nrm, decide_true, decide_false, List.nodup_nil, List.nodup_cons, oks_p, oks_m, oks_h, ne_eq, not_false_eq_true, Int.reduceEq, Int.reduceNe, true_and, Nat.reduceSub, Nat.reduceMul, ↓reduceIte, reduceCtorEq, Nat.reduceEqDiff, Nat.reduceAdd, Nat.reduceLeDiff, Int.reduceLE, cZ1]
    all_goals simp [qL, qJ, qJ0, qS, qX, qR, qM, Shp, sub, tupd, VS1, VS2, VS3, VS4, VS5, VS6, VT1, VT2, V72]
theorem w_spec_l2Sign (bZ0 : Int) {r : Bool} (h : M_spec_l2Sign bZ0 = some r) : Ok Try.prog 144 [.sc (.int .u8 bZ0)] ((fun r => .b r) r) := by
  refine ok_of_body hmix m144 rfl ?_
  unfold M_spec_l2Sign at h
  simp only [A144, V144, body_eq]
  refine Or.elim (bt (decide (97 ≤ bZ0))) (fun cZ1 => ?_) (fun cZ1 => ?_)
  · replace h := cond_t cZ1 h
    refine Or.elim (bt (decide (bZ0 ≤ 122))) (fun cZ2 => ?_) (fun cZ2 => ?_)
    · replace h := cond_t cZ2 h
      cases h
      try simp only [VS1, VS2, VS3, VS4, VS5, VS6, VT1, VT2, finM_ret, finM_nrm, decide_true, decide_false, List.nodup_nil, List.nodup_cons, oks_p, oks_m, oks_h, ne_eq, not_false_eq_true, Int.reduceEq, Int.reduceNe, true_and, Nat.reduceSub, Nat.reduceMul, ↓reduceIte, reduceCtorEq, Nat.reduceEqDiff, Nat.reduceAdd, Nat.reduceLeDiff, Int.reduceLE, cZ1, cZ2]
      all_goals simp [qL, qJ, qJ0, qS, qX, qR, qM, Shp, sub, tupd, VS1, VS2, VS3, VS4, VS5, VS6, VT1, VT2, V144]
    · replace h := cond_f cZ2 h
      refine Or.elim (bt (decide (48 ≤ bZ0))) (fun cZ3 => ?_) (fun cZ3 => ?_)
      · replace h := cond_t cZ3 h
        cases h
        try simp only [VS1, VS2, VS3, VS4, VS5, VS6, VT1, VT2, finM_ret, finM_nrm, decide_true, decide_false, List.nodup_nil, List.nodup_cons, oks_p, oks_m, oks_h, ne_eq, not_false_eq_true, Int.reduceEq, Int.reduceNe, true_and, Nat.reduceSub, Nat.reduceMul, ↓reduceIte, reduceCtorEq, Nat.reduceEqDiff, Nat.reduceAdd, Nat.reduceLeDiff, Int.reduceLE, cZ1, cZ2, cZ3]
        all_goals simp [qL, qJ, qJ0, qS, qX, qR, qM, Shp, sub, tupd, VS1, VS2, VS3, VS4, VS5, VS6, VT1, VT2, V144]
      · replace h := cond_f cZ3 h
        cases h
        try simp only [VS1, VS2, VS3, VS4, VS5, VS6, VT1, VT2, finM_ret, finM_nrm, decide_true, decide_false, List.nodup_nil, List.nodup_cons, oks_p, oks_m, oks_h, ne_eq, not_false_eq_true, Int.reduceEq, Int.reduceNe, true_and, Nat.reduceSub, Nat.reduceMul, ↓reduceIte, reduceCtorEq, Nat.reduceEqDiff, Nat.reduceAdd, Nat.reduceLeDiff, Int.reduceLE, cZ1, cZ2, cZ3]
        all_goals simp [qL, qJ, qJ0, qS, qX, qR, qM, Shp, sub, tupd, VS1, VS2, VS3, VS4, VS5, VS6, VT1, VT2, V144]
  · replace h := cond_f cZ1 h
    refine Or.elim (bt (decide (48 ≤ bZ0))) (fun cZ4 => ?_) (fun cZ4 => ?_)
    · replace h := cond_t cZ4 h
      cases h
      try simp only [VS1, VS2, VS3, VS4, VS5, VS6, VT1, VT2, finM_ret, finM_nrm, decide_true, decide_false, List.nodup_nil, List.nodup_cons, oks_p, oks_m, oks_h, ne_eq, not_false_eq_true, Int.reduceEq, Int.reduceNe, true_and, Nat.reduceSub, Nat.reduceMul, ↓reduceIte, reduceCtorEq, Nat.reduceEqDiff, Nat.reduceAdd, Nat.reduceLeDiff, Int.reduceLE, cZ1, cZ4]
      all_goals simp [qL, qJ, qJ0, qS, qX, qR, qM, Shp, sub, tupd, VS1, VS2, VS3, VS4, VS5, VS6, VT1, VT2, V144]
    · replace h := cond_f cZ4 h
      cases h
      try simp only [VS1, VS2, VS3, VS4, VS5, VS6, VT1, VT2, finM_ret, finM_nrm, decide_true, decide_false, List.nodup_nil, List.nodup_cons, oks_p, oks_m, oks_h, ne_eq, not_false_eq_true, Int.reduceEq, Int.reduceNe, true_and, Nat.reduceSub, Nat.reduceMul, ↓reduceIte, reduceCtorEq, Nat.reduceEqDiff, Nat.reduceAdd, Nat.reduceLeDiff, Int.reduceLE, cZ1, cZ4]
      all_goals simp [qL, qJ, qJ0, qS, qX, qR, qM, Shp, sub, tupd, VS1, VS2, VS3, VS4, VS5, VS6, VT1, VT2, V144]
def S_spec_l2NameL1 (sZ0 : ByteArray) (v : Int) : St := ⟨[(0, .z sZ0), (3, .i v)], []⟩
def SX_spec_l2NameL1 (v : Unit) : St := ⟨[], []⟩
theorem w_spec_l2NameL1 (sZ0 : ByteArray) (sZ7 : Int) (o : Int ⊕ (Unit ⊕ Bool)) (h : M_spec_l2NameL1 sZ0 sZ7 = some o) : AWP (OkS Try.prog) A127L2 (qL [0, 3] [] (S_spec_l2NameL1 sZ0) (qS (qX 0 [] [] (SX_spec_l2NameL1)) (qR V127 (fun r => .b r))) o) (S_spec_l2NameL1 sZ0 sZ7) := by
  unfold M_spec_l2NameL1 at h
  simp only [S_spec_l2NameL1, A127L2]
  refine Or.elim (bt (decide (sZ7 < (sZ0.size : Int)))) (fun cZ8 => ?_) (fun cZ8 => ?_)
  · replace h := cond_t cZ8 h
    obtain ⟨yZ9, hyZ9, h⟩ := bind_s h
    obtain ⟨hyZ9a, hyZ9b⟩ := getz_s hyZ9
    obtain ⟨rZ10, hrZ10, h⟩ := bind_s h
    simp only [VS1, VS2, VS3, VS4, VS5, VS6, VT1, VT2, finM_ret, finM_nrm, decide_true, decide_false, List.nodup_nil, List.nodup_cons, oks_p, oks_m, oks_h, ne_eq, not_false_eq_true, Int.reduceEq, Int.reduceNe, true_and, Nat.reduceSub, Nat.reduceMul, ↓reduceIte, reduceCtorEq, Nat.reduceEqDiff, Nat.reduceAdd, Nat.reduceLeDiff, Int.reduceLE, cZ8, hyZ9a, hyZ9b]
    refine call_s (by simp only [VS1, VS2, VS3, VS4, VS5, VS6, VT1, VT2, finM_ret, finM_nrm, decide_true, decide_false, List.nodup_nil, List.nodup_cons, oks_p, oks_m, oks_h, ne_eq, not_false_eq_true, Int.reduceEq, Int.reduceNe, true_and, Nat.reduceSub, Nat.reduceMul, ↓reduceIte, reduceCtorEq, Nat.reduceEqDiff, Nat.reduceAdd, Nat.reduceLeDiff, Int.reduceLE, cZ8, hyZ9a, hyZ9b]; exact w_spec_l2Sign _ hrZ10 ) ?_
    simp only [VA, VF1, ↓reduceIte, Nat.reduceEqDiff, Nat.reduceAdd, Nat.reduceMul, Nat.reduceSub, Nat.reduceLeDiff]
    refine Or.elim (bt (!rZ10)) (fun cZ11 => ?_) (fun cZ11 => ?_)
    · replace h := cond_t cZ11 h
      cases h
      try simp only [VS1, VS2, VS3, VS4, VS5, VS6, VT1, VT2, finM_ret, finM_nrm, decide_true, decide_false, List.nodup_nil, List.nodup_cons, oks_p, oks_m, oks_h, ne_eq, not_false_eq_true, Int.reduceEq, Int.reduceNe, true_and, Nat.reduceSub, Nat.reduceMul, ↓reduceIte, reduceCtorEq, Nat.reduceEqDiff, Nat.reduceAdd, Nat.reduceLeDiff, Int.reduceLE, cZ8, hyZ9a, hyZ9b, cZ11]
      all_goals simp [qL, qJ, qJ0, qS, qX, qR, qM, Shp, sub, tupd, VS1, VS2, VS3, VS4, VS5, VS6, VT1, VT2, V127]
    · replace h := cond_f cZ11 h
      cases h
      try simp only [VS1, VS2, VS3, VS4, VS5, VS6, VT1, VT2, finM_ret, finM_nrm, decide_true, decide_false, List.nodup_nil, List.nodup_cons, oks_p, oks_m, oks_h, ne_eq, not_false_eq_true, Int.reduceEq, Int.reduceNe, true_and, Nat.reduceSub, Nat.reduceMul, ↓reduceIte, reduceCtorEq, Nat.reduceEqDiff, Nat.reduceAdd, Nat.reduceLeDiff, Int.reduceLE, cZ8, hyZ9a, hyZ9b, cZ11]
      all_goals simp [qL, qJ, qJ0, qS, qX, qR, qM, Shp, sub, tupd, VS1, VS2, VS3, VS4, VS5, VS6, VT1, VT2, S_spec_l2NameL1, SX_spec_l2NameL1]
  · replace h := cond_f cZ8 h
    cases h
    try simp only [VS1, VS2, VS3, VS4, VS5, VS6, VT1, VT2, finM_ret, finM_nrm, decide_true, decide_false, List.nodup_nil, List.nodup_cons, oks_p, oks_m, oks_h, ne_eq, not_false_eq_true, Int.reduceEq, Int.reduceNe, true_and, Nat.reduceSub, Nat.reduceMul, ↓reduceIte, reduceCtorEq, Nat.reduceEqDiff, Nat.reduceAdd, Nat.reduceLeDiff, Int.reduceLE, cZ8]
    all_goals simp [qL, qJ, qJ0, qS, qX, qR, qM, Shp, sub, tupd, VS1, VS2, VS3, VS4, VS5, VS6, VT1, VT2, S_spec_l2NameL1, SX_spec_l2NameL1]
theorem w_spec_l2Name (sZ0 : ByteArray) {r : Bool} (h : M_spec_l2Name sZ0 = some r) : Ok Try.prog 127 [.z sZ0] ((fun r => .b r) r) := by
  refine ok_of_body hmix m127 rfl ?_
  unfold M_spec_l2Name at h
  simp only [A127, V127, body_eq]
  obtain ⟨oZ5, hoZ5, h⟩ := bind_s h
  try simp only [VS1, VS2, VS3, VS4, VS5, VS6, VT1, VT2, finM_ret, finM_nrm, decide_true, decide_false, List.nodup_nil, List.nodup_cons, oks_p, oks_m, oks_h, ne_eq, not_false_eq_true, Int.reduceEq, Int.reduceNe, true_and, Nat.reduceSub, Nat.reduceMul, ↓reduceIte, reduceCtorEq, Nat.reduceEqDiff, Nat.reduceAdd, Nat.reduceLeDiff, Int.reduceLE]
  refine join_rule0 (sh := (fun v => ⟨[(0, .z sZ0), (17, .b v)], []⟩)) (s := oZ5) ?_ ?_
  · replace h := hoZ5
    obtain ⟨rZ1, hrZ1, h⟩ := bind_s h
    simp only [VS1, VS2, VS3, VS4, VS5, VS6, VT1, VT2, finM_ret, finM_nrm, decide_true, decide_false, List.nodup_nil, List.nodup_cons, oks_p, oks_m, oks_h, ne_eq, not_false_eq_true, Int.reduceEq, Int.reduceNe, true_and, Nat.reduceSub, Nat.reduceMul, ↓reduceIte, reduceCtorEq, Nat.reduceEqDiff, Nat.reduceAdd, Nat.reduceLeDiff, Int.reduceLE]
    refine call_s (by simp only [VS1, VS2, VS3, VS4, VS5, VS6, VT1, VT2, finM_ret, finM_nrm, decide_true, decide_false, List.nodup_nil, List.nodup_cons, oks_p, oks_m, oks_h, ne_eq, not_false_eq_true, Int.reduceEq, Int.reduceNe, true_and, Nat.reduceSub, Nat.reduceMul, ↓reduceIte, reduceCtorEq, Nat.reduceEqDiff, Nat.reduceAdd, Nat.reduceLeDiff, Int.reduceLE]; exact w_spec_l1In _ _ _ hrZ1 ) ?_
    simp only [VA, VF1, ↓reduceIte, Nat.reduceEqDiff, Nat.reduceAdd, Nat.reduceMul, Nat.reduceSub, Nat.reduceLeDiff]
    refine Or.elim (bt (!rZ1)) (fun cZ2 => ?_) (fun cZ2 => ?_)
    · replace h := cond_t cZ2 h
      cases h
      try simp only [VS1, VS2, VS3, VS4, VS5, VS6, VT1, VT2, finM_ret, finM_nrm, decide_true, decide_false, List.nodup_nil, List.nodup_cons, oks_p, oks_m, oks_h, ne_eq, not_false_eq_true, Int.reduceEq, Int.reduceNe, true_and, Nat.reduceSub, Nat.reduceMul, ↓reduceIte, reduceCtorEq, Nat.reduceEqDiff, Nat.reduceAdd, Nat.reduceLeDiff, Int.reduceLE, cZ2]
      all_goals simp [qL, qJ, qJ0, qS, qX, qR, qM, Shp, sub, tupd, VS1, VS2, VS3, VS4, VS5, VS6, VT1, VT2]
    · replace h := cond_f cZ2 h
      obtain ⟨yZ3, hyZ3, h⟩ := bind_s h
      obtain ⟨hyZ3a, hyZ3b⟩ := getz_s hyZ3
      refine Or.elim (bt (decide ((yZ3.toNat : Int) < 97))) (fun cZ4 => ?_) (fun cZ4 => ?_)
      · replace h := cond_t cZ4 h
        cases h
        try simp only [VS1, VS2, VS3, VS4, VS5, VS6, VT1, VT2, finM_ret, finM_nrm, decide_true, decide_false, List.nodup_nil, List.nodup_cons, oks_p, oks_m, oks_h, ne_eq, not_false_eq_true, Int.reduceEq, Int.reduceNe, true_and, Nat.reduceSub, Nat.reduceMul, ↓reduceIte, reduceCtorEq, Nat.reduceEqDiff, Nat.reduceAdd, Nat.reduceLeDiff, Int.reduceLE, cZ2, hyZ3a, hyZ3b, cZ4]
        all_goals simp [qL, qJ, qJ0, qS, qX, qR, qM, Shp, sub, tupd, VS1, VS2, VS3, VS4, VS5, VS6, VT1, VT2]
      · replace h := cond_f cZ4 h
        cases h
        try simp only [VS1, VS2, VS3, VS4, VS5, VS6, VT1, VT2, finM_ret, finM_nrm, decide_true, decide_false, List.nodup_nil, List.nodup_cons, oks_p, oks_m, oks_h, ne_eq, not_false_eq_true, Int.reduceEq, Int.reduceNe, true_and, Nat.reduceSub, Nat.reduceMul, ↓reduceIte, reduceCtorEq, Nat.reduceEqDiff, Nat.reduceAdd, Nat.reduceLeDiff, Int.reduceLE, cZ2, hyZ3a, hyZ3b, cZ4]
        all_goals simp [qL, qJ, qJ0, qS, qX, qR, qM, Shp, sub, tupd, VS1, VS2, VS3, VS4, VS5, VS6, VT1, VT2]
  · simp only [A127R1]
    refine Or.elim (bt (oZ5)) (fun cZ6 => ?_) (fun cZ6 => ?_)
    · replace h := cond_t cZ6 h
      cases h
      try simp only [VS1, VS2, VS3, VS4, VS5, VS6, VT1, VT2, finM_ret, finM_nrm, decide_true, decide_false, List.nodup_nil, List.nodup_cons, oks_p, oks_m, oks_h, ne_eq, not_false_eq_true, Int.reduceEq, Int.reduceNe, true_and, Nat.reduceSub, Nat.reduceMul, ↓reduceIte, reduceCtorEq, Nat.reduceEqDiff, Nat.reduceAdd, Nat.reduceLeDiff, Int.reduceLE, cZ6]
      all_goals simp [qL, qJ, qJ0, qS, qX, qR, qM, Shp, sub, tupd, VS1, VS2, VS3, VS4, VS5, VS6, VT1, VT2, V127]
    · replace h := cond_f cZ6 h
      obtain ⟨oZ12, hoZ12, h⟩ := bind_s h
      try simp only [VS1, VS2, VS3, VS4, VS5, VS6, VT1, VT2, finM_ret, finM_nrm, decide_true, decide_false, List.nodup_nil, List.nodup_cons, oks_p, oks_m, oks_h, ne_eq, not_false_eq_true, Int.reduceEq, Int.reduceNe, true_and, Nat.reduceSub, Nat.reduceMul, ↓reduceIte, reduceCtorEq, Nat.reduceEqDiff, Nat.reduceAdd, Nat.reduceLeDiff, Int.reduceLE, cZ6]
      refine join_rule (o := oZ12) (blk_rule sideR (loop_rule (w_spec_l2NameL1 sZ0) hoZ12 ?_)) (fun vZ13 hv => ?_) (fun xZ14 hv e τ hne hq => ?_)
      · all_goals simp [qL, qJ, qJ0, qS, qX, qR, qM, Shp, sub, tupd, VS1, VS2, VS3, VS4, VS5, VS6, VT1, VT2, S_spec_l2NameL1, SX_spec_l2NameL1]
      · subst hv
        simp only [] at h
        simp only [SX_spec_l2NameL1, A127R3]
        cases h
        try simp only [VS1, VS2, VS3, VS4, VS5, VS6, VT1, VT2, finM_ret, finM_nrm, decide_true, decide_false, List.nodup_nil, List.nodup_cons, oks_p, oks_m, oks_h, ne_eq, not_false_eq_true, Int.reduceEq, Int.reduceNe, true_and, Nat.reduceSub, Nat.reduceMul, ↓reduceIte, reduceCtorEq, Nat.reduceEqDiff, Nat.reduceAdd, Nat.reduceLeDiff, Int.reduceLE, cZ6]
        all_goals simp [qL, qJ, qJ0, qS, qX, qR, qM, Shp, sub, tupd, VS1, VS2, VS3, VS4, VS5, VS6, VT1, VT2, V127]
      · subst hv
        simp only [] at h
        obtain ⟨rfl, qZ15⟩ := hq
        cases h
        exact qZ15
def S_spec_l2FindL1 (listZ0 : List ByteArray) (nameZ0 : ByteArray) (v : Int) : St := ⟨[(0, .lst .o 1 (listZ0.map AV.z)), (1, .z nameZ0), (5, .i v)], []⟩
def SX_spec_l2FindL1 (v : Unit) : St := ⟨[], []⟩
theorem w_spec_l2FindL1 (listZ0 : List ByteArray) (nameZ0 : ByteArray) (sZ1 : Int) (o : Int ⊕ (Unit ⊕ Int)) (h : M_spec_l2FindL1 listZ0 nameZ0 sZ1 = some o) : AWP (OkS Try.prog) A128L1 (qL [0, 1, 5] [] (S_spec_l2FindL1 listZ0 nameZ0) (qS (qX 0 [] [] (SX_spec_l2FindL1)) (qR V128 (fun r => .i r))) o) (S_spec_l2FindL1 listZ0 nameZ0 sZ1) := by
  unfold M_spec_l2FindL1 at h
  simp only [S_spec_l2FindL1, A128L1]
  refine Or.elim (bt (decide (sZ1 < (listZ0.length : Int)))) (fun cZ2 => ?_) (fun cZ2 => ?_)
  · replace h := cond_t cZ2 h
    obtain ⟨yZ3, hyZ3, h⟩ := bind_s h
    obtain ⟨hyZ3a, hyZ3b⟩ := geti_s hyZ3
    refine Or.elim (bt (yZ3.toList == nameZ0.toList)) (fun cZ4 => ?_) (fun cZ4 => ?_)
    · replace h := cond_t cZ4 h
      cases h
      try simp only [VS1, VS2, VS3, VS4, VS5, VS6, VT1, VT2, finM_ret, finM_nrm, decide_true, decide_false, List.nodup_nil, List.nodup_cons, oks_p, oks_m, oks_h, ne_eq, not_false_eq_true, Int.reduceEq, Int.reduceNe, true_and, Nat.reduceSub, Nat.reduceMul, ↓reduceIte, reduceCtorEq, Nat.reduceEqDiff, Nat.reduceAdd, Nat.reduceLeDiff, Int.reduceLE, cZ2, hyZ3a, hyZ3b, cZ4]
      all_goals simp [qL, qJ, qJ0, qS, qX, qR, qM, Shp, sub, tupd, VS1, VS2, VS3, VS4, VS5, VS6, VT1, VT2, V128]
    · replace h := cond_f cZ4 h
      cases h
      try simp only [VS1, VS2, VS3, VS4, VS5, VS6, VT1, VT2, finM_ret, finM_nrm, decide_true, decide_false, List.nodup_nil, List.nodup_cons, oks_p, oks_m, oks_h, ne_eq, not_false_eq_true, Int.reduceEq, Int.reduceNe, true_and, Nat.reduceSub, Nat.reduceMul, ↓reduceIte, reduceCtorEq, Nat.reduceEqDiff, Nat.reduceAdd, Nat.reduceLeDiff, Int.reduceLE, cZ2, hyZ3a, hyZ3b, cZ4]
      all_goals simp [qL, qJ, qJ0, qS, qX, qR, qM, Shp, sub, tupd, VS1, VS2, VS3, VS4, VS5, VS6, VT1, VT2, S_spec_l2FindL1, SX_spec_l2FindL1]
  · replace h := cond_f cZ2 h
    cases h
    try simp only [VS1, VS2, VS3, VS4, VS5, VS6, VT1, VT2, finM_ret, finM_nrm, decide_true, decide_false, List.nodup_nil, List.nodup_cons, oks_p, oks_m, oks_h, ne_eq, not_false_eq_true, Int.reduceEq, Int.reduceNe, true_and, Nat.reduceSub, Nat.reduceMul, ↓reduceIte, reduceCtorEq, Nat.reduceEqDiff, Nat.reduceAdd, Nat.reduceLeDiff, Int.reduceLE, cZ2]
    all_goals simp [qL, qJ, qJ0, qS, qX, qR, qM, Shp, sub, tupd, VS1, VS2, VS3, VS4, VS5, VS6, VT1, VT2, S_spec_l2FindL1, SX_spec_l2FindL1]
theorem w_spec_l2Find (listZ0 : List ByteArray) (nameZ0 : ByteArray) {r : Int} (h : M_spec_l2Find listZ0 nameZ0 = some r) : Ok Try.prog 128 [.lst .o 1 (listZ0.map AV.z), .z nameZ0] ((fun r => .i r) r) := by
  refine ok_of_body hmix m128 rfl ?_
  unfold M_spec_l2Find at h
  simp only [A128, V128, body_eq]
  obtain ⟨oZ5, hoZ5, h⟩ := bind_s h
  try simp only [VS1, VS2, VS3, VS4, VS5, VS6, VT1, VT2, finM_ret, finM_nrm, decide_true, decide_false, List.nodup_nil, List.nodup_cons, oks_p, oks_m, oks_h, ne_eq, not_false_eq_true, Int.reduceEq, Int.reduceNe, true_and, Nat.reduceSub, Nat.reduceMul, ↓reduceIte, reduceCtorEq, Nat.reduceEqDiff, Nat.reduceAdd, Nat.reduceLeDiff, Int.reduceLE]
  refine join_rule (o := oZ5) (blk_rule sideR (loop_rule (w_spec_l2FindL1 listZ0 nameZ0) hoZ5 ?_)) (fun vZ6 hv => ?_) (fun xZ7 hv e τ hne hq => ?_)
  · all_goals simp [qL, qJ, qJ0, qS, qX, qR, qM, Shp, sub, tupd, VS1, VS2, VS3, VS4, VS5, VS6, VT1, VT2, S_spec_l2FindL1, SX_spec_l2FindL1]
  · subst hv
    simp only [] at h
    simp only [SX_spec_l2FindL1, A128R2]
    cases h
    try simp only [VS1, VS2, VS3, VS4, VS5, VS6, VT1, VT2, finM_ret, finM_nrm, decide_true, decide_false, List.nodup_nil, List.nodup_cons, oks_p, oks_m, oks_h, ne_eq, not_false_eq_true, Int.reduceEq, Int.reduceNe, true_and, Nat.reduceSub, Nat.reduceMul, ↓reduceIte, reduceCtorEq, Nat.reduceEqDiff, Nat.reduceAdd, Nat.reduceLeDiff, Int.reduceLE]
    all_goals simp [qL, qJ, qJ0, qS, qX, qR, qM, Shp, sub, tupd, VS1, VS2, VS3, VS4, VS5, VS6, VT1, VT2, V128]
  · subst hv
    simp only [] at h
    obtain ⟨rfl, qZ8⟩ := hq
    cases h
    exact qZ8
theorem w_spec_l2Fiber (fZ0 : TFiber) (nodesZ0 : Int) {r : Bool} (h : M_spec_l2Fiber fZ0 nodesZ0 = some r) : Ok Try.prog 129 [.agg [.i fZ0.A, .i fZ0.B, .i fZ0.Length, .i fZ0.Risk], .i nodesZ0] ((fun r => .b r) r) := by
  refine ok_of_body hmix m129 rfl ?_
  unfold M_spec_l2Fiber at h
  simp only [A129, V129, body_eq]
  obtain ⟨rZ1, hrZ1, h⟩ := bind_s h
  simp only [VS1, VS2, VS3, VS4, VS5, VS6, VT1, VT2, finM_ret, finM_nrm, decide_true, decide_false, List.nodup_nil, List.nodup_cons, oks_p, oks_m, oks_h, ne_eq, not_false_eq_true, Int.reduceEq, Int.reduceNe, true_and, Nat.reduceSub, Nat.reduceMul, ↓reduceIte, reduceCtorEq, Nat.reduceEqDiff, Nat.reduceAdd, Nat.reduceLeDiff, Int.reduceLE]
  refine call_s (by simp only [VS1, VS2, VS3, VS4, VS5, VS6, VT1, VT2, finM_ret, finM_nrm, decide_true, decide_false, List.nodup_nil, List.nodup_cons, oks_p, oks_m, oks_h, ne_eq, not_false_eq_true, Int.reduceEq, Int.reduceNe, true_and, Nat.reduceSub, Nat.reduceMul, ↓reduceIte, reduceCtorEq, Nat.reduceEqDiff, Nat.reduceAdd, Nat.reduceLeDiff, Int.reduceLE]; exact w_spec_l1In _ _ _ hrZ1 ) ?_
  simp only [VA, VF1, ↓reduceIte, Nat.reduceEqDiff, Nat.reduceAdd, Nat.reduceMul, Nat.reduceSub, Nat.reduceLeDiff]
  refine Or.elim (bt (rZ1)) (fun cZ2 => ?_) (fun cZ2 => ?_)
  · replace h := cond_t cZ2 h
    obtain ⟨rZ3, hrZ3, h⟩ := bind_s h
    simp only [VS1, VS2, VS3, VS4, VS5, VS6, VT1, VT2, finM_ret, finM_nrm, decide_true, decide_false, List.nodup_nil, List.nodup_cons, oks_p, oks_m, oks_h, ne_eq, not_false_eq_true, Int.reduceEq, Int.reduceNe, true_and, Nat.reduceSub, Nat.reduceMul, ↓reduceIte, reduceCtorEq, Nat.reduceEqDiff, Nat.reduceAdd, Nat.reduceLeDiff, Int.reduceLE, cZ2]
    refine call_s (by simp only [VS1, VS2, VS3, VS4, VS5, VS6, VT1, VT2, finM_ret, finM_nrm, decide_true, decide_false, List.nodup_nil, List.nodup_cons, oks_p, oks_m, oks_h, ne_eq, not_false_eq_true, Int.reduceEq, Int.reduceNe, true_and, Nat.reduceSub, Nat.reduceMul, ↓reduceIte, reduceCtorEq, Nat.reduceEqDiff, Nat.reduceAdd, Nat.reduceLeDiff, Int.reduceLE, cZ2]; exact w_spec_l1In _ _ _ hrZ3 ) ?_
    simp only [VA, VF1, ↓reduceIte, Nat.reduceEqDiff, Nat.reduceAdd, Nat.reduceMul, Nat.reduceSub, Nat.reduceLeDiff]
    refine Or.elim (bt (rZ3)) (fun cZ4 => ?_) (fun cZ4 => ?_)
    · replace h := cond_t cZ4 h
      obtain ⟨rZ5, hrZ5, h⟩ := bind_s h
      simp only [VS1, VS2, VS3, VS4, VS5, VS6, VT1, VT2, finM_ret, finM_nrm, decide_true, decide_false, List.nodup_nil, List.nodup_cons, oks_p, oks_m, oks_h, ne_eq, not_false_eq_true, Int.reduceEq, Int.reduceNe, true_and, Nat.reduceSub, Nat.reduceMul, ↓reduceIte, reduceCtorEq, Nat.reduceEqDiff, Nat.reduceAdd, Nat.reduceLeDiff, Int.reduceLE, cZ2, cZ4]
      refine call_s (by simp only [VS1, VS2, VS3, VS4, VS5, VS6, VT1, VT2, finM_ret, finM_nrm, decide_true, decide_false, List.nodup_nil, List.nodup_cons, oks_p, oks_m, oks_h, ne_eq, not_false_eq_true, Int.reduceEq, Int.reduceNe, true_and, Nat.reduceSub, Nat.reduceMul, ↓reduceIte, reduceCtorEq, Nat.reduceEqDiff, Nat.reduceAdd, Nat.reduceLeDiff, Int.reduceLE, cZ2, cZ4]; exact w_spec_l1In _ _ _ hrZ5 ) ?_
      simp only [VA, VF1, ↓reduceIte, Nat.reduceEqDiff, Nat.reduceAdd, Nat.reduceMul, Nat.reduceSub, Nat.reduceLeDiff]
      refine Or.elim (bt (rZ5)) (fun cZ6 => ?_) (fun cZ6 => ?_)
      · replace h := cond_t cZ6 h
        obtain ⟨rZ7, hrZ7, h⟩ := bind_s h
        simp only [VS1, VS2, VS3, VS4, VS5, VS6, VT1, VT2, finM_ret, finM_nrm, decide_true, decide_false, List.nodup_nil, List.nodup_cons, oks_p, oks_m, oks_h, ne_eq, not_false_eq_true, Int.reduceEq, Int.reduceNe, true_and, Nat.reduceSub, Nat.reduceMul, ↓reduceIte, reduceCtorEq, Nat.reduceEqDiff, Nat.reduceAdd, Nat.reduceLeDiff, Int.reduceLE, cZ2, cZ4, cZ6]
        refine call_s (by simp only [VS1, VS2, VS3, VS4, VS5, VS6, VT1, VT2, finM_ret, finM_nrm, decide_true, decide_false, List.nodup_nil, List.nodup_cons, oks_p, oks_m, oks_h, ne_eq, not_false_eq_true, Int.reduceEq, Int.reduceNe, true_and, Nat.reduceSub, Nat.reduceMul, ↓reduceIte, reduceCtorEq, Nat.reduceEqDiff, Nat.reduceAdd, Nat.reduceLeDiff, Int.reduceLE, cZ2, cZ4, cZ6]; exact w_spec_l1In _ _ _ hrZ7 ) ?_
        simp only [VA, VF1, ↓reduceIte, Nat.reduceEqDiff, Nat.reduceAdd, Nat.reduceMul, Nat.reduceSub, Nat.reduceLeDiff]
        cases h
        try simp only [VS1, VS2, VS3, VS4, VS5, VS6, VT1, VT2, finM_ret, finM_nrm, decide_true, decide_false, List.nodup_nil, List.nodup_cons, oks_p, oks_m, oks_h, ne_eq, not_false_eq_true, Int.reduceEq, Int.reduceNe, true_and, Nat.reduceSub, Nat.reduceMul, ↓reduceIte, reduceCtorEq, Nat.reduceEqDiff, Nat.reduceAdd, Nat.reduceLeDiff, Int.reduceLE, cZ2, cZ4, cZ6]
        all_goals simp [qL, qJ, qJ0, qS, qX, qR, qM, Shp, sub, tupd, VS1, VS2, VS3, VS4, VS5, VS6, VT1, VT2, V129]
      · replace h := cond_f cZ6 h
        cases h
        try simp only [VS1, VS2, VS3, VS4, VS5, VS6, VT1, VT2, finM_ret, finM_nrm, decide_true, decide_false, List.nodup_nil, List.nodup_cons, oks_p, oks_m, oks_h, ne_eq, not_false_eq_true, Int.reduceEq, Int.reduceNe, true_and, Nat.reduceSub, Nat.reduceMul, ↓reduceIte, reduceCtorEq, Nat.reduceEqDiff, Nat.reduceAdd, Nat.reduceLeDiff, Int.reduceLE, cZ2, cZ4, cZ6]
        all_goals simp [qL, qJ, qJ0, qS, qX, qR, qM, Shp, sub, tupd, VS1, VS2, VS3, VS4, VS5, VS6, VT1, VT2, V129]
    · replace h := cond_f cZ4 h
      cases h
      try simp only [VS1, VS2, VS3, VS4, VS5, VS6, VT1, VT2, finM_ret, finM_nrm, decide_true, decide_false, List.nodup_nil, List.nodup_cons, oks_p, oks_m, oks_h, ne_eq, not_false_eq_true, Int.reduceEq, Int.reduceNe, true_and, Nat.reduceSub, Nat.reduceMul, ↓reduceIte, reduceCtorEq, Nat.reduceEqDiff, Nat.reduceAdd, Nat.reduceLeDiff, Int.reduceLE, cZ2, cZ4]
      all_goals simp [qL, qJ, qJ0, qS, qX, qR, qM, Shp, sub, tupd, VS1, VS2, VS3, VS4, VS5, VS6, VT1, VT2, V129]
  · replace h := cond_f cZ2 h
    cases h
    try simp only [VS1, VS2, VS3, VS4, VS5, VS6, VT1, VT2, finM_ret, finM_nrm, decide_true, decide_false, List.nodup_nil, List.nodup_cons, oks_p, oks_m, oks_h, ne_eq, not_false_eq_true, Int.reduceEq, Int.reduceNe, true_and, Nat.reduceSub, Nat.reduceMul, ↓reduceIte, reduceCtorEq, Nat.reduceEqDiff, Nat.reduceAdd, Nat.reduceLeDiff, Int.reduceLE, cZ2]
    all_goals simp [qL, qJ, qJ0, qS, qX, qR, qM, Shp, sub, tupd, VS1, VS2, VS3, VS4, VS5, VS6, VT1, VT2, V129]
theorem w_spec_l2Before (fZ0 : TFiber) (gZ0 : TFiber) {r : Int} (h : M_spec_l2Before fZ0 gZ0 = some r) : Ok Try.prog 130 [.agg [.i fZ0.A, .i fZ0.B, .i fZ0.Length, .i fZ0.Risk], .agg [.i gZ0.A, .i gZ0.B, .i gZ0.Length, .i gZ0.Risk]] ((fun r => .i r) r) := by
  refine ok_of_body hmix m130 rfl ?_
  unfold M_spec_l2Before at h
  simp only [A130, V130, body_eq]
  refine Or.elim (bt (fZ0.A != gZ0.A)) (fun cZ1 => ?_) (fun cZ1 => ?_)
  · replace h := cond_t cZ1 h
    cases h
    try simp only [VS1, VS2, VS3, VS4, VS5, VS6, VT1, VT2, finM_ret, finM_nrm, decide_true, decide_false, List.nodup_nil, List.nodup_cons, oks_p, oks_m, oks_h, ne_eq, not_false_eq_true, Int.reduceEq, Int.reduceNe, true_and, Nat.reduceSub, Nat.reduceMul, ↓reduceIte, reduceCtorEq, Nat.reduceEqDiff, Nat.reduceAdd, Nat.reduceLeDiff, Int.reduceLE, cZ1]
    all_goals simp [qL, qJ, qJ0, qS, qX, qR, qM, Shp, sub, tupd, VS1, VS2, VS3, VS4, VS5, VS6, VT1, VT2, V130]
  · replace h := cond_f cZ1 h
    refine Or.elim (bt (fZ0.B != gZ0.B)) (fun cZ2 => ?_) (fun cZ2 => ?_)
    · replace h := cond_t cZ2 h
      cases h
      try simp only [VS1, VS2, VS3, VS4, VS5, VS6, VT1, VT2, finM_ret, finM_nrm, decide_true, decide_false, List.nodup_nil, List.nodup_cons, oks_p, oks_m, oks_h, ne_eq, not_false_eq_true, Int.reduceEq, Int.reduceNe, true_and, Nat.reduceSub, Nat.reduceMul, ↓reduceIte, reduceCtorEq, Nat.reduceEqDiff, Nat.reduceAdd, Nat.reduceLeDiff, Int.reduceLE, cZ1, cZ2]
      all_goals simp [qL, qJ, qJ0, qS, qX, qR, qM, Shp, sub, tupd, VS1, VS2, VS3, VS4, VS5, VS6, VT1, VT2, V130]
    · replace h := cond_f cZ2 h
      refine Or.elim (bt (fZ0.Length != gZ0.Length)) (fun cZ3 => ?_) (fun cZ3 => ?_)
      · replace h := cond_t cZ3 h
        cases h
        try simp only [VS1, VS2, VS3, VS4, VS5, VS6, VT1, VT2, finM_ret, finM_nrm, decide_true, decide_false, List.nodup_nil, List.nodup_cons, oks_p, oks_m, oks_h, ne_eq, not_false_eq_true, Int.reduceEq, Int.reduceNe, true_and, Nat.reduceSub, Nat.reduceMul, ↓reduceIte, reduceCtorEq, Nat.reduceEqDiff, Nat.reduceAdd, Nat.reduceLeDiff, Int.reduceLE, cZ1, cZ2, cZ3]
        all_goals simp [qL, qJ, qJ0, qS, qX, qR, qM, Shp, sub, tupd, VS1, VS2, VS3, VS4, VS5, VS6, VT1, VT2, V130]
      · replace h := cond_f cZ3 h
        cases h
        try simp only [VS1, VS2, VS3, VS4, VS5, VS6, VT1, VT2, finM_ret, finM_nrm, decide_true, decide_false, List.nodup_nil, List.nodup_cons, oks_p, oks_m, oks_h, ne_eq, not_false_eq_true, Int.reduceEq, Int.reduceNe, true_and, Nat.reduceSub, Nat.reduceMul, ↓reduceIte, reduceCtorEq, Nat.reduceEqDiff, Nat.reduceAdd, Nat.reduceLeDiff, Int.reduceLE, cZ1, cZ2, cZ3]
        all_goals simp [qL, qJ, qJ0, qS, qX, qR, qM, Shp, sub, tupd, VS1, VS2, VS3, VS4, VS5, VS6, VT1, VT2, V130]
def S_spec_l2GoodL1 (nZ0 : TNetwork) (v : Int) : St := ⟨[(1, .pt 1 0 0), (3, .i v)], [(1, .var (.agg [.lst .o 1 (nZ0.Nodes.map AV.z), .lst .o 4 (nZ0.Fibers.map (e_TFiber .o))]))]⟩
def SX_spec_l2GoodL1 (nZ0 : TNetwork) (v : Unit) : St := ⟨[(1, .pt 1 0 0)], [(1, .var (.agg [.lst .o 1 (nZ0.Nodes.map AV.z), .lst .o 4 (nZ0.Fibers.map (e_TFiber .o))]))]⟩
theorem w_spec_l2GoodL1 (nZ0 : TNetwork) (sZ5 : Int) (o : Int ⊕ (Unit ⊕ Bool)) (h : M_spec_l2GoodL1 nZ0 sZ5 = some o) : AWP (OkS Try.prog) A98L3 (qL [1, 3] [1] (S_spec_l2GoodL1 nZ0) (qS (qX 0 [1] [1] (SX_spec_l2GoodL1 nZ0)) (qR V98 (fun r => .b r))) o) (S_spec_l2GoodL1 nZ0 sZ5) := by
  unfold M_spec_l2GoodL1 at h
  simp only [S_spec_l2GoodL1, A98L3]
  refine Or.elim (bt (decide (sZ5 < (nZ0.Nodes.length : Int)))) (fun cZ6 => ?_) (fun cZ6 => ?_)
  · replace h := cond_t cZ6 h
    obtain ⟨oZ11, hoZ11, h⟩ := bind_s h
    try simp only [VS1, VS2, VS3, VS4, VS5, VS6, VT1, VT2, finM_ret, finM_nrm, decide_true, decide_false, List.nodup_nil, List.nodup_cons, oks_p, oks_m, oks_h, ne_eq, not_false_eq_true, Int.reduceEq, Int.reduceNe, true_and, Nat.reduceSub, Nat.reduceMul, ↓reduceIte, reduceCtorEq, Nat.reduceEqDiff, Nat.reduceAdd, Nat.reduceLeDiff, Int.reduceLE, cZ6]
    refine join_rule0 (sh := (fun v => ⟨[(1, .pt 1 0 0), (3, .i sZ5), (41, .b v)], [(1, .var (.agg [.lst .o 1 (nZ0.Nodes.map AV.z), .lst .o 4 (nZ0.Fibers.map (e_TFiber .o))]))]⟩)) (s := oZ11) ?_ ?_
    · replace h := hoZ11
      obtain ⟨yZ7, hyZ7, h⟩ := bind_s h
      obtain ⟨hyZ7a, hyZ7b⟩ := geti_s hyZ7
      obtain ⟨rZ8, hrZ8, h⟩ := bind_s h
      simp only [VS1, VS2, VS3, VS4, VS5, VS6, VT1, VT2, finM_ret, finM_nrm, decide_true, decide_false, List.nodup_nil, List.nodup_cons, oks_p, oks_m, oks_h, ne_eq, not_false_eq_true, Int.reduceEq, Int.reduceNe, true_and, Nat.reduceSub, Nat.reduceMul, ↓reduceIte, reduceCtorEq, Nat.reduceEqDiff, Nat.reduceAdd, Nat.reduceLeDiff, Int.reduceLE, cZ6, hyZ7a, hyZ7b]
      refine call_s (by simp only [VS1, VS2, VS3, VS4, VS5, VS6, VT1, VT2, finM_ret, finM_nrm, decide_true, decide_false, List.nodup_nil, List.nodup_cons, oks_p, oks_m, oks_h, ne_eq, not_false_eq_true, Int.reduceEq, Int.reduceNe, true_and, Nat.reduceSub, Nat.reduceMul, ↓reduceIte, reduceCtorEq, Nat.reduceEqDiff, Nat.reduceAdd, Nat.reduceLeDiff, Int.reduceLE, cZ6, hyZ7a, hyZ7b]; exact w_spec_l2Name _ hrZ8 ) ?_
      simp only [VA, VF1, ↓reduceIte, Nat.reduceEqDiff, Nat.reduceAdd, Nat.reduceMul, Nat.reduceSub, Nat.reduceLeDiff]
      refine Or.elim (bt (!rZ8)) (fun cZ9 => ?_) (fun cZ9 => ?_)
      · replace h := cond_t cZ9 h
        cases h
        try simp only [VS1, VS2, VS3, VS4, VS5, VS6, VT1, VT2, finM_ret, finM_nrm, decide_true, decide_false, List.nodup_nil, List.nodup_cons, oks_p, oks_m, oks_h, ne_eq, not_false_eq_true, Int.reduceEq, Int.reduceNe, true_and, Nat.reduceSub, Nat.reduceMul, ↓reduceIte, reduceCtorEq, Nat.reduceEqDiff, Nat.reduceAdd, Nat.reduceLeDiff, Int.reduceLE, cZ6, hyZ7a, hyZ7b, cZ9]
        all_goals simp [qL, qJ, qJ0, qS, qX, qR, qM, Shp, sub, tupd, VS1, VS2, VS3, VS4, VS5, VS6, VT1, VT2]
      · replace h := cond_f cZ9 h
        obtain ⟨rZ10, hrZ10, h⟩ := bind_s h
        simp only [VS1, VS2, VS3, VS4, VS5, VS6, VT1, VT2, finM_ret, finM_nrm, decide_true, decide_false, List.nodup_nil, List.nodup_cons, oks_p, oks_m, oks_h, ne_eq, not_false_eq_true, Int.reduceEq, Int.reduceNe, true_and, Nat.reduceSub, Nat.reduceMul, ↓reduceIte, reduceCtorEq, Nat.reduceEqDiff, Nat.reduceAdd, Nat.reduceLeDiff, Int.reduceLE, cZ6, hyZ7a, hyZ7b, cZ9]
        refine call_s (by simp only [VS1, VS2, VS3, VS4, VS5, VS6, VT1, VT2, finM_ret, finM_nrm, decide_true, decide_false, List.nodup_nil, List.nodup_cons, oks_p, oks_m, oks_h, ne_eq, not_false_eq_true, Int.reduceEq, Int.reduceNe, true_and, Nat.reduceSub, Nat.reduceMul, ↓reduceIte, reduceCtorEq, Nat.reduceEqDiff, Nat.reduceAdd, Nat.reduceLeDiff, Int.reduceLE, cZ6, hyZ7a, hyZ7b, cZ9]; exact w_spec_l2Find _ _ hrZ10 ) ?_
        simp only [VA, VF1, ↓reduceIte, Nat.reduceEqDiff, Nat.reduceAdd, Nat.reduceMul, Nat.reduceSub, Nat.reduceLeDiff]
        cases h
        try simp only [VS1, VS2, VS3, VS4, VS5, VS6, VT1, VT2, finM_ret, finM_nrm, decide_true, decide_false, List.nodup_nil, List.nodup_cons, oks_p, oks_m, oks_h, ne_eq, not_false_eq_true, Int.reduceEq, Int.reduceNe, true_and, Nat.reduceSub, Nat.reduceMul, ↓reduceIte, reduceCtorEq, Nat.reduceEqDiff, Nat.reduceAdd, Nat.reduceLeDiff, Int.reduceLE, cZ6, hyZ7a, hyZ7b, cZ9]
        all_goals simp [qL, qJ, qJ0, qS, qX, qR, qM, Shp, sub, tupd, VS1, VS2, VS3, VS4, VS5, VS6, VT1, VT2]
    · simp only [A98R2]
      refine Or.elim (bt (oZ11)) (fun cZ12 => ?_) (fun cZ12 => ?_)
      · replace h := cond_t cZ12 h
        cases h
        try simp only [VS1, VS2, VS3, VS4, VS5, VS6, VT1, VT2, finM_ret, finM_nrm, decide_true, decide_false, List.nodup_nil, List.nodup_cons, oks_p, oks_m, oks_h, ne_eq, not_false_eq_true, Int.reduceEq, Int.reduceNe, true_and, Nat.reduceSub, Nat.reduceMul, ↓reduceIte, reduceCtorEq, Nat.reduceEqDiff, Nat.reduceAdd, Nat.reduceLeDiff, Int.reduceLE, cZ6, cZ12]
        all_goals simp [qL, qJ, qJ0, qS, qX, qR, qM, Shp, sub, tupd, VS1, VS2, VS3, VS4, VS5, VS6, VT1, VT2, V98]
      · replace h := cond_f cZ12 h
        cases h
        try simp only [VS1, VS2, VS3, VS4, VS5, VS6, VT1, VT2, finM_ret, finM_nrm, decide_true, decide_false, List.nodup_nil, List.nodup_cons, oks_p, oks_m, oks_h, ne_eq, not_false_eq_true, Int.reduceEq, Int.reduceNe, true_and, Nat.reduceSub, Nat.reduceMul, ↓reduceIte, reduceCtorEq, Nat.reduceEqDiff, Nat.reduceAdd, Nat.reduceLeDiff, Int.reduceLE, cZ6, cZ12]
        all_goals simp [qL, qJ, qJ0, qS, qX, qR, qM, Shp, sub, tupd, VS1, VS2, VS3, VS4, VS5, VS6, VT1, VT2, S_spec_l2GoodL1, SX_spec_l2GoodL1]
  · replace h := cond_f cZ6 h
    cases h
    try simp only [VS1, VS2, VS3, VS4, VS5, VS6, VT1, VT2, finM_ret, finM_nrm, decide_true, decide_false, List.nodup_nil, List.nodup_cons, oks_p, oks_m, oks_h, ne_eq, not_false_eq_true, Int.reduceEq, Int.reduceNe, true_and, Nat.reduceSub, Nat.reduceMul, ↓reduceIte, reduceCtorEq, Nat.reduceEqDiff, Nat.reduceAdd, Nat.reduceLeDiff, Int.reduceLE, cZ6]
    all_goals simp [qL, qJ, qJ0, qS, qX, qR, qM, Shp, sub, tupd, VS1, VS2, VS3, VS4, VS5, VS6, VT1, VT2, S_spec_l2GoodL1, SX_spec_l2GoodL1]
def S_spec_l2GoodL2 (nZ0 : TNetwork) (v : Int) : St := ⟨[(1, .pt 1 0 0), (4, .i v)], [(1, .var (.agg [.lst .o 1 (nZ0.Nodes.map AV.z), .lst .o 4 (nZ0.Fibers.map (e_TFiber .o))]))]⟩
def SX_spec_l2GoodL2 (v : Unit) : St := ⟨[], []⟩
theorem w_spec_l2GoodL2 (nZ0 : TNetwork) (sZ16 : Int) (o : Int ⊕ (Unit ⊕ Bool)) (h : M_spec_l2GoodL2 nZ0 sZ16 = some o) : AWP (OkS Try.prog) A98L6 (qL [1, 4] [1] (S_spec_l2GoodL2 nZ0) (qS (qX 2 [] [] (SX_spec_l2GoodL2)) (qR V98 (fun r => .b r))) o) (S_spec_l2GoodL2 nZ0 sZ16) := by
  unfold M_spec_l2GoodL2 at h
  simp only [S_spec_l2GoodL2, A98L6]
  refine Or.elim (bt (decide (sZ16 < (nZ0.Fibers.length : Int)))) (fun cZ17 => ?_) (fun cZ17 => ?_)
  · replace h := cond_t cZ17 h
    obtain ⟨oZ24, hoZ24, h⟩ := bind_s h
    try simp only [VS1, VS2, VS3, VS4, VS5, VS6, VT1, VT2, finM_ret, finM_nrm, decide_true, decide_false, List.nodup_nil, List.nodup_cons, oks_p, oks_m, oks_h, ne_eq, not_false_eq_true, Int.reduceEq, Int.reduceNe, true_and, Nat.reduceSub, Nat.reduceMul, ↓reduceIte, reduceCtorEq, Nat.reduceEqDiff, Nat.reduceAdd, Nat.reduceLeDiff, Int.reduceLE, cZ17]
    refine join_rule0 (sh := (fun v => ⟨[(1, .pt 1 0 0), (4, .i sZ16), (77, .b v)], [(1, .var (.agg [.lst .o 1 (nZ0.Nodes.map AV.z), .lst .o 4 (nZ0.Fibers.map (e_TFiber .o))]))]⟩)) (s := oZ24) ?_ ?_
    · replace h := hoZ24
      obtain ⟨yZ18, hyZ18, h⟩ := bind_s h
      obtain ⟨hyZ18a, hyZ18b⟩ := geti_s hyZ18
      obtain ⟨rZ19, hrZ19, h⟩ := bind_s h
      simp only [VS1, VS2, VS3, VS4, VS5, VS6, VT1, VT2, finM_ret, finM_nrm, decide_true, decide_false, List.nodup_nil, List.nodup_cons, oks_p, oks_m, oks_h, ne_eq, not_false_eq_true, Int.reduceEq, Int.reduceNe, true_and, Nat.reduceSub, Nat.reduceMul, ↓reduceIte, reduceCtorEq, Nat.reduceEqDiff, Nat.reduceAdd, Nat.reduceLeDiff, Int.reduceLE, cZ17, hyZ18a, hyZ18b]
      refine call_s (by simp only [VS1, VS2, VS3, VS4, VS5, VS6, VT1, VT2, finM_ret, finM_nrm, decide_true, decide_false, List.nodup_nil, List.nodup_cons, oks_p, oks_m, oks_h, ne_eq, not_false_eq_true, Int.reduceEq, Int.reduceNe, true_and, Nat.reduceSub, Nat.reduceMul, ↓reduceIte, reduceCtorEq, Nat.reduceEqDiff, Nat.reduceAdd, Nat.reduceLeDiff, Int.reduceLE, cZ17, hyZ18a, hyZ18b]; exact w_spec_l2Fiber _ _ hrZ19 ) ?_
      simp only [VA, VF1, ↓reduceIte, Nat.reduceEqDiff, Nat.reduceAdd, Nat.reduceMul, Nat.reduceSub, Nat.reduceLeDiff]
      refine Or.elim (bt (!rZ19)) (fun cZ20 => ?_) (fun cZ20 => ?_)
      · replace h := cond_t cZ20 h
        cases h
        try simp only [VS1, VS2, VS3, VS4, VS5, VS6, VT1, VT2, finM_ret, finM_nrm, decide_true, decide_false, List.nodup_nil, List.nodup_cons, oks_p, oks_m, oks_h, ne_eq, not_false_eq_true, Int.reduceEq, Int.reduceNe, true_and, Nat.reduceSub, Nat.reduceMul, ↓reduceIte, reduceCtorEq, Nat.reduceEqDiff, Nat.reduceAdd, Nat.reduceLeDiff, Int.reduceLE, cZ17, hyZ18a, hyZ18b, cZ20]
        all_goals simp [qL, qJ, qJ0, qS, qX, qR, qM, Shp, sub, tupd, VS1, VS2, VS3, VS4, VS5, VS6, VT1, VT2]
      · replace h := cond_f cZ20 h
        refine Or.elim (bt (decide (0 < sZ16))) (fun cZ21 => ?_) (fun cZ21 => ?_)
        · replace h := cond_t cZ21 h
          obtain ⟨yZ22, hyZ22, h⟩ := bind_s h
          obtain ⟨hyZ22a, hyZ22b⟩ := geti_s hyZ22
          obtain ⟨rZ23, hrZ23, h⟩ := bind_s h
          simp only [VS1, VS2, VS3, VS4, VS5, VS6, VT1, VT2, finM_ret, finM_nrm, decide_true, decide_false, List.nodup_nil, List.nodup_cons, oks_p, oks_m, oks_h, ne_eq, not_false_eq_true, Int.reduceEq, Int.reduceNe, true_and, Nat.reduceSub, Nat.reduceMul, ↓reduceIte, reduceCtorEq, Nat.reduceEqDiff, Nat.reduceAdd, Nat.reduceLeDiff, Int.reduceLE, cZ17, hyZ18a, hyZ18b, cZ20, cZ21, hyZ22a, hyZ22b]
          refine call_s (by simp only [VS1, VS2, VS3, VS4, VS5, VS6, VT1, VT2, finM_ret, finM_nrm, decide_true, decide_false, List.nodup_nil, List.nodup_cons, oks_p, oks_m, oks_h, ne_eq, not_false_eq_true, Int.reduceEq, Int.reduceNe, true_and, Nat.reduceSub, Nat.reduceMul, ↓reduceIte, reduceCtorEq, Nat.reduceEqDiff, Nat.reduceAdd, Nat.reduceLeDiff, Int.reduceLE, cZ17, hyZ18a, hyZ18b, cZ20, cZ21, hyZ22a, hyZ22b]; exact w_spec_l2Before _ _ hrZ23 ) ?_
          simp only [VA, VF1, ↓reduceIte, Nat.reduceEqDiff, Nat.reduceAdd, Nat.reduceMul, Nat.reduceSub, Nat.reduceLeDiff]
          cases h
          try simp only [VS1, VS2, VS3, VS4, VS5, VS6, VT1, VT2, finM_ret, finM_nrm, decide_true, decide_false, List.nodup_nil, List.nodup_cons, oks_p, oks_m, oks_h, ne_eq, not_false_eq_true, Int.reduceEq, Int.reduceNe, true_and, Nat.reduceSub, Nat.reduceMul, ↓reduceIte, reduceCtorEq, Nat.reduceEqDiff, Nat.reduceAdd, Nat.reduceLeDiff, Int.reduceLE, cZ17, hyZ18a, hyZ18b, cZ20, cZ21, hyZ22a, hyZ22b]
          all_goals simp [qL, qJ, qJ0, qS, qX, qR, qM, Shp, sub, tupd, VS1, VS2, VS3, VS4, VS5, VS6, VT1, VT2]
        · replace h := cond_f cZ21 h
          cases h
          try simp only [VS1, VS2, VS3, VS4, VS5, VS6, VT1, VT2, finM_ret, finM_nrm, decide_true, decide_false, List.nodup_nil, List.nodup_cons, oks_p, oks_m, oks_h, ne_eq, not_false_eq_true, Int.reduceEq, Int.reduceNe, true_and, Nat.reduceSub, Nat.reduceMul, ↓reduceIte, reduceCtorEq, Nat.reduceEqDiff, Nat.reduceAdd, Nat.reduceLeDiff, Int.reduceLE, cZ17, hyZ18a, hyZ18b, cZ20, cZ21]
          all_goals simp [qL, qJ, qJ0, qS, qX, qR, qM, Shp, sub, tupd, VS1, VS2, VS3, VS4, VS5, VS6, VT1, VT2]
    · simp only [A98R5]
      refine Or.elim (bt (oZ24)) (fun cZ25 => ?_) (fun cZ25 => ?_)
      · replace h := cond_t cZ25 h
        cases h
        try simp only [VS1, VS2, VS3, VS4, VS5, VS6, VT1, VT2, finM_ret, finM_nrm, decide_true, decide_false, List.nodup_nil, List.nodup_cons, oks_p, oks_m, oks_h, ne_eq, not_false_eq_true, Int.reduceEq, Int.reduceNe, true_and, Nat.reduceSub, Nat.reduceMul, ↓reduceIte, reduceCtorEq, Nat.reduceEqDiff, Nat.reduceAdd, Nat.reduceLeDiff, Int.reduceLE, cZ17, cZ25]
        all_goals simp [qL, qJ, qJ0, qS, qX, qR, qM, Shp, sub, tupd, VS1, VS2, VS3, VS4, VS5, VS6, VT1, VT2, V98]
      · replace h := cond_f cZ25 h
        cases h
        try simp only [VS1, VS2, VS3, VS4, VS5, VS6, VT1, VT2, finM_ret, finM_nrm, decide_true, decide_false, List.nodup_nil, List.nodup_cons, oks_p, oks_m, oks_h, ne_eq, not_false_eq_true, Int.reduceEq, Int.reduceNe, true_and, Nat.reduceSub, Nat.reduceMul, ↓reduceIte, reduceCtorEq, Nat.reduceEqDiff, Nat.reduceAdd, Nat.reduceLeDiff, Int.reduceLE, cZ17, cZ25]
        all_goals simp [qL, qJ, qJ0, qS, qX, qR, qM, Shp, sub, tupd, VS1, VS2, VS3, VS4, VS5, VS6, VT1, VT2, S_spec_l2GoodL2, SX_spec_l2GoodL2]
  · replace h := cond_f cZ17 h
    cases h
    try simp only [VS1, VS2, VS3, VS4, VS5, VS6, VT1, VT2, finM_ret, finM_nrm, decide_true, decide_false, List.nodup_nil, List.nodup_cons, oks_p, oks_m, oks_h, ne_eq, not_false_eq_true, Int.reduceEq, Int.reduceNe, true_and, Nat.reduceSub, Nat.reduceMul, ↓reduceIte, reduceCtorEq, Nat.reduceEqDiff, Nat.reduceAdd, Nat.reduceLeDiff, Int.reduceLE, cZ17]
    all_goals simp [qL, qJ, qJ0, qS, qX, qR, qM, Shp, sub, tupd, VS1, VS2, VS3, VS4, VS5, VS6, VT1, VT2, S_spec_l2GoodL2, SX_spec_l2GoodL2]
theorem w_spec_l2Good (nZ0 : TNetwork) {r : Bool} (h : M_spec_l2Good nZ0 = some r) : Ok Try.prog 98 [.agg [.lst .o 1 (nZ0.Nodes.map AV.z), .lst .o 4 (nZ0.Fibers.map (e_TFiber .o))]] ((fun r => .b r) r) := by
  refine ok_of_body hmix m98 rfl ?_
  unfold M_spec_l2Good at h
  simp only [A98, V98, body_eq]
  obtain ⟨oZ3, hoZ3, h⟩ := bind_s h
  try simp only [VS1, VS2, VS3, VS4, VS5, VS6, VT1, VT2, finM_ret, finM_nrm, decide_true, decide_false, List.nodup_nil, List.nodup_cons, oks_p, oks_m, oks_h, ne_eq, not_false_eq_true, Int.reduceEq, Int.reduceNe, true_and, Nat.reduceSub, Nat.reduceMul, ↓reduceIte, reduceCtorEq, Nat.reduceEqDiff, Nat.reduceAdd, Nat.reduceLeDiff, Int.reduceLE]
  refine join_rule0 (sh := (fun v => ⟨[(1, .pt 1 0 0), (15, .b v)], [(1, .var (.agg [.lst .o 1 (nZ0.Nodes.map AV.z), .lst .o 4 (nZ0.Fibers.map (e_TFiber .o))]))]⟩)) (s := oZ3) ?_ ?_
  · replace h := hoZ3
    obtain ⟨rZ1, hrZ1, h⟩ := bind_s h
    simp only [VS1, VS2, VS3, VS4, VS5, VS6, VT1, VT2, finM_ret, finM_nrm, decide_true, decide_false, List.nodup_nil, List.nodup_cons, oks_p, oks_m, oks_h, ne_eq, not_false_eq_true, Int.reduceEq, Int.reduceNe, true_and, Nat.reduceSub, Nat.reduceMul, ↓reduceIte, reduceCtorEq, Nat.reduceEqDiff, Nat.reduceAdd, Nat.reduceLeDiff, Int.reduceLE]
    refine call_s (by simp only [VS1, VS2, VS3, VS4, VS5, VS6, VT1, VT2, finM_ret, finM_nrm, decide_true, decide_false, List.nodup_nil, List.nodup_cons, oks_p, oks_m, oks_h, ne_eq, not_false_eq_true, Int.reduceEq, Int.reduceNe, true_and, Nat.reduceSub, Nat.reduceMul, ↓reduceIte, reduceCtorEq, Nat.reduceEqDiff, Nat.reduceAdd, Nat.reduceLeDiff, Int.reduceLE]; exact w_spec_l1In _ _ _ hrZ1 ) ?_
    simp only [VA, VF1, ↓reduceIte, Nat.reduceEqDiff, Nat.reduceAdd, Nat.reduceMul, Nat.reduceSub, Nat.reduceLeDiff]
    refine Or.elim (bt (!rZ1)) (fun cZ2 => ?_) (fun cZ2 => ?_)
    · replace h := cond_t cZ2 h
      cases h
      try simp only [VS1, VS2, VS3, VS4, VS5, VS6, VT1, VT2, finM_ret, finM_nrm, decide_true, decide_false, List.nodup_nil, List.nodup_cons, oks_p, oks_m, oks_h, ne_eq, not_false_eq_true, Int.reduceEq, Int.reduceNe, true_and, Nat.reduceSub, Nat.reduceMul, ↓reduceIte, reduceCtorEq, Nat.reduceEqDiff, Nat.reduceAdd, Nat.reduceLeDiff, Int.reduceLE, cZ2]
      all_goals simp [qL, qJ, qJ0, qS, qX, qR, qM, Shp, sub, tupd, VS1, VS2, VS3, VS4, VS5, VS6, VT1, VT2]
    · replace h := cond_f cZ2 h
      cases h
      try simp only [VS1, VS2, VS3, VS4, VS5, VS6, VT1, VT2, finM_ret, finM_nrm, decide_true, decide_false, List.nodup_nil, List.nodup_cons, oks_p, oks_m, oks_h, ne_eq, not_false_eq_true, Int.reduceEq, Int.reduceNe, true_and, Nat.reduceSub, Nat.reduceMul, ↓reduceIte, reduceCtorEq, Nat.reduceEqDiff, Nat.reduceAdd, Nat.reduceLeDiff, Int.reduceLE, cZ2]
      all_goals simp [qL, qJ, qJ0, qS, qX, qR, qM, Shp, sub, tupd, VS1, VS2, VS3, VS4, VS5, VS6, VT1, VT2]
  · simp only [A98R1]
    refine Or.elim (bt (oZ3)) (fun cZ4 => ?_) (fun cZ4 => ?_)
    · replace h := cond_t cZ4 h
      cases h
      try simp only [VS1, VS2, VS3, VS4, VS5, VS6, VT1, VT2, finM_ret, finM_nrm, decide_true, decide_false, List.nodup_nil, List.nodup_cons, oks_p, oks_m, oks_h, ne_eq, not_false_eq_true, Int.reduceEq, Int.reduceNe, true_and, Nat.reduceSub, Nat.reduceMul, ↓reduceIte, reduceCtorEq, Nat.reduceEqDiff, Nat.reduceAdd, Nat.reduceLeDiff, Int.reduceLE, cZ4]
      all_goals simp [qL, qJ, qJ0, qS, qX, qR, qM, Shp, sub, tupd, VS1, VS2, VS3, VS4, VS5, VS6, VT1, VT2, V98]
    · replace h := cond_f cZ4 h
      obtain ⟨oZ13, hoZ13, h⟩ := bind_s h
      try simp only [VS1, VS2, VS3, VS4, VS5, VS6, VT1, VT2, finM_ret, finM_nrm, decide_true, decide_false, List.nodup_nil, List.nodup_cons, oks_p, oks_m, oks_h, ne_eq, not_false_eq_true, Int.reduceEq, Int.reduceNe, true_and, Nat.reduceSub, Nat.reduceMul, ↓reduceIte, reduceCtorEq, Nat.reduceEqDiff, Nat.reduceAdd, Nat.reduceLeDiff, Int.reduceLE, cZ4]
      refine join_rule (o := oZ13) (blk_rule sideR (loop_rule (w_spec_l2GoodL1 nZ0) hoZ13 ?_)) (fun vZ14 hv => ?_) (fun xZ15 hv e τ hne hq => ?_)
      · all_goals simp [qL, qJ, qJ0, qS, qX, qR, qM, Shp, sub, tupd, VS1, VS2, VS3, VS4, VS5, VS6, VT1, VT2, S_spec_l2GoodL1, SX_spec_l2GoodL1]
      · subst hv
        simp only [] at h
        simp only [SX_spec_l2GoodL1, A98R4]
        obtain ⟨oZ26, hoZ26, h⟩ := bind_s h
        try simp only [VS1, VS2, VS3, VS4, VS5, VS6, VT1, VT2, finM_ret, finM_nrm, decide_true, decide_false, List.nodup_nil, List.nodup_cons, oks_p, oks_m, oks_h, ne_eq, not_false_eq_true, Int.reduceEq, Int.reduceNe, true_and, Nat.reduceSub, Nat.reduceMul, ↓reduceIte, reduceCtorEq, Nat.reduceEqDiff, Nat.reduceAdd, Nat.reduceLeDiff, Int.reduceLE, cZ4]
        refine join_rule (o := oZ26) (blk_rule sideR (loop_rule (w_spec_l2GoodL2 nZ0) hoZ26 ?_)) (fun vZ27 hv => ?_) (fun xZ28 hv e τ hne hq => ?_)
        · all_goals simp [qL, qJ, qJ0, qS, qX, qR, qM, Shp, sub, tupd, VS1, VS2, VS3, VS4, VS5, VS6, VT1, VT2, S_spec_l2GoodL2, SX_spec_l2GoodL2]
        · subst hv
          simp only [] at h
          simp only [SX_spec_l2GoodL2, A98R7]
          cases h
          try simp only [VS1, VS2, VS3, VS4, VS5, VS6, VT1, VT2, finM_ret, finM_nrm, decide_true, decide_false, List.nodup_nil, List.nodup_cons, oks_p, oks_m, oks_h, ne_eq, not_false_eq_true, Int.reduceEq, Int.reduceNe, true_and, Nat.reduceSub, Nat.reduceMul, ↓reduceIte, reduceCtorEq, Nat.reduceEqDiff, Nat.reduceAdd, Nat.reduceLeDiff, Int.reduceLE, cZ4]
          all_goals simp [qL, qJ, qJ0, qS, qX, qR, qM, Shp, sub, tupd, VS1, VS2, VS3, VS4, VS5, VS6, VT1, VT2, V98]
        · subst hv
          simp only [] at h
          obtain ⟨rfl, qZ29⟩ := hq
          cases h
          exact qZ29
      · subst hv
        simp only [] at h
        obtain ⟨rfl, qZ30⟩ := hq
        cases h
        exact qZ30
def S_spec_l2GroupL1 (nZ0 : TNetwork) (fiberZ0 : Int) (v : Int × List Int) : St := ⟨[(1, .i fiberZ0), (2, .pt 2 0 0), (5, .sl 5 0 v.2.length), (6, .i v.1)], [(2, .var (.agg [.lst .o 1 (nZ0.Nodes.map AV.z), .lst .o 4 (nZ0.Fibers.map (e_TFiber .o))])), (5, .arr 1 (v.2.map AV.i))]⟩
def SX_spec_l2GroupL1 (v : List Int) : St := ⟨[(5, .sl 5 0 v.length)], [(5, .arr 1 (v.map AV.i))]⟩
theorem w_spec_l2GroupL1 (nZ0 : TNetwork) (fiberZ0 : Int) (sZ7 : Int × List Int) (o : (Int × List Int) ⊕ (List Int)) (h : M_spec_l2GroupL1 nZ0 fiberZ0 sZ7 = some o) : AWP (OkS Try.prog) A124L1 (qL [1, 2, 5, 6] [2, 5] (S_spec_l2GroupL1 nZ0 fiberZ0) (qX 0 [5] [5] (SX_spec_l2GroupL1)) o) (S_spec_l2GroupL1 nZ0 fiberZ0 sZ7) := by
  unfold M_spec_l2GroupL1 at h
  simp only [S_spec_l2GroupL1, A124L1]
  refine Or.elim (bt (decide (sZ7.1 < (nZ0.Fibers.length : Int)))) (fun cZ8 => ?_) (fun cZ8 => ?_)
  · replace h := cond_t cZ8 h
    obtain ⟨yZ9, hyZ9, h⟩ := bind_s h
    obtain ⟨hyZ9a, hyZ9b⟩ := geti_s hyZ9
    obtain ⟨yZ10, hyZ10, h⟩ := bind_s h
    obtain ⟨hyZ10a, hyZ10b⟩ := geti_s hyZ10
    refine Or.elim (bt (yZ9.Risk == yZ10.Risk)) (fun cZ11 => ?_) (fun cZ11 => ?_)
    · replace h := cond_t cZ11 h
      obtain ⟨lZ12, hlZ12, h⟩ := bnd_s h
      have eZ13 : Row.arr 1 [(.i sZ7.1 : AV)] = Row.arr 1 (lZ12.map AV.i) := by rw [← hlZ12]; rfl
      have eZ14 : lZ12.length = 1 := by rw [← hlZ12]; rfl
      obtain ⟨uZ15, huZ15, h⟩ := bind_s h
      have huZ15g := grd_s huZ15
      obtain ⟨lZ16, hlZ16, h⟩ := bnd_s h
      have eZ17 : sZ7.2.map AV.i ++ lZ12.map AV.i = lZ16.map AV.i := by rw [← hlZ16, List.map_append]
      have eZ18 : sZ7.2.length + 1 = lZ16.length := by simp [← hlZ12, ← hlZ16] <;> omega
      rw [eZ18] at huZ15g
      cases h
      try simp only [VS1, VS2, VS3, VS4, VS5, VS6, VT1, VT2, finM_ret, finM_nrm, decide_true, decide_false, List.nodup_nil, List.nodup_cons, oks_p, oks_m, oks_h, ne_eq, not_false_eq_true, Int.reduceEq, Int.reduceNe, true_and, Nat.reduceSub, Nat.reduceMul, ↓reduceIte, reduceCtorEq, Nat.reduceEqDiff, Nat.reduceAdd, Nat.reduceLeDiff, Int.reduceLE, cZ8, hyZ9a, hyZ9b, hyZ10a, hyZ10b, cZ11, eZ13, eZ14, huZ15g, eZ17, eZ18]
      all_goals simp [qL, qJ, qJ0, qS, qX, qR, qM, Shp, sub, tupd, VS1, VS2, VS3, VS4, VS5, VS6, VT1, VT2, S_spec_l2GroupL1, SX_spec_l2GroupL1, ← hlZ12, ← hlZ16]
    · replace h := cond_f cZ11 h
      cases h
      try simp only [VS1, VS2, VS3, VS4, VS5, VS6, VT1, VT2, finM_ret, finM_nrm, decide_true, decide_false, List.nodup_nil, List.nodup_cons, oks_p, oks_m, oks_h, ne_eq, not_false_eq_true, Int.reduceEq, Int.reduceNe, true_and, Nat.reduceSub, Nat.reduceMul, ↓reduceIte, reduceCtorEq, Nat.reduceEqDiff, Nat.reduceAdd, Nat.reduceLeDiff, Int.reduceLE, cZ8, hyZ9a, hyZ9b, hyZ10a, hyZ10b, cZ11]
      all_goals simp [qL, qJ, qJ0, qS, qX, qR, qM, Shp, sub, tupd, VS1, VS2, VS3, VS4, VS5, VS6, VT1, VT2, S_spec_l2GroupL1, SX_spec_l2GroupL1]
  · replace h := cond_f cZ8 h
    cases h
    try simp only [VS1, VS2, VS3, VS4, VS5, VS6, VT1, VT2, finM_ret, finM_nrm, decide_true, decide_false, List.nodup_nil, List.nodup_cons, oks_p, oks_m, oks_h, ne_eq, not_false_eq_true, Int.reduceEq, Int.reduceNe, true_and, Nat.reduceSub, Nat.reduceMul, ↓reduceIte, reduceCtorEq, Nat.reduceEqDiff, Nat.reduceAdd, Nat.reduceLeDiff, Int.reduceLE, cZ8]
    all_goals simp [qL, qJ, qJ0, qS, qX, qR, qM, Shp, sub, tupd, VS1, VS2, VS3, VS4, VS5, VS6, VT1, VT2, S_spec_l2GroupL1, SX_spec_l2GroupL1]
theorem w_spec_l2Group (nZ0 : TNetwork) (fiberZ0 : Int) {r : List Int} (h : M_spec_l2Group nZ0 fiberZ0 = some r) : Ok Try.prog 124 [.agg [.lst .o 1 (nZ0.Nodes.map AV.z), .lst .o 4 (nZ0.Fibers.map (e_TFiber .o))], .i fiberZ0] ((fun r => .lst .u 1 (r.map AV.i)) r) := by
  refine ok_of_body hmix m124 rfl ?_
  unfold M_spec_l2Group at h
  simp only [A124, V124, body_eq]
  obtain ⟨yZ1, hyZ1, h⟩ := bind_s h
  obtain ⟨hyZ1a, hyZ1b⟩ := geti_s hyZ1
  refine Or.elim (bt (yZ1.Risk == 0)) (fun cZ2 => ?_) (fun cZ2 => ?_)
  · replace h := cond_t cZ2 h
    obtain ⟨lZ3, hlZ3, h⟩ := bnd_s h
    have eZ4 : Row.arr 1 [(.i fiberZ0 : AV)] = Row.arr 1 (lZ3.map AV.i) := by rw [← hlZ3]; rfl
    have eZ5 : lZ3.length = 1 := by rw [← hlZ3]; rfl
    have nZ6 : sub (lZ3.map AV.i) 0 1 = lZ3.map AV.i := sub_n _ (by simp [← hlZ3])
    cases h
    try simp only [VS1, VS2, VS3, VS4, VS5, VS6, VT1, VT2, finM_ret, finM_nrm, decide_true, decide_false, List.nodup_nil, List.nodup_cons, oks_p, oks_m, oks_h, ne_eq, not_false_eq_true, Int.reduceEq, Int.reduceNe, true_and, Nat.reduceSub, Nat.reduceMul, ↓reduceIte, reduceCtorEq, Nat.reduceEqDiff, Nat.reduceAdd, Nat.reduceLeDiff, Int.reduceLE, hyZ1a, hyZ1b, cZ2, eZ4, eZ5, nZ6]
    all_goals simp [qL, qJ, qJ0, qS, qX, qR, qM, Shp, sub, tupd, VS1, VS2, VS3, VS4, VS5, VS6, VT1, VT2, V124, ← hlZ3]
  · replace h := cond_f cZ2 h
    obtain ⟨oZ19, hoZ19, h⟩ := bind_s h
    try simp only [VS1, VS2, VS3, VS4, VS5, VS6, VT1, VT2, finM_ret, finM_nrm, decide_true, decide_false, List.nodup_nil, List.nodup_cons, oks_p, oks_m, oks_h, ne_eq, not_false_eq_true, Int.reduceEq, Int.reduceNe, true_and, Nat.reduceSub, Nat.reduceMul, ↓reduceIte, reduceCtorEq, Nat.reduceEqDiff, Nat.reduceAdd, Nat.reduceLeDiff, Int.reduceLE, hyZ1a, hyZ1b, cZ2]
    refine join_rule0 (blk_rule0 (loop_rule (w_spec_l2GroupL1 nZ0 fiberZ0) hoZ19 ?_)) ?_
    · all_goals simp [qL, qJ, qJ0, qS, qX, qR, qM, Shp, sub, tupd, VS1, VS2, VS3, VS4, VS5, VS6, VT1, VT2, S_spec_l2GroupL1, SX_spec_l2GroupL1]
    · simp only [SX_spec_l2GroupL1, A124R2]
      cases h
      try simp only [VS1, VS2, VS3, VS4, VS5, VS6, VT1, VT2, finM_ret, finM_nrm, decide_true, decide_false, List.nodup_nil, List.nodup_cons, oks_p, oks_m, oks_h, ne_eq, not_false_eq_true, Int.reduceEq, Int.reduceNe, true_and, Nat.reduceSub, Nat.reduceMul, ↓reduceIte, reduceCtorEq, Nat.reduceEqDiff, Nat.reduceAdd, Nat.reduceLeDiff, Int.reduceLE, hyZ1a, hyZ1b, cZ2]
      all_goals simp [qL, qJ, qJ0, qS, qX, qR, qM, Shp, sub, tupd, VS1, VS2, VS3, VS4, VS5, VS6, VT1, VT2, V124]
def S_spec_l2GroupsL2 (nZ0 : TNetwork) (sZ1 : Int × List (List Int)) (v : Int) : St := ⟨[(1, .pt 1 0 0), (3, .sl 3 0 sZ1.2.length), (4, .i sZ1.1), (5, .i v)], [(1, .var (.agg [.lst .o 1 (nZ0.Nodes.map AV.z), .lst .o 4 (nZ0.Fibers.map (e_TFiber .o))])), (3, .arr 1 (sZ1.2.map (e_Li .u)))]⟩
def SX_spec_l2GroupsL2 (nZ0 : TNetwork) (sZ1 : Int × List (List Int)) (v : List (List Int)) : St := ⟨[(1, .pt 1 0 0), (3, .sl 3 0 v.length), (4, .i sZ1.1)], [(1, .var (.agg [.lst .o 1 (nZ0.Nodes.map AV.z), .lst .o 4 (nZ0.Fibers.map (e_TFiber .o))])), (3, .arr 1 (v.map (e_Li .u)))]⟩
theorem w_spec_l2GroupsL2 (nZ0 : TNetwork) (sZ1 : Int × List (List Int)) (sZ3 : Int) (o : Int ⊕ (List (List Int))) (h : M_spec_l2GroupsL2 nZ0 sZ1 sZ3 = some o) : AWP (OkS Try.prog) A92L1 (qL [1, 3, 4, 5] [1, 3] (S_spec_l2GroupsL2 nZ0 sZ1) (qX 2 [1, 3, 4] [1, 3] (SX_spec_l2GroupsL2 nZ0 sZ1)) o) (S_spec_l2GroupsL2 nZ0 sZ1 sZ3) := by
  unfold M_spec_l2GroupsL2 at h
  simp only [S_spec_l2GroupsL2, A92L1]
  refine Or.elim (bt (decide (sZ3 < (nZ0.Fibers.length : Int)))) (fun cZ4 => ?_) (fun cZ4 => ?_)
  · replace h := cond_t cZ4 h
    obtain ⟨yZ5, hyZ5, h⟩ := bind_s h
    obtain ⟨hyZ5a, hyZ5b⟩ := geti_s hyZ5
    refine Or.elim (bt (yZ5.Risk == sZ1.1)) (fun cZ6 => ?_) (fun cZ6 => ?_)
    · replace h := cond_t cZ6 h
      obtain ⟨rZ7, hrZ7, h⟩ := bind_s h
      simp only [VS1, VS2, VS3, VS4, VS5, VS6, VT1, VT2, finM_ret, finM_nrm, decide_true, decide_false, List.nodup_nil, List.nodup_cons, oks_p, oks_m, oks_h, ne_eq, not_false_eq_true, Int.reduceEq, Int.reduceNe, true_and, Nat.reduceSub, Nat.reduceMul, ↓reduceIte, reduceCtorEq, Nat.reduceEqDiff, Nat.reduceAdd, Nat.reduceLeDiff, Int.reduceLE, cZ4, hyZ5a, hyZ5b, cZ6]
      refine call_u (by simp only [VS1, VS2, VS3, VS4, VS5, VS6, VT1, VT2, finM_ret, finM_nrm, decide_true, decide_false, List.nodup_nil, List.nodup_cons, oks_p, oks_m, oks_h, ne_eq, not_false_eq_true, Int.reduceEq, Int.reduceNe, true_and, Nat.reduceSub, Nat.reduceMul, ↓reduceIte, reduceCtorEq, Nat.reduceEqDiff, Nat.reduceAdd, Nat.reduceLeDiff, Int.reduceLE, cZ4, hyZ5a, hyZ5b, cZ6]; exact w_spec_l2Group _ _ hrZ7 ) (by simp [AV.allU, allUL, allUL_iff, VT1, VT2]) (by simp only [VS1, VS2, VS3, VS4, VS5, VS6, VT1, VT2, finM_ret, finM_nrm, decide_true, decide_false, List.nodup_nil, List.nodup_cons, oks_p, oks_m, oks_h, ne_eq, not_false_eq_true, Int.reduceEq, Int.reduceNe, true_and, Nat.reduceSub, Nat.reduceMul, ↓reduceIte, reduceCtorEq, Nat.reduceEqDiff, Nat.reduceAdd, Nat.reduceLeDiff, Int.reduceLE, Nat.reduceLT]) ?_
      simp only [VA, VF1, ↓reduceIte, Nat.reduceEqDiff, Nat.reduceAdd, Nat.reduceMul, Nat.reduceSub, Nat.reduceLeDiff]
      obtain ⟨lZ8, hlZ8, h⟩ := bnd_s h
      have eZ9 : Row.arr 1 [(.lst .u 1 (rZ7.map AV.i) : AV)] = Row.arr 1 (lZ8.map (e_Li .u)) := by rw [← hlZ8]; rfl
      have eZ10 : lZ8.length = 1 := by rw [← hlZ8]; rfl
      obtain ⟨uZ11, huZ11, h⟩ := bind_s h
      have huZ11g := grd_s huZ11
      obtain ⟨lZ12, hlZ12, h⟩ := bnd_s h
      have eZ13 : sZ1.2.map (e_Li .u) ++ lZ8.map (e_Li .u) = lZ12.map (e_Li .u) := by rw [← hlZ12, List.map_append]
      have eZ14 : sZ1.2.length + 1 = lZ12.length := by simp [← hlZ8, ← hlZ12] <;> omega
      rw [eZ14] at huZ11g
      cases h
      try simp only [VS1, VS2, VS3, VS4, VS5, VS6, VT1, VT2, finM_ret, finM_nrm, decide_true, decide_false, List.nodup_nil, List.nodup_cons, oks_p, oks_m, oks_h, ne_eq, not_false_eq_true, Int.reduceEq, Int.reduceNe, true_and, Nat.reduceSub, Nat.reduceMul, ↓reduceIte, reduceCtorEq, Nat.reduceEqDiff, Nat.reduceAdd, Nat.reduceLeDiff, Int.reduceLE, cZ4, hyZ5a, hyZ5b, cZ6, eZ9, eZ10, huZ11g, eZ13, eZ14]
      all_goals simp [qL, qJ, qJ0, qS, qX, qR, qM, Shp, sub, tupd, VS1, VS2, VS3, VS4, VS5, VS6, VT1, VT2, S_spec_l2GroupsL2, SX_spec_l2GroupsL2, ← hlZ8, ← hlZ12]
    · replace h := cond_f cZ6 h
      cases h
      try simp only [VS1, VS2, VS3, VS4, VS5, VS6, VT1, VT2, finM_ret, finM_nrm, decide_true, decide_false, List.nodup_nil, List.nodup_cons, oks_p, oks_m, oks_h, ne_eq, not_false_eq_true, Int.reduceEq, Int.reduceNe, true_and, Nat.reduceSub, Nat.reduceMul, ↓reduceIte, reduceCtorEq, Nat.reduceEqDiff, Nat.reduceAdd, Nat.reduceLeDiff, Int.reduceLE, cZ4, hyZ5a, hyZ5b, cZ6]
      all_goals simp [qL, qJ, qJ0, qS, qX, qR, qM, Shp, sub, tupd, VS1, VS2, VS3, VS4, VS5, VS6, VT1, VT2, S_spec_l2GroupsL2, SX_spec_l2GroupsL2]
  · replace h := cond_f cZ4 h
    cases h
    try simp only [VS1, VS2, VS3, VS4, VS5, VS6, VT1, VT2, finM_ret, finM_nrm, decide_true, decide_false, List.nodup_nil, List.nodup_cons, oks_p, oks_m, oks_h, ne_eq, not_false_eq_true, Int.reduceEq, Int.reduceNe, true_and, Nat.reduceSub, Nat.reduceMul, ↓reduceIte, reduceCtorEq, Nat.reduceEqDiff, Nat.reduceAdd, Nat.reduceLeDiff, Int.reduceLE, cZ4]
    all_goals simp [qL, qJ, qJ0, qS, qX, qR, qM, Shp, sub, tupd, VS1, VS2, VS3, VS4, VS5, VS6, VT1, VT2, S_spec_l2GroupsL2, SX_spec_l2GroupsL2]
def S_spec_l2GroupsL1 (nZ0 : TNetwork) (v : Int × List (List Int)) : St := ⟨[(1, .pt 1 0 0), (3, .sl 3 0 v.2.length), (4, .i v.1)], [(1, .var (.agg [.lst .o 1 (nZ0.Nodes.map AV.z), .lst .o 4 (nZ0.Fibers.map (e_TFiber .o))])), (3, .arr 1 (v.2.map (e_Li .u)))]⟩
def SX_spec_l2GroupsL1 (nZ0 : TNetwork) (v : List (List Int)) : St := ⟨[(1, .pt 1 0 0), (3, .sl 3 0 v.length)], [(1, .var (.agg [.lst .o 1 (nZ0.Nodes.map AV.z), .lst .o 4 (nZ0.Fibers.map (e_TFiber .o))])), (3, .arr 1 (v.map (e_Li .u)))]⟩
theorem w_spec_l2GroupsL1 (nZ0 : TNetwork) (sZ1 : Int × List (List Int)) (o : (Int × List (List Int)) ⊕ (List (List Int))) (h : M_spec_l2GroupsL1 nZ0 sZ1 = some o) : AWP (OkS Try.prog) A92L3 (qL [1, 3, 4] [1, 3] (S_spec_l2GroupsL1 nZ0) (qX 0 [1, 3] [1, 3] (SX_spec_l2GroupsL1 nZ0)) o) (S_spec_l2GroupsL1 nZ0 sZ1) := by
  unfold M_spec_l2GroupsL1 at h
  simp only [S_spec_l2GroupsL1, A92L3]
  refine Or.elim (bt (decide (sZ1.1 ≤ 9))) (fun cZ2 => ?_) (fun cZ2 => ?_)
  · replace h := cond_t cZ2 h
    obtain ⟨oZ17, hoZ17, h⟩ := bind_s h
    try simp only [VS1, VS2, VS3, VS4, VS5, VS6, VT1, VT2, finM_ret, finM_nrm, decide_true, decide_false, List.nodup_nil, List.nodup_cons, oks_p, oks_m, oks_h, ne_eq, not_false_eq_true, Int.reduceEq, Int.reduceNe, true_and, Nat.reduceSub, Nat.reduceMul, ↓reduceIte, reduceCtorEq, Nat.reduceEqDiff, Nat.reduceAdd, Nat.reduceLeDiff, Int.reduceLE, cZ2]
    refine join_rule0 (sh := (fun v => ⟨[(1, .pt 1 0 0), (3, .sl 3 0 v.length), (4, .i sZ1.1)], [(1, .var (.agg [.lst .o 1 (nZ0.Nodes.map AV.z), .lst .o 4 (nZ0.Fibers.map (e_TFiber .o))])), (3, .arr 1 (v.map (e_Li .u)))]⟩)) (s := oZ17) ?_ ?_
    · replace h := hoZ17
      obtain ⟨oZ15, hoZ15, h⟩ := bind_s h
      try simp only [VS1, VS2, VS3, VS4, VS5, VS6, VT1, VT2, finM_ret, finM_nrm, decide_true, decide_false, List.nodup_nil, List.nodup_cons, oks_p, oks_m, oks_h, ne_eq, not_false_eq_true, Int.reduceEq, Int.reduceNe, true_and, Nat.reduceSub, Nat.reduceMul, ↓reduceIte, reduceCtorEq, Nat.reduceEqDiff, Nat.reduceAdd, Nat.reduceLeDiff, Int.reduceLE, cZ2]
      first | refine tail_rule0 (blk_rule0 (loop_rule (w_spec_l2GroupsL2 nZ0 sZ1) hoZ15 ?_)) (fun τ qZ16 => ?_) | refine tail_blk0 (loop_rule (w_spec_l2GroupsL2 nZ0 sZ1) hoZ15 ?_) (fun τ qZ16 => ?_)
      · all_goals simp [qL, qJ, qJ0, qS, qX, qR, qM, Shp, sub, tupd, VS1, VS2, VS3, VS4, VS5, VS6, VT1, VT2, S_spec_l2GroupsL2, SX_spec_l2GroupsL2]
      · cases h
        try simp only [VS1, VS2, VS3, VS4, VS5, VS6, VT1, VT2, finM_ret, finM_nrm, decide_true, decide_false, List.nodup_nil, List.nodup_cons, oks_p, oks_m, oks_h, ne_eq, not_false_eq_true, Int.reduceEq, Int.reduceNe, true_and, Nat.reduceSub, Nat.reduceMul, ↓reduceIte, reduceCtorEq, Nat.reduceEqDiff, Nat.reduceAdd, Nat.reduceLeDiff, Int.reduceLE]
        refine ⟨rfl, Shp.sub qZ16 (by decide) (by decide) ?_⟩
        all_goals simp [qL, qJ, qJ0, qS, qX, qR, qM, Shp, sub, tupd, VS1, VS2, VS3, VS4, VS5, VS6, VT1, VT2, SX_spec_l2GroupsL2]
    · simp only [A92R2]
      cases h
      try simp only [VS1, VS2, VS3, VS4, VS5, VS6, VT1, VT2, finM_ret, finM_nrm, decide_true, decide_false, List.nodup_nil, List.nodup_cons, oks_p, oks_m, oks_h, ne_eq, not_false_eq_true, Int.reduceEq, Int.reduceNe, true_and, Nat.reduceSub, Nat.reduceMul, ↓reduceIte, reduceCtorEq, Nat.reduceEqDiff, Nat.reduceAdd, Nat.reduceLeDiff, Int.reduceLE, cZ2]
      all_goals simp [qL, qJ, qJ0, qS, qX, qR, qM, Shp, sub, tupd, VS1, VS2, VS3, VS4, VS5, VS6, VT1, VT2, S_spec_l2GroupsL1, SX_spec_l2GroupsL1]
  · replace h := cond_f cZ2 h
    cases h
    try simp only [VS1, VS2, VS3, VS4, VS5, VS6, VT1, VT2, finM_ret, finM_nrm, decide_true, decide_false, List.nodup_nil, List.nodup_cons, oks_p, oks_m, oks_h, ne_eq, not_false_eq_true, Int.reduceEq, Int.reduceNe, true_and, Nat.reduceSub, Nat.reduceMul, ↓reduceIte, reduceCtorEq, Nat.reduceEqDiff, Nat.reduceAdd, Nat.reduceLeDiff, Int.reduceLE, cZ2]
    all_goals simp [qL, qJ, qJ0, qS, qX, qR, qM, Shp, sub, tupd, VS1, VS2, VS3, VS4, VS5, VS6, VT1, VT2, S_spec_l2GroupsL1, SX_spec_l2GroupsL1]
def S_spec_l2GroupsL3 (nZ0 : TNetwork) (v : Int × List (List Int)) : St := ⟨[(1, .pt 1 0 0), (3, .sl 3 0 v.2.length), (6, .i v.1)], [(1, .var (.agg [.lst .o 1 (nZ0.Nodes.map AV.z), .lst .o 4 (nZ0.Fibers.map (e_TFiber .o))])), (3, .arr 1 (v.2.map (e_Li .u)))]⟩
def SX_spec_l2GroupsL3 (v : List (List Int)) : St := ⟨[(3, .sl 3 0 v.length)], [(3, .arr 1 (v.map (e_Li .u)))]⟩
theorem w_spec_l2GroupsL3 (nZ0 : TNetwork) (sZ19 : Int × List (List Int)) (o : (Int × List (List Int)) ⊕ (List (List Int))) (h : M_spec_l2GroupsL3 nZ0 sZ19 = some o) : AWP (OkS Try.prog) A92L5 (qL [1, 3, 6] [1, 3] (S_spec_l2GroupsL3 nZ0) (qX 4 [3] [3] (SX_spec_l2GroupsL3)) o) (S_spec_l2GroupsL3 nZ0 sZ19) := by
  unfold M_spec_l2GroupsL3 at h
  simp only [S_spec_l2GroupsL3, A92L5]
  refine Or.elim (bt (decide (sZ19.1 < (nZ0.Fibers.length : Int)))) (fun cZ20 => ?_) (fun cZ20 => ?_)
  · replace h := cond_t cZ20 h
    obtain ⟨yZ21, hyZ21, h⟩ := bind_s h
    obtain ⟨hyZ21a, hyZ21b⟩ := geti_s hyZ21
    refine Or.elim (bt (yZ21.Risk == 0)) (fun cZ22 => ?_) (fun cZ22 => ?_)
    · replace h := cond_t cZ22 h
      obtain ⟨lZ23, hlZ23, h⟩ := bnd_s h
      have eZ24 : Row.arr 1 [(.i sZ19.1 : AV)] = Row.arr 1 (lZ23.map AV.i) := by rw [← hlZ23]; rfl
      have eZ25 : lZ23.length = 1 := by rw [← hlZ23]; rfl
      have nZ26 : sub (lZ23.map AV.i) 0 1 = lZ23.map AV.i := sub_n _ (by simp [← hlZ23])
      obtain ⟨lZ27, hlZ27, h⟩ := bnd_s h
      have eZ28 : Row.arr 1 [(.lst .u 1 (lZ23.map AV.i) : AV)] = Row.arr 1 (lZ27.map (e_Li .u)) := by rw [← hlZ27]; rfl
      have eZ29 : lZ27.length = 1 := by rw [← hlZ27]; rfl
      obtain ⟨uZ30, huZ30, h⟩ := bind_s h
      have huZ30g := grd_s huZ30
      obtain ⟨lZ31, hlZ31, h⟩ := bnd_s h
      have eZ32 : sZ19.2.map (e_Li .u) ++ lZ27.map (e_Li .u) = lZ31.map (e_Li .u) := by rw [← hlZ31, List.map_append]
      have eZ33 : sZ19.2.length + 1 = lZ31.length := by simp [← hlZ23, ← hlZ27, ← hlZ31] <;> omega
      rw [eZ33] at huZ30g
      cases h
      try simp only [VS1, VS2, VS3, VS4, VS5, VS6, VT1, VT2, finM_ret, finM_nrm, decide_true, decide_false, List.nodup_nil, List.nodup_cons, oks_p, oks_m, oks_h, ne_eq, not_false_eq_true, Int.reduceEq, Int.reduceNe, true_and, Nat.reduceSub, Nat.reduceMul, ↓reduceIte, reduceCtorEq, Nat.reduceEqDiff, Nat.reduceAdd, Nat.reduceLeDiff, Int.reduceLE, cZ20, hyZ21a, hyZ21b, cZ22, eZ24, eZ25, nZ26, eZ28, eZ29, huZ30g, eZ32, eZ33]
      all_goals simp [qL, qJ, qJ0, qS, qX, qR, qM, Shp, sub, tupd, VS1, VS2, VS3, VS4, VS5, VS6, VT1, VT2, S_spec_l2GroupsL3, SX_spec_l2GroupsL3, ← hlZ23, ← hlZ27, ← hlZ31]
    · replace h := cond_f cZ22 h
      cases h
      try simp only [VS1, VS2, VS3, VS4, VS5, VS6, VT1, VT2, finM_ret, finM_nrm, decide_true, decide_false, List.nodup_nil, List.nodup_cons, oks_p, oks_m, oks_h, ne_eq, not_false_eq_true, Int.reduceEq, Int.reduceNe, true_and, Nat.reduceSub, Nat.reduceMul, ↓reduceIte, reduceCtorEq, Nat.reduceEqDiff, Nat.reduceAdd, Nat.reduceLeDiff, Int.reduceLE, cZ20, hyZ21a, hyZ21b, cZ22]
      all_goals simp [qL, qJ, qJ0, qS, qX, qR, qM, Shp, sub, tupd, VS1, VS2, VS3, VS4, VS5, VS6, VT1, VT2, S_spec_l2GroupsL3, SX_spec_l2GroupsL3]
  · replace h := cond_f cZ20 h
    cases h
    try simp only [VS1, VS2, VS3, VS4, VS5, VS6, VT1, VT2, finM_ret, finM_nrm, decide_true, decide_false, List.nodup_nil, List.nodup_cons, oks_p, oks_m, oks_h, ne_eq, not_false_eq_true, Int.reduceEq, Int.reduceNe, true_and, Nat.reduceSub, Nat.reduceMul, ↓reduceIte, reduceCtorEq, Nat.reduceEqDiff, Nat.reduceAdd, Nat.reduceLeDiff, Int.reduceLE, cZ20]
    all_goals simp [qL, qJ, qJ0, qS, qX, qR, qM, Shp, sub, tupd, VS1, VS2, VS3, VS4, VS5, VS6, VT1, VT2, S_spec_l2GroupsL3, SX_spec_l2GroupsL3]
theorem w_spec_l2Groups (nZ0 : TNetwork) {r : List (List Int)} (h : M_spec_l2Groups nZ0 = some r) : Ok Try.prog 92 [.agg [.lst .o 1 (nZ0.Nodes.map AV.z), .lst .o 4 (nZ0.Fibers.map (e_TFiber .o))]] ((fun r => .lst .u 1 (r.map (e_Li .u))) r) := by
  refine ok_of_body hmix m92 rfl ?_
  unfold M_spec_l2Groups at h
  simp only [A92, V92, body_eq]
  obtain ⟨oZ18, hoZ18, h⟩ := bind_s h
  try simp only [VS1, VS2, VS3, VS4, VS5, VS6, VT1, VT2, finM_ret, finM_nrm, decide_true, decide_false, List.nodup_nil, List.nodup_cons, oks_p, oks_m, oks_h, ne_eq, not_false_eq_true, Int.reduceEq, Int.reduceNe, true_and, Nat.reduceSub, Nat.reduceMul, ↓reduceIte, reduceCtorEq, Nat.reduceEqDiff, Nat.reduceAdd, Nat.reduceLeDiff, Int.reduceLE]
  refine join_rule0 (blk_rule0 (loop_rule (w_spec_l2GroupsL1 nZ0) hoZ18 ?_)) ?_
  · all_goals simp [qL, qJ, qJ0, qS, qX, qR, qM, Shp, sub, tupd, VS1, VS2, VS3, VS4, VS5, VS6, VT1, VT2, S_spec_l2GroupsL1, SX_spec_l2GroupsL1]
  · simp only [SX_spec_l2GroupsL1, A92R4]
    obtain ⟨oZ34, hoZ34, h⟩ := bind_s h
    try simp only [VS1, VS2, VS3, VS4, VS5, VS6, VT1, VT2, finM_ret, finM_nrm, decide_true, decide_false, List.nodup_nil, List.nodup_cons, oks_p, oks_m, oks_h, ne_eq, not_false_eq_true, Int.reduceEq, Int.reduceNe, true_and, Nat.reduceSub, Nat.reduceMul, ↓reduceIte, reduceCtorEq, Nat.reduceEqDiff, Nat.reduceAdd, Nat.reduceLeDiff, Int.reduceLE]
    refine join_rule0 (blk_rule0 (loop_rule (w_spec_l2GroupsL3 nZ0) hoZ34 ?_)) ?_
    · all_goals simp [qL, qJ, qJ0, qS, qX, qR, qM, Shp, sub, tupd, VS1, VS2, VS3, VS4, VS5, VS6, VT1, VT2, S_spec_l2GroupsL3, SX_spec_l2GroupsL3]
    · simp only [SX_spec_l2GroupsL3, A92R6]
      cases h
      try simp only [VS1, VS2, VS3, VS4, VS5, VS6, VT1, VT2, finM_ret, finM_nrm, decide_true, decide_false, List.nodup_nil, List.nodup_cons, oks_p, oks_m, oks_h, ne_eq, not_false_eq_true, Int.reduceEq, Int.reduceNe, true_and, Nat.reduceSub, Nat.reduceMul, ↓reduceIte, reduceCtorEq, Nat.reduceEqDiff, Nat.reduceAdd, Nat.reduceLeDiff, Int.reduceLE]
      all_goals simp [qL, qJ, qJ0, qS, qX, qR, qM, Shp, sub, tupd, VS1, VS2, VS3, VS4, VS5, VS6, VT1, VT2, V92]
def S_spec_l16GoodL1 (oZ0 : TOutage) (v : Int) : St := ⟨[(3, .pt 3 0 0), (5, .i v)], [(3, .var (.agg [.i oZ0.Unit, .lst .o 1 (oZ0.Down.map AV.i)]))]⟩
def SX_spec_l16GoodL1 (v : Unit) : St := ⟨[], []⟩
theorem w_spec_l16GoodL1 (oZ0 : TOutage) (sZ8 : Int) (o : Int ⊕ (Unit ⊕ Bool)) (h : M_spec_l16GoodL1 oZ0 sZ8 = some o) : AWP (OkS Try.prog) A62L2 (qL [3, 5] [3] (S_spec_l16GoodL1 oZ0) (qS (qX 0 [] [] (SX_spec_l16GoodL1)) (qR V62 (fun r => .b r))) o) (S_spec_l16GoodL1 oZ0 sZ8) := by
  unfold M_spec_l16GoodL1 at h
  simp only [S_spec_l16GoodL1, A62L2]
  refine Or.elim (bt (decide (sZ8 < (oZ0.Down.length : Int)))) (fun cZ9 => ?_) (fun cZ9 => ?_)
  · replace h := cond_t cZ9 h
    obtain ⟨yZ10, hyZ10, h⟩ := bind_s h
    obtain ⟨hyZ10a, hyZ10b⟩ := geti_s hyZ10
    obtain ⟨rZ11, hrZ11, h⟩ := bind_s h
    simp only [VS1, VS2, VS3, VS4, VS5, VS6, VT1, VT2, finM_ret, finM_nrm, decide_true, decide_false, List.nodup_nil, List.nodup_cons, oks_p, oks_m, oks_h, ne_eq, not_false_eq_true, Int.reduceEq, Int.reduceNe, true_and, Nat.reduceSub, Nat.reduceMul, ↓reduceIte, reduceCtorEq, Nat.reduceEqDiff, Nat.reduceAdd, Nat.reduceLeDiff, Int.reduceLE, cZ9, hyZ10a, hyZ10b]
    refine call_s (by simp only [VS1, VS2, VS3, VS4, VS5, VS6, VT1, VT2, finM_ret, finM_nrm, decide_true, decide_false, List.nodup_nil, List.nodup_cons, oks_p, oks_m, oks_h, ne_eq, not_false_eq_true, Int.reduceEq, Int.reduceNe, true_and, Nat.reduceSub, Nat.reduceMul, ↓reduceIte, reduceCtorEq, Nat.reduceEqDiff, Nat.reduceAdd, Nat.reduceLeDiff, Int.reduceLE, cZ9, hyZ10a, hyZ10b]; exact w_spec_l1In _ _ _ hrZ11 ) ?_
    simp only [VA, VF1, ↓reduceIte, Nat.reduceEqDiff, Nat.reduceAdd, Nat.reduceMul, Nat.reduceSub, Nat.reduceLeDiff]
    refine Or.elim (bt (!rZ11)) (fun cZ12 => ?_) (fun cZ12 => ?_)
    · replace h := cond_t cZ12 h
      cases h
      try simp only [VS1, VS2, VS3, VS4, VS5, VS6, VT1, VT2, finM_ret, finM_nrm, decide_true, decide_false, List.nodup_nil, List.nodup_cons, oks_p, oks_m, oks_h, ne_eq, not_false_eq_true, Int.reduceEq, Int.reduceNe, true_and, Nat.reduceSub, Nat.reduceMul, ↓reduceIte, reduceCtorEq, Nat.reduceEqDiff, Nat.reduceAdd, Nat.reduceLeDiff, Int.reduceLE, cZ9, hyZ10a, hyZ10b, cZ12]
      all_goals simp [qL, qJ, qJ0, qS, qX, qR, qM, Shp, sub, tupd, VS1, VS2, VS3, VS4, VS5, VS6, VT1, VT2, V62]
    · replace h := cond_f cZ12 h
      cases h
      try simp only [VS1, VS2, VS3, VS4, VS5, VS6, VT1, VT2, finM_ret, finM_nrm, decide_true, decide_false, List.nodup_nil, List.nodup_cons, oks_p, oks_m, oks_h, ne_eq, not_false_eq_true, Int.reduceEq, Int.reduceNe, true_and, Nat.reduceSub, Nat.reduceMul, ↓reduceIte, reduceCtorEq, Nat.reduceEqDiff, Nat.reduceAdd, Nat.reduceLeDiff, Int.reduceLE, cZ9, hyZ10a, hyZ10b, cZ12]
      all_goals simp [qL, qJ, qJ0, qS, qX, qR, qM, Shp, sub, tupd, VS1, VS2, VS3, VS4, VS5, VS6, VT1, VT2, S_spec_l16GoodL1, SX_spec_l16GoodL1]
  · replace h := cond_f cZ9 h
    cases h
    try simp only [VS1, VS2, VS3, VS4, VS5, VS6, VT1, VT2, finM_ret, finM_nrm, decide_true, decide_false, List.nodup_nil, List.nodup_cons, oks_p, oks_m, oks_h, ne_eq, not_false_eq_true, Int.reduceEq, Int.reduceNe, true_and, Nat.reduceSub, Nat.reduceMul, ↓reduceIte, reduceCtorEq, Nat.reduceEqDiff, Nat.reduceAdd, Nat.reduceLeDiff, Int.reduceLE, cZ9]
    all_goals simp [qL, qJ, qJ0, qS, qX, qR, qM, Shp, sub, tupd, VS1, VS2, VS3, VS4, VS5, VS6, VT1, VT2, S_spec_l16GoodL1, SX_spec_l16GoodL1]
theorem w_spec_l16Good (nZ0 : TNetwork) (oZ0 : TOutage) {r : Bool} (h : M_spec_l16Good nZ0 oZ0 = some r) : Ok Try.prog 62 [.agg [.lst .o 1 (nZ0.Nodes.map AV.z), .lst .o 4 (nZ0.Fibers.map (e_TFiber .o))], .agg [.i oZ0.Unit, .lst .o 1 (oZ0.Down.map AV.i)]] ((fun r => .b r) r) := by
  refine ok_of_body hmix m62 rfl ?_
  unfold M_spec_l16Good at h
  simp only [A62, V62, body_eq]
  obtain ⟨oZ6, hoZ6, h⟩ := bind_s h
  try simp only [VS1, VS2, VS3, VS4, VS5, VS6, VT1, VT2, finM_ret, finM_nrm, decide_true, decide_false, List.nodup_nil, List.nodup_cons, oks_p, oks_m, oks_h, ne_eq, not_false_eq_true, Int.reduceEq, Int.reduceNe, true_and, Nat.reduceSub, Nat.reduceMul, ↓reduceIte, reduceCtorEq, Nat.reduceEqDiff, Nat.reduceAdd, Nat.reduceLeDiff, Int.reduceLE]
  refine join_rule0 (sh := (fun v => ⟨[(3, .pt 3 0 0), (23, .b v)], [(3, .var (.agg [.i oZ0.Unit, .lst .o 1 (oZ0.Down.map AV.i)]))]⟩)) (s := oZ6) ?_ ?_
  · replace h := hoZ6
    obtain ⟨rZ1, hrZ1, h⟩ := bind_s h
    simp only [VS1, VS2, VS3, VS4, VS5, VS6, VT1, VT2, finM_ret, finM_nrm, decide_true, decide_false, List.nodup_nil, List.nodup_cons, oks_p, oks_m, oks_h, ne_eq, not_false_eq_true, Int.reduceEq, Int.reduceNe, true_and, Nat.reduceSub, Nat.reduceMul, ↓reduceIte, reduceCtorEq, Nat.reduceEqDiff, Nat.reduceAdd, Nat.reduceLeDiff, Int.reduceLE]
    refine call_s (by simp only [VS1, VS2, VS3, VS4, VS5, VS6, VT1, VT2, finM_ret, finM_nrm, decide_true, decide_false, List.nodup_nil, List.nodup_cons, oks_p, oks_m, oks_h, ne_eq, not_false_eq_true, Int.reduceEq, Int.reduceNe, true_and, Nat.reduceSub, Nat.reduceMul, ↓reduceIte, reduceCtorEq, Nat.reduceEqDiff, Nat.reduceAdd, Nat.reduceLeDiff, Int.reduceLE]; exact w_spec_l2Good _ hrZ1 ) ?_
    simp only [VA, VF1, ↓reduceIte, Nat.reduceEqDiff, Nat.reduceAdd, Nat.reduceMul, Nat.reduceSub, Nat.reduceLeDiff]
    refine Or.elim (bt (!rZ1)) (fun cZ2 => ?_) (fun cZ2 => ?_)
    · replace h := cond_t cZ2 h
      cases h
      try simp only [VS1, VS2, VS3, VS4, VS5, VS6, VT1, VT2, finM_ret, finM_nrm, decide_true, decide_false, List.nodup_nil, List.nodup_cons, oks_p, oks_m, oks_h, ne_eq, not_false_eq_true, Int.reduceEq, Int.reduceNe, true_and, Nat.reduceSub, Nat.reduceMul, ↓reduceIte, reduceCtorEq, Nat.reduceEqDiff, Nat.reduceAdd, Nat.reduceLeDiff, Int.reduceLE, cZ2]
      all_goals simp [qL, qJ, qJ0, qS, qX, qR, qM, Shp, sub, tupd, VS1, VS2, VS3, VS4, VS5, VS6, VT1, VT2]
    · replace h := cond_f cZ2 h
      obtain ⟨rZ3, hrZ3, h⟩ := bind_s h
      simp only [VS1, VS2, VS3, VS4, VS5, VS6, VT1, VT2, finM_ret, finM_nrm, decide_true, decide_false, List.nodup_nil, List.nodup_cons, oks_p, oks_m, oks_h, ne_eq, not_false_eq_true, Int.reduceEq, Int.reduceNe, true_and, Nat.reduceSub, Nat.reduceMul, ↓reduceIte, reduceCtorEq, Nat.reduceEqDiff, Nat.reduceAdd, Nat.reduceLeDiff, Int.reduceLE, cZ2]
      refine call_s (by simp only [VS1, VS2, VS3, VS4, VS5, VS6, VT1, VT2, finM_ret, finM_nrm, decide_true, decide_false, List.nodup_nil, List.nodup_cons, oks_p, oks_m, oks_h, ne_eq, not_false_eq_true, Int.reduceEq, Int.reduceNe, true_and, Nat.reduceSub, Nat.reduceMul, ↓reduceIte, reduceCtorEq, Nat.reduceEqDiff, Nat.reduceAdd, Nat.reduceLeDiff, Int.reduceLE, cZ2]; exact w_spec_l1In _ _ _ hrZ3 ) ?_
      simp only [VA, VF1, ↓reduceIte, Nat.reduceEqDiff, Nat.reduceAdd, Nat.reduceMul, Nat.reduceSub, Nat.reduceLeDiff]
      refine Or.elim (bt (!rZ3)) (fun cZ4 => ?_) (fun cZ4 => ?_)
      · replace h := cond_t cZ4 h
        cases h
        try simp only [VS1, VS2, VS3, VS4, VS5, VS6, VT1, VT2, finM_ret, finM_nrm, decide_true, decide_false, List.nodup_nil, List.nodup_cons, oks_p, oks_m, oks_h, ne_eq, not_false_eq_true, Int.reduceEq, Int.reduceNe, true_and, Nat.reduceSub, Nat.reduceMul, ↓reduceIte, reduceCtorEq, Nat.reduceEqDiff, Nat.reduceAdd, Nat.reduceLeDiff, Int.reduceLE, cZ2, cZ4]
        all_goals simp [qL, qJ, qJ0, qS, qX, qR, qM, Shp, sub, tupd, VS1, VS2, VS3, VS4, VS5, VS6, VT1, VT2]
      · replace h := cond_f cZ4 h
        obtain ⟨rZ5, hrZ5, h⟩ := bind_s h
        simp only [VS1, VS2, VS3, VS4, VS5, VS6, VT1, VT2, finM_ret, finM_nrm, decide_true, decide_false, List.nodup_nil, List.nodup_cons, oks_p, oks_m, oks_h, ne_eq, not_false_eq_true, Int.reduceEq, Int.reduceNe, true_and, Nat.reduceSub, Nat.reduceMul, ↓reduceIte, reduceCtorEq, Nat.reduceEqDiff, Nat.reduceAdd, Nat.reduceLeDiff, Int.reduceLE, cZ2, cZ4]
        refine call_u (by simp only [VS1, VS2, VS3, VS4, VS5, VS6, VT1, VT2, finM_ret, finM_nrm, decide_true, decide_false, List.nodup_nil, List.nodup_cons, oks_p, oks_m, oks_h, ne_eq, not_false_eq_true, Int.reduceEq, Int.reduceNe, true_and, Nat.reduceSub, Nat.reduceMul, ↓reduceIte, reduceCtorEq, Nat.reduceEqDiff, Nat.reduceAdd, Nat.reduceLeDiff, Int.reduceLE, cZ2, cZ4]; exact w_spec_l2Groups _ hrZ5 ) (by simp [AV.allU, allUL, allUL_iff, VT1, VT2]) (by simp only [VS1, VS2, VS3, VS4, VS5, VS6, VT1, VT2, finM_ret, finM_nrm, decide_true, decide_false, List.nodup_nil, List.nodup_cons, oks_p, oks_m, oks_h, ne_eq, not_false_eq_true, Int.reduceEq, Int.reduceNe, true_and, Nat.reduceSub, Nat.reduceMul, ↓reduceIte, reduceCtorEq, Nat.reduceEqDiff, Nat.reduceAdd, Nat.reduceLeDiff, Int.reduceLE, Nat.reduceLT]) ?_
        simp only [VA, VF1, ↓reduceIte, Nat.reduceEqDiff, Nat.reduceAdd, Nat.reduceMul, Nat.reduceSub, Nat.reduceLeDiff]
        cases h
        try simp only [VS1, VS2, VS3, VS4, VS5, VS6, VT1, VT2, finM_ret, finM_nrm, decide_true, decide_false, List.nodup_nil, List.nodup_cons, oks_p, oks_m, oks_h, ne_eq, not_false_eq_true, Int.reduceEq, Int.reduceNe, true_and, Nat.reduceSub, Nat.reduceMul, ↓reduceIte, reduceCtorEq, Nat.reduceEqDiff, Nat.reduceAdd, Nat.reduceLeDiff, Int.reduceLE, cZ2, cZ4]
        all_goals simp [qL, qJ, qJ0, qS, qX, qR, qM, Shp, sub, tupd, VS1, VS2, VS3, VS4, VS5, VS6, VT1, VT2]
  · simp only [A62R1]
    refine Or.elim (bt (oZ6)) (fun cZ7 => ?_) (fun cZ7 => ?_)
    · replace h := cond_t cZ7 h
      cases h
      try simp only [VS1, VS2, VS3, VS4, VS5, VS6, VT1, VT2, finM_ret, finM_nrm, decide_true, decide_false, List.nodup_nil, List.nodup_cons, oks_p, oks_m, oks_h, ne_eq, not_false_eq_true, Int.reduceEq, Int.reduceNe, true_and, Nat.reduceSub, Nat.reduceMul, ↓reduceIte, reduceCtorEq, Nat.reduceEqDiff, Nat.reduceAdd, Nat.reduceLeDiff, Int.reduceLE, cZ7]
      all_goals simp [qL, qJ, qJ0, qS, qX, qR, qM, Shp, sub, tupd, VS1, VS2, VS3, VS4, VS5, VS6, VT1, VT2, V62]
    · replace h := cond_f cZ7 h
      obtain ⟨oZ13, hoZ13, h⟩ := bind_s h
      try simp only [VS1, VS2, VS3, VS4, VS5, VS6, VT1, VT2, finM_ret, finM_nrm, decide_true, decide_false, List.nodup_nil, List.nodup_cons, oks_p, oks_m, oks_h, ne_eq, not_false_eq_true, Int.reduceEq, Int.reduceNe, true_and, Nat.reduceSub, Nat.reduceMul, ↓reduceIte, reduceCtorEq, Nat.reduceEqDiff, Nat.reduceAdd, Nat.reduceLeDiff, Int.reduceLE, cZ7]
      refine join_rule (o := oZ13) (blk_rule sideR (loop_rule (w_spec_l16GoodL1 oZ0) hoZ13 ?_)) (fun vZ14 hv => ?_) (fun xZ15 hv e τ hne hq => ?_)
      · all_goals simp [qL, qJ, qJ0, qS, qX, qR, qM, Shp, sub, tupd, VS1, VS2, VS3, VS4, VS5, VS6, VT1, VT2, S_spec_l16GoodL1, SX_spec_l16GoodL1]
      · subst hv
        simp only [] at h
        simp only [SX_spec_l16GoodL1, A62R3]
        cases h
        try simp only [VS1, VS2, VS3, VS4, VS5, VS6, VT1, VT2, finM_ret, finM_nrm, decide_true, decide_false, List.nodup_nil, List.nodup_cons, oks_p, oks_m, oks_h, ne_eq, not_false_eq_true, Int.reduceEq, Int.reduceNe, true_and, Nat.reduceSub, Nat.reduceMul, ↓reduceIte, reduceCtorEq, Nat.reduceEqDiff, Nat.reduceAdd, Nat.reduceLeDiff, Int.reduceLE, cZ7]
        all_goals simp [qL, qJ, qJ0, qS, qX, qR, qM, Shp, sub, tupd, VS1, VS2, VS3, VS4, VS5, VS6, VT1, VT2, V62]
      · subst hv
        simp only [] at h
        obtain ⟨rfl, qZ16⟩ := hq
        cases h
        exact qZ16
theorem w_spec_l6Ends (nZ0 : TNetwork) (fromZ0 : Int) (toZ0 : Int) {r : Bool} (h : M_spec_l6Ends nZ0 fromZ0 toZ0 = some r) : Ok Try.prog 85 [.agg [.lst .o 1 (nZ0.Nodes.map AV.z), .lst .o 4 (nZ0.Fibers.map (e_TFiber .o))], .i fromZ0, .i toZ0] ((fun r => .b r) r) := by
  refine ok_of_body hmix m85 rfl ?_
  unfold M_spec_l6Ends at h
  simp only [A85, V85, body_eq]
  obtain ⟨rZ1, hrZ1, h⟩ := bind_s h
  simp only [VS1, VS2, VS3, VS4, VS5, VS6, VT1, VT2, finM_ret, finM_nrm, decide_true, decide_false, List.nodup_nil, List.nodup_cons, oks_p, oks_m, oks_h, ne_eq, not_false_eq_true, Int.reduceEq, Int.reduceNe, true_and, Nat.reduceSub, Nat.reduceMul, ↓reduceIte, reduceCtorEq, Nat.reduceEqDiff, Nat.reduceAdd, Nat.reduceLeDiff, Int.reduceLE]
  refine call_s (by simp only [VS1, VS2, VS3, VS4, VS5, VS6, VT1, VT2, finM_ret, finM_nrm, decide_true, decide_false, List.nodup_nil, List.nodup_cons, oks_p, oks_m, oks_h, ne_eq, not_false_eq_true, Int.reduceEq, Int.reduceNe, true_and, Nat.reduceSub, Nat.reduceMul, ↓reduceIte, reduceCtorEq, Nat.reduceEqDiff, Nat.reduceAdd, Nat.reduceLeDiff, Int.reduceLE]; exact w_spec_l2Good _ hrZ1 ) ?_
  simp only [VA, VF1, ↓reduceIte, Nat.reduceEqDiff, Nat.reduceAdd, Nat.reduceMul, Nat.reduceSub, Nat.reduceLeDiff]
  refine Or.elim (bt (rZ1)) (fun cZ2 => ?_) (fun cZ2 => ?_)
  · replace h := cond_t cZ2 h
    obtain ⟨rZ3, hrZ3, h⟩ := bind_s h
    simp only [VS1, VS2, VS3, VS4, VS5, VS6, VT1, VT2, finM_ret, finM_nrm, decide_true, decide_false, List.nodup_nil, List.nodup_cons, oks_p, oks_m, oks_h, ne_eq, not_false_eq_true, Int.reduceEq, Int.reduceNe, true_and, Nat.reduceSub, Nat.reduceMul, ↓reduceIte, reduceCtorEq, Nat.reduceEqDiff, Nat.reduceAdd, Nat.reduceLeDiff, Int.reduceLE, cZ2]
    refine call_s (by simp only [VS1, VS2, VS3, VS4, VS5, VS6, VT1, VT2, finM_ret, finM_nrm, decide_true, decide_false, List.nodup_nil, List.nodup_cons, oks_p, oks_m, oks_h, ne_eq, not_false_eq_true, Int.reduceEq, Int.reduceNe, true_and, Nat.reduceSub, Nat.reduceMul, ↓reduceIte, reduceCtorEq, Nat.reduceEqDiff, Nat.reduceAdd, Nat.reduceLeDiff, Int.reduceLE, cZ2]; exact w_spec_l1In _ _ _ hrZ3 ) ?_
    simp only [VA, VF1, ↓reduceIte, Nat.reduceEqDiff, Nat.reduceAdd, Nat.reduceMul, Nat.reduceSub, Nat.reduceLeDiff]
    refine Or.elim (bt (rZ3)) (fun cZ4 => ?_) (fun cZ4 => ?_)
    · replace h := cond_t cZ4 h
      obtain ⟨rZ5, hrZ5, h⟩ := bind_s h
      simp only [VS1, VS2, VS3, VS4, VS5, VS6, VT1, VT2, finM_ret, finM_nrm, decide_true, decide_false, List.nodup_nil, List.nodup_cons, oks_p, oks_m, oks_h, ne_eq, not_false_eq_true, Int.reduceEq, Int.reduceNe, true_and, Nat.reduceSub, Nat.reduceMul, ↓reduceIte, reduceCtorEq, Nat.reduceEqDiff, Nat.reduceAdd, Nat.reduceLeDiff, Int.reduceLE, cZ2, cZ4]
      refine call_s (by simp only [VS1, VS2, VS3, VS4, VS5, VS6, VT1, VT2, finM_ret, finM_nrm, decide_true, decide_false, List.nodup_nil, List.nodup_cons, oks_p, oks_m, oks_h, ne_eq, not_false_eq_true, Int.reduceEq, Int.reduceNe, true_and, Nat.reduceSub, Nat.reduceMul, ↓reduceIte, reduceCtorEq, Nat.reduceEqDiff, Nat.reduceAdd, Nat.reduceLeDiff, Int.reduceLE, cZ2, cZ4]; exact w_spec_l1In _ _ _ hrZ5 ) ?_
      simp only [VA, VF1, ↓reduceIte, Nat.reduceEqDiff, Nat.reduceAdd, Nat.reduceMul, Nat.reduceSub, Nat.reduceLeDiff]
      refine Or.elim (bt (rZ5)) (fun cZ6 => ?_) (fun cZ6 => ?_)
      · replace h := cond_t cZ6 h
        cases h
        try simp only [VS1, VS2, VS3, VS4, VS5, VS6, VT1, VT2, finM_ret, finM_nrm, decide_true, decide_false, List.nodup_nil, List.nodup_cons, oks_p, oks_m, oks_h, ne_eq, not_false_eq_true, Int.reduceEq, Int.reduceNe, true_and, Nat.reduceSub, Nat.reduceMul, ↓reduceIte, reduceCtorEq, Nat.reduceEqDiff, Nat.reduceAdd, Nat.reduceLeDiff, Int.reduceLE, cZ2, cZ4, cZ6]
        all_goals simp [qL, qJ, qJ0, qS, qX, qR, qM, Shp, sub, tupd, VS1, VS2, VS3, VS4, VS5, VS6, VT1, VT2, V85]
      · replace h := cond_f cZ6 h
        cases h
        try simp only [VS1, VS2, VS3, VS4, VS5, VS6, VT1, VT2, finM_ret, finM_nrm, decide_true, decide_false, List.nodup_nil, List.nodup_cons, oks_p, oks_m, oks_h, ne_eq, not_false_eq_true, Int.reduceEq, Int.reduceNe, true_and, Nat.reduceSub, Nat.reduceMul, ↓reduceIte, reduceCtorEq, Nat.reduceEqDiff, Nat.reduceAdd, Nat.reduceLeDiff, Int.reduceLE, cZ2, cZ4, cZ6]
        all_goals simp [qL, qJ, qJ0, qS, qX, qR, qM, Shp, sub, tupd, VS1, VS2, VS3, VS4, VS5, VS6, VT1, VT2, V85]
    · replace h := cond_f cZ4 h
      cases h
      try simp only [VS1, VS2, VS3, VS4, VS5, VS6, VT1, VT2, finM_ret, finM_nrm, decide_true, decide_false, List.nodup_nil, List.nodup_cons, oks_p, oks_m, oks_h, ne_eq, not_false_eq_true, Int.reduceEq, Int.reduceNe, true_and, Nat.reduceSub, Nat.reduceMul, ↓reduceIte, reduceCtorEq, Nat.reduceEqDiff, Nat.reduceAdd, Nat.reduceLeDiff, Int.reduceLE, cZ2, cZ4]
      all_goals simp [qL, qJ, qJ0, qS, qX, qR, qM, Shp, sub, tupd, VS1, VS2, VS3, VS4, VS5, VS6, VT1, VT2, V85]
  · replace h := cond_f cZ2 h
    cases h
    try simp only [VS1, VS2, VS3, VS4, VS5, VS6, VT1, VT2, finM_ret, finM_nrm, decide_true, decide_false, List.nodup_nil, List.nodup_cons, oks_p, oks_m, oks_h, ne_eq, not_false_eq_true, Int.reduceEq, Int.reduceNe, true_and, Nat.reduceSub, Nat.reduceMul, ↓reduceIte, reduceCtorEq, Nat.reduceEqDiff, Nat.reduceAdd, Nat.reduceLeDiff, Int.reduceLE, cZ2]
    all_goals simp [qL, qJ, qJ0, qS, qX, qR, qM, Shp, sub, tupd, VS1, VS2, VS3, VS4, VS5, VS6, VT1, VT2, V85]
def S_spec_l6MaskL1 (listZ0 : List Int) (v : Int × Int) : St := ⟨[(0, .lst .o 1 (listZ0.map AV.i)), (3, .i v.1), (4, .i v.2)], []⟩
def SX_spec_l6MaskL1 (v : Int) : St := ⟨[(3, .i v)], []⟩
theorem w_spec_l6MaskL1 (listZ0 : List Int) (sZ1 : Int × Int) (o : (Int × Int) ⊕ Int) (h : M_spec_l6MaskL1 listZ0 sZ1 = some o) : AWP (OkS Try.prog) A77L1 (qL [0, 3, 4] [] (S_spec_l6MaskL1 listZ0) (qX 0 [3] [] (SX_spec_l6MaskL1)) o) (S_spec_l6MaskL1 listZ0 sZ1) := by
  unfold M_spec_l6MaskL1 at h
  simp only [S_spec_l6MaskL1, A77L1]
  refine Or.elim (bt (decide (sZ1.2 < (listZ0.length : Int)))) (fun cZ2 => ?_) (fun cZ2 => ?_)
  · replace h := cond_t cZ2 h
    obtain ⟨yZ3, hyZ3, h⟩ := bind_s h
    obtain ⟨hyZ3a, hyZ3b⟩ := geti_s hyZ3
    obtain ⟨uZ4, huZ4, h⟩ := bind_s h
    have huZ4g := grd_s huZ4
    cases h
    try simp only [VS1, VS2, VS3, VS4, VS5, VS6, VT1, VT2, finM_ret, finM_nrm, decide_true, decide_false, List.nodup_nil, List.nodup_cons, oks_p, oks_m, oks_h, ne_eq, not_false_eq_true, Int.reduceEq, Int.reduceNe, true_and, Nat.reduceSub, Nat.reduceMul, ↓reduceIte, reduceCtorEq, Nat.reduceEqDiff, Nat.reduceAdd, Nat.reduceLeDiff, Int.reduceLE, cZ2, hyZ3a, hyZ3b, huZ4g]
    all_goals simp [qL, qJ, qJ0, qS, qX, qR, qM, Shp, sub, tupd, VS1, VS2, VS3, VS4, VS5, VS6, VT1, VT2, S_spec_l6MaskL1, SX_spec_l6MaskL1]
  · replace h := cond_f cZ2 h
    cases h
    try simp only [VS1, VS2, VS3, VS4, VS5, VS6, VT1, VT2, finM_ret, finM_nrm, decide_true, decide_false, List.nodup_nil, List.nodup_cons, oks_p, oks_m, oks_h, ne_eq, not_false_eq_true, Int.reduceEq, Int.reduceNe, true_and, Nat.reduceSub, Nat.reduceMul, ↓reduceIte, reduceCtorEq, Nat.reduceEqDiff, Nat.reduceAdd, Nat.reduceLeDiff, Int.reduceLE, cZ2]
    all_goals simp [qL, qJ, qJ0, qS, qX, qR, qM, Shp, sub, tupd, VS1, VS2, VS3, VS4, VS5, VS6, VT1, VT2, S_spec_l6MaskL1, SX_spec_l6MaskL1]
theorem w_spec_l6Mask (listZ0 : List Int) {r : Int} (h : M_spec_l6Mask listZ0 = some r) : Ok Try.prog 77 [.lst .o 1 (listZ0.map AV.i)] ((fun r => .i r) r) := by
  refine ok_of_body hmix m77 rfl ?_
  unfold M_spec_l6Mask at h
  simp only [A77, V77, body_eq]
  obtain ⟨oZ5, hoZ5, h⟩ := bind_s h
  try simp only [VS1, VS2, VS3, VS4, VS5, VS6, VT1, VT2, finM_ret, finM_nrm, decide_true, decide_false, List.nodup_nil, List.nodup_cons, oks_p, oks_m, oks_h, ne_eq, not_false_eq_true, Int.reduceEq, Int.reduceNe, true_and, Nat.reduceSub, Nat.reduceMul, ↓reduceIte, reduceCtorEq, Nat.reduceEqDiff, Nat.reduceAdd, Nat.reduceLeDiff, Int.reduceLE]
  refine join_rule0 (blk_rule0 (loop_rule (w_spec_l6MaskL1 listZ0) hoZ5 ?_)) ?_
  · all_goals simp [qL, qJ, qJ0, qS, qX, qR, qM, Shp, sub, tupd, VS1, VS2, VS3, VS4, VS5, VS6, VT1, VT2, S_spec_l6MaskL1, SX_spec_l6MaskL1]
  · simp only [SX_spec_l6MaskL1, A77R2]
    cases h
    try simp only [VS1, VS2, VS3, VS4, VS5, VS6, VT1, VT2, finM_ret, finM_nrm, decide_true, decide_false, List.nodup_nil, List.nodup_cons, oks_p, oks_m, oks_h, ne_eq, not_false_eq_true, Int.reduceEq, Int.reduceNe, true_and, Nat.reduceSub, Nat.reduceMul, ↓reduceIte, reduceCtorEq, Nat.reduceEqDiff, Nat.reduceAdd, Nat.reduceLeDiff, Int.reduceLE]
    all_goals simp [qL, qJ, qJ0, qS, qX, qR, qM, Shp, sub, tupd, VS1, VS2, VS3, VS4, VS5, VS6, VT1, VT2, V77]
def S_spec_l16GoneL1 (groupsZ0 : List (List Int)) (maskZ0 : Int) (v : Int × Int) : St := ⟨[(0, .lst .o 1 (groupsZ0.map (e_Li .o))), (1, .i maskZ0), (5, .i v.1), (6, .i v.2)], []⟩
def SX_spec_l16GoneL1 (v : Int) : St := ⟨[(5, .i v)], []⟩
theorem w_spec_l16GoneL1 (groupsZ0 : List (List Int)) (maskZ0 : Int) (sZ1 : Int × Int) (o : (Int × Int) ⊕ Int) (h : M_spec_l16GoneL1 groupsZ0 maskZ0 sZ1 = some o) : AWP (OkS Try.prog) A94L1 (qL [0, 1, 5, 6] [] (S_spec_l16GoneL1 groupsZ0 maskZ0) (qX 0 [5] [] (SX_spec_l16GoneL1)) o) (S_spec_l16GoneL1 groupsZ0 maskZ0 sZ1) := by
  unfold M_spec_l16GoneL1 at h
  simp only [S_spec_l16GoneL1, A94L1]
  refine Or.elim (bt (decide (sZ1.2 < (groupsZ0.length : Int)))) (fun cZ2 => ?_) (fun cZ2 => ?_)
  · replace h := cond_t cZ2 h
    obtain ⟨uZ3, huZ3, h⟩ := bind_s h
    have huZ3g := grd_s huZ3
    refine Or.elim (bt ((bits .and .i64 (Int.fdiv maskZ0 (2 ^ (min (Int.toNat (IntKind.wrap .u64 sZ1.2)) (IntKind.bits .i64)))) 1) == 1)) (fun cZ4 => ?_) (fun cZ4 => ?_)
    · replace h := cond_t cZ4 h
      obtain ⟨yZ5, hyZ5, h⟩ := bind_s h
      obtain ⟨hyZ5a, hyZ5b⟩ := geti_s hyZ5
      obtain ⟨rZ6, hrZ6, h⟩ := bind_s h
      simp only [VS1, VS2, VS3, VS4, VS5, VS6, VT1, VT2, finM_ret, finM_nrm, decide_true, decide_false, List.nodup_nil, List.nodup_cons, oks_p, oks_m, oks_h, ne_eq, not_false_eq_true, Int.reduceEq, Int.reduceNe, true_and, Nat.reduceSub, Nat.reduceMul, ↓reduceIte, reduceCtorEq, Nat.reduceEqDiff, Nat.reduceAdd, Nat.reduceLeDiff, Int.reduceLE, cZ2, huZ3g, cZ4, hyZ5a, hyZ5b]
      refine call_s (by simp only [VS1, VS2, VS3, VS4, VS5, VS6, VT1, VT2, finM_ret, finM_nrm, decide_true, decide_false, List.nodup_nil, List.nodup_cons, oks_p, oks_m, oks_h, ne_eq, not_false_eq_true, Int.reduceEq, Int.reduceNe, true_and, Nat.reduceSub, Nat.reduceMul, ↓reduceIte, reduceCtorEq, Nat.reduceEqDiff, Nat.reduceAdd, Nat.reduceLeDiff, Int.reduceLE, cZ2, huZ3g, cZ4, hyZ5a, hyZ5b]; exact w_spec_l6Mask _ hrZ6 ) ?_
      simp only [VA, VF1, ↓reduceIte, Nat.reduceEqDiff, Nat.reduceAdd, Nat.reduceMul, Nat.reduceSub, Nat.reduceLeDiff]
      cases h
      try simp only [VS1, VS2, VS3, VS4, VS5, VS6, VT1, VT2, finM_ret, finM_nrm, decide_true, decide_false, List.nodup_nil, List.nodup_cons, oks_p, oks_m, oks_h, ne_eq, not_false_eq_true, Int.reduceEq, Int.reduceNe, true_and, Nat.reduceSub, Nat.reduceMul, ↓reduceIte, reduceCtorEq, Nat.reduceEqDiff, Nat.reduceAdd, Nat.reduceLeDiff, Int.reduceLE, cZ2, huZ3g, cZ4, hyZ5a, hyZ5b]
      all_goals simp [qL, qJ, qJ0, qS, qX, qR, qM, Shp, sub, tupd, VS1, VS2, VS3, VS4, VS5, VS6, VT1, VT2, S_spec_l16GoneL1, SX_spec_l16GoneL1]
    · replace h := cond_f cZ4 h
      cases h
      try simp only [VS1, VS2, VS3, VS4, VS5, VS6, VT1, VT2, finM_ret, finM_nrm, decide_true, decide_false, List.nodup_nil, List.nodup_cons, oks_p, oks_m, oks_h, ne_eq, not_false_eq_true, Int.reduceEq, Int.reduceNe, true_and, Nat.reduceSub, Nat.reduceMul, ↓reduceIte, reduceCtorEq, Nat.reduceEqDiff, Nat.reduceAdd, Nat.reduceLeDiff, Int.reduceLE, cZ2, huZ3g, cZ4]
      all_goals simp [qL, qJ, qJ0, qS, qX, qR, qM, Shp, sub, tupd, VS1, VS2, VS3, VS4, VS5, VS6, VT1, VT2, S_spec_l16GoneL1, SX_spec_l16GoneL1]
  · replace h := cond_f cZ2 h
    cases h
    try simp only [VS1, VS2, VS3, VS4, VS5, VS6, VT1, VT2, finM_ret, finM_nrm, decide_true, decide_false, List.nodup_nil, List.nodup_cons, oks_p, oks_m, oks_h, ne_eq, not_false_eq_true, Int.reduceEq, Int.reduceNe, true_and, Nat.reduceSub, Nat.reduceMul, ↓reduceIte, reduceCtorEq, Nat.reduceEqDiff, Nat.reduceAdd, Nat.reduceLeDiff, Int.reduceLE, cZ2]
    all_goals simp [qL, qJ, qJ0, qS, qX, qR, qM, Shp, sub, tupd, VS1, VS2, VS3, VS4, VS5, VS6, VT1, VT2, S_spec_l16GoneL1, SX_spec_l16GoneL1]
theorem w_spec_l16Gone (groupsZ0 : List (List Int)) (maskZ0 : Int) {r : Int} (h : M_spec_l16Gone groupsZ0 maskZ0 = some r) : Ok Try.prog 94 [.lst .o 1 (groupsZ0.map (e_Li .o)), .i maskZ0] ((fun r => .i r) r) := by
  refine ok_of_body hmix m94 rfl ?_
  unfold M_spec_l16Gone at h
  simp only [A94, V94, body_eq]
  obtain ⟨oZ7, hoZ7, h⟩ := bind_s h
  try simp only [VS1, VS2, VS3, VS4, VS5, VS6, VT1, VT2, finM_ret, finM_nrm, decide_true, decide_false, List.nodup_nil, List.nodup_cons, oks_p, oks_m, oks_h, ne_eq, not_false_eq_true, Int.reduceEq, Int.reduceNe, true_and, Nat.reduceSub, Nat.reduceMul, ↓reduceIte, reduceCtorEq, Nat.reduceEqDiff, Nat.reduceAdd, Nat.reduceLeDiff, Int.reduceLE]
  refine join_rule0 (blk_rule0 (loop_rule (w_spec_l16GoneL1 groupsZ0 maskZ0) hoZ7 ?_)) ?_
  · all_goals simp [qL, qJ, qJ0, qS, qX, qR, qM, Shp, sub, tupd, VS1, VS2, VS3, VS4, VS5, VS6, VT1, VT2, S_spec_l16GoneL1, SX_spec_l16GoneL1]
  · simp only [SX_spec_l16GoneL1, A94R2]
    cases h
    try simp only [VS1, VS2, VS3, VS4, VS5, VS6, VT1, VT2, finM_ret, finM_nrm, decide_true, decide_false, List.nodup_nil, List.nodup_cons, oks_p, oks_m, oks_h, ne_eq, not_false_eq_true, Int.reduceEq, Int.reduceNe, true_and, Nat.reduceSub, Nat.reduceMul, ↓reduceIte, reduceCtorEq, Nat.reduceEqDiff, Nat.reduceAdd, Nat.reduceLeDiff, Int.reduceLE]
    all_goals simp [qL, qJ, qJ0, qS, qX, qR, qM, Shp, sub, tupd, VS1, VS2, VS3, VS4, VS5, VS6, VT1, VT2, V94]
theorem w_spec_l1Least (aZ0 : Int) (bZ0 : Int) {r : Int} (h : M_spec_l1Least aZ0 bZ0 = some r) : Ok Try.prog 125 [.i aZ0, .i bZ0] ((fun r => .i r) r) := by
  refine ok_of_body hmix m125 rfl ?_
  unfold M_spec_l1Least at h
  simp only [A125, V125, body_eq]
  refine Or.elim (bt (decide (aZ0 < bZ0))) (fun cZ1 => ?_) (fun cZ1 => ?_)
  · replace h := cond_t cZ1 h
    cases h
    try simp only [VS1, VS2, VS3, VS4, VS5, VS6, VT1, VT2, finM_ret, finM_nrm, decide_true, decide_false, List.nodup_nil, List.nodup_cons, oks_p, oks_m, oks_h, ne_eq, not_false_eq_true, Int.reduceEq, Int.reduceNe, true_and, Nat.reduceSub, Nat.reduceMul, ↓reduceIte, reduceCtorEq, Nat.reduceEqDiff, Nat.reduceAdd, Nat.reduceLeDiff, Int.reduceLE, cZ1]
    all_goals simp [qL, qJ, qJ0, qS, qX, qR, qM, Shp, sub, tupd, VS1, VS2, VS3, VS4, VS5, VS6, VT1, VT2, V125]
  · replace h := cond_f cZ1 h
    cases h
    try simp only [VS1, VS2, VS3, VS4, VS5, VS6, VT1, VT2, finM_ret, finM_nrm, decide_true, decide_false, List.nodup_nil, List.nodup_cons, oks_p, oks_m, oks_h, ne_eq, not_false_eq_true, Int.reduceEq, Int.reduceNe, true_and, Nat.reduceSub, Nat.reduceMul, ↓reduceIte, reduceCtorEq, Nat.reduceEqDiff, Nat.reduceAdd, Nat.reduceLeDiff, Int.reduceLE, cZ1]
    all_goals simp [qL, qJ, qJ0, qS, qX, qR, qM, Shp, sub, tupd, VS1, VS2, VS3, VS4, VS5, VS6, VT1, VT2, V125]
def S_spec_l6LabelsL1 (nZ0 : TNetwork) (goneZ0 : Int) (v : Int × List Int) : St := ⟨[(1, .i goneZ0), (2, .pt 2 0 0), (5, .sl 5 0 v.2.length), (6, .i v.1)], [(2, .var (.agg [.lst .o 1 (nZ0.Nodes.map AV.z), .lst .o 4 (nZ0.Fibers.map (e_TFiber .o))])), (5, .arr 1 (v.2.map AV.i))]⟩
def SX_spec_l6LabelsL1 (nZ0 : TNetwork) (goneZ0 : Int) (v : List Int) : St := ⟨[(1, .i goneZ0), (2, .pt 2 0 0), (5, .sl 5 0 v.length)], [(2, .var (.agg [.lst .o 1 (nZ0.Nodes.map AV.z), .lst .o 4 (nZ0.Fibers.map (e_TFiber .o))])), (5, .arr 1 (v.map AV.i))]⟩
theorem w_spec_l6LabelsL1 (nZ0 : TNetwork) (goneZ0 : Int) (sZ1 : Int × List Int) (o : (Int × List Int) ⊕ (List Int)) (h : M_spec_l6LabelsL1 nZ0 sZ1 = some o) : AWP (OkS Try.prog) A93L1 (qL [1, 2, 5, 6] [2, 5] (S_spec_l6LabelsL1 nZ0 goneZ0) (qX 0 [1, 2, 5] [2, 5] (SX_spec_l6LabelsL1 nZ0 goneZ0)) o) (S_spec_l6LabelsL1 nZ0 goneZ0 sZ1) := by
  unfold M_spec_l6LabelsL1 at h
  simp only [S_spec_l6LabelsL1, A93L1]
  refine Or.elim (bt (decide (sZ1.1 < (nZ0.Nodes.length : Int)))) (fun cZ2 => ?_) (fun cZ2 => ?_)
  · replace h := cond_t cZ2 h
    obtain ⟨lZ3, hlZ3, h⟩ := bnd_s h
    have eZ4 : Row.arr 1 [(.i sZ1.1 : AV)] = Row.arr 1 (lZ3.map AV.i) := by rw [← hlZ3]; rfl
    have eZ5 : lZ3.length = 1 := by rw [← hlZ3]; rfl
    obtain ⟨uZ6, huZ6, h⟩ := bind_s h
    have huZ6g := grd_s huZ6
    obtain ⟨lZ7, hlZ7, h⟩ := bnd_s h
    have eZ8 : sZ1.2.map AV.i ++ lZ3.map AV.i = lZ7.map AV.i := by rw [← hlZ7, List.map_append]
    have eZ9 : sZ1.2.length + 1 = lZ7.length := by simp [← hlZ3, ← hlZ7] <;> omega
    rw [eZ9] at huZ6g
    cases h
    try simp only [VS1, VS2, VS3, VS4, VS5, VS6, VT1, VT2, finM_ret, finM_nrm, decide_true, decide_false, List.nodup_nil, List.nodup_cons, oks_p, oks_m, oks_h, ne_eq, not_false_eq_true, Int.reduceEq, Int.reduceNe, true_and, Nat.reduceSub, Nat.reduceMul, ↓reduceIte, reduceCtorEq, Nat.reduceEqDiff, Nat.reduceAdd, Nat.reduceLeDiff, Int.reduceLE, cZ2, eZ4, eZ5, huZ6g, eZ8, eZ9]
    all_goals simp [qL, qJ, qJ0, qS, qX, qR, qM, Shp, sub, tupd, VS1, VS2, VS3, VS4, VS5, VS6, VT1, VT2, S_spec_l6LabelsL1, SX_spec_l6LabelsL1, ← hlZ3, ← hlZ7]
  · replace h := cond_f cZ2 h
    cases h
    try simp only [VS1, VS2, VS3, VS4, VS5, VS6, VT1, VT2, finM_ret, finM_nrm, decide_true, decide_false, List.nodup_nil, List.nodup_cons, oks_p, oks_m, oks_h, ne_eq, not_false_eq_true, Int.reduceEq, Int.reduceNe, true_and, Nat.reduceSub, Nat.reduceMul, ↓reduceIte, reduceCtorEq, Nat.reduceEqDiff, Nat.reduceAdd, Nat.reduceLeDiff, Int.reduceLE, cZ2]
    all_goals simp [qL, qJ, qJ0, qS, qX, qR, qM, Shp, sub, tupd, VS1, VS2, VS3, VS4, VS5, VS6, VT1, VT2, S_spec_l6LabelsL1, SX_spec_l6LabelsL1]
def S_spec_l6LabelsL3 (nZ0 : TNetwork) (goneZ0 : Int) (v : Bool × Int × List Int) : St := ⟨[(1, .i goneZ0), (2, .pt 2 0 0), (5, .sl 5 0 v.2.2.length), (7, .b v.1), (8, .i v.2.1)], [(2, .var (.agg [.lst .o 1 (nZ0.Nodes.map AV.z), .lst .o 4 (nZ0.Fibers.map (e_TFiber .o))])), (5, .arr 1 (v.2.2.map AV.i))]⟩
def SX_spec_l6LabelsL3 (nZ0 : TNetwork) (goneZ0 : Int) (v : Bool × List Int) : St := ⟨[(1, .i goneZ0), (2, .pt 2 0 0), (5, .sl 5 0 v.2.length), (7, .b v.1)], [(2, .var (.agg [.lst .o 1 (nZ0.Nodes.map AV.z), .lst .o 4 (nZ0.Fibers.map (e_TFiber .o))])), (5, .arr 1 (v.2.map AV.i))]⟩
theorem w_spec_l6LabelsL3 (nZ0 : TNetwork) (goneZ0 : Int) (sZ13 : Bool × Int × List Int) (o : (Bool × Int × List Int) ⊕ (Bool × List Int)) (h : M_spec_l6LabelsL3 nZ0 goneZ0 sZ13 = some o) : AWP (OkS Try.prog) A93L4 (qL [1, 2, 5, 7, 8] [2, 5] (S_spec_l6LabelsL3 nZ0 goneZ0) (qX 4 [1, 2, 5, 7] [2, 5] (SX_spec_l6LabelsL3 nZ0 goneZ0)) o) (S_spec_l6LabelsL3 nZ0 goneZ0 sZ13) := by
  unfold M_spec_l6LabelsL3 at h
  simp only [S_spec_l6LabelsL3, A93L4]
  refine Or.elim (bt (decide (sZ13.2.1 < (nZ0.Fibers.length : Int)))) (fun cZ14 => ?_) (fun cZ14 => ?_)
  · replace h := cond_t cZ14 h
    obtain ⟨yZ15, hyZ15, h⟩ := bind_s h
    obtain ⟨hyZ15a, hyZ15b⟩ := geti_s hyZ15
    obtain ⟨oZ22, hoZ22, h⟩ := bind_s h
    try simp only [VS1, VS2, VS3, VS4, VS5, VS6, VT1, VT2, finM_ret, finM_nrm, decide_true, decide_false, List.nodup_nil, List.nodup_cons, oks_p, oks_m, oks_h, ne_eq, not_false_eq_true, Int.reduceEq, Int.reduceNe, true_and, Nat.reduceSub, Nat.reduceMul, ↓reduceIte, reduceCtorEq, Nat.reduceEqDiff, Nat.reduceAdd, Nat.reduceLeDiff, Int.reduceLE, cZ14, hyZ15a, hyZ15b]
    refine join_rule0 (sh := (fun v => ⟨[(1, .i goneZ0), (2, .pt 2 0 0), (5, .sl 5 0 sZ13.2.2.length), (7, .b sZ13.1), (8, .i sZ13.2.1), (9, .i yZ15.A), (10, .i yZ15.B), (60, .b v)], [(2, .var (.agg [.lst .o 1 (nZ0.Nodes.map AV.z), .lst .o 4 (nZ0.Fibers.map (e_TFiber .o))])), (5, .arr 1 (sZ13.2.2.map AV.i))]⟩)) (s := oZ22) ?_ ?_
    · replace h := hoZ22
      obtain ⟨uZ16, huZ16, h⟩ := bind_s h
      have huZ16g := grd_s huZ16
      refine Or.elim (bt ((bits .and .i64 (Int.fdiv goneZ0 (2 ^ (min (Int.toNat (IntKind.wrap .u64 sZ13.2.1)) (IntKind.bits .i64)))) 1) == 1)) (fun cZ17 => ?_) (fun cZ17 => ?_)
      · replace h := cond_t cZ17 h
        cases h
        try simp only [VS1, VS2, VS3, VS4, VS5, VS6, VT1, VT2, finM_ret, finM_nrm, decide_true, decide_false, List.nodup_nil, List.nodup_cons, oks_p, oks_m, oks_h, ne_eq, not_false_eq_true, Int.reduceEq, Int.reduceNe, true_and, Nat.reduceSub, Nat.reduceMul, ↓reduceIte, reduceCtorEq, Nat.reduceEqDiff, Nat.reduceAdd, Nat.reduceLeDiff, Int.reduceLE, cZ14, hyZ15a, hyZ15b, huZ16g, cZ17]
        all_goals simp [qL, qJ, qJ0, qS, qX, qR, qM, Shp, sub, tupd, VS1, VS2, VS3, VS4, VS5, VS6, VT1, VT2]
      · replace h := cond_f cZ17 h
        obtain ⟨kZ18, hkZ18, h⟩ := bind_s h
        obtain ⟨hkZ18a, hkZ18b⟩ := grd_s hkZ18
        obtain ⟨yZ19, hyZ19, h⟩ := bind_s h
        obtain ⟨kZ20, hkZ20, h⟩ := bind_s h
        obtain ⟨hkZ20a, hkZ20b⟩ := grd_s hkZ20
        obtain ⟨yZ21, hyZ21, h⟩ := bind_s h
        cases h
        try simp only [VS1, VS2, VS3, VS4, VS5, VS6, VT1, VT2, finM_ret, finM_nrm, decide_true, decide_false, List.nodup_nil, List.nodup_cons, oks_p, oks_m, oks_h, ne_eq, not_false_eq_true, Int.reduceEq, Int.reduceNe, true_and, Nat.reduceSub, Nat.reduceMul, ↓reduceIte, reduceCtorEq, Nat.reduceEqDiff, Nat.reduceAdd, Nat.reduceLeDiff, Int.reduceLE, cZ14, hyZ15a, hyZ15b, huZ16g, cZ17, hkZ18a, hkZ18b, hyZ19, hkZ20a, hkZ20b, hyZ21]
        all_goals simp [qL, qJ, qJ0, qS, qX, qR, qM, Shp, sub, tupd, VS1, VS2, VS3, VS4, VS5, VS6, VT1, VT2]
    · simp only [A93R3]
      refine Or.elim (bt (oZ22)) (fun cZ23 => ?_) (fun cZ23 => ?_)
      · replace h := cond_t cZ23 h
        cases h
        try simp only [VS1, VS2, VS3, VS4, VS5, VS6, VT1, VT2, finM_ret, finM_nrm, decide_true, decide_false, List.nodup_nil, List.nodup_cons, oks_p, oks_m, oks_h, ne_eq, not_false_eq_true, Int.reduceEq, Int.reduceNe, true_and, Nat.reduceSub, Nat.reduceMul, ↓reduceIte, reduceCtorEq, Nat.reduceEqDiff, Nat.reduceAdd, Nat.reduceLeDiff, Int.reduceLE, cZ14, hyZ15a, hyZ15b, cZ23]
        all_goals simp [qL, qJ, qJ0, qS, qX, qR, qM, Shp, sub, tupd, VS1, VS2, VS3, VS4, VS5, VS6, VT1, VT2, S_spec_l6LabelsL3, SX_spec_l6LabelsL3]
      · replace h := cond_f cZ23 h
        obtain ⟨kZ24, hkZ24, h⟩ := bind_s h
        obtain ⟨hkZ24a, hkZ24b⟩ := grd_s hkZ24
        obtain ⟨yZ25, hyZ25, h⟩ := bind_s h
        obtain ⟨kZ26, hkZ26, h⟩ := bind_s h
        obtain ⟨hkZ26a, hkZ26b⟩ := grd_s hkZ26
        obtain ⟨yZ27, hyZ27, h⟩ := bind_s h
        obtain ⟨rZ28, hrZ28, h⟩ := bind_s h
        simp only [VS1, VS2, VS3, VS4, VS5, VS6, VT1, VT2, finM_ret, finM_nrm, decide_true, decide_false, List.nodup_nil, List.nodup_cons, oks_p, oks_m, oks_h, ne_eq, not_false_eq_true, Int.reduceEq, Int.reduceNe, true_and, Nat.reduceSub, Nat.reduceMul, ↓reduceIte, reduceCtorEq, Nat.reduceEqDiff, Nat.reduceAdd, Nat.reduceLeDiff, Int.reduceLE, cZ14, hyZ15a, hyZ15b, cZ23, hkZ24a, hkZ24b, hyZ25, hkZ26a, hkZ26b, hyZ27]
        refine call_s (by simp only [VS1, VS2, VS3, VS4, VS5, VS6, VT1, VT2, finM_ret, finM_nrm, decide_true, decide_false, List.nodup_nil, List.nodup_cons, oks_p, oks_m, oks_h, ne_eq, not_false_eq_true, Int.reduceEq, Int.reduceNe, true_and, Nat.reduceSub, Nat.reduceMul, ↓reduceIte, reduceCtorEq, Nat.reduceEqDiff, Nat.reduceAdd, Nat.reduceLeDiff, Int.reduceLE, cZ14, hyZ15a, hyZ15b, cZ23, hkZ24a, hkZ24b, hyZ25, hkZ26a, hkZ26b, hyZ27]; exact w_spec_l1Least _ _ hrZ28 ) ?_
        simp only [VA, VF1, ↓reduceIte, Nat.reduceEqDiff, Nat.reduceAdd, Nat.reduceMul, Nat.reduceSub, Nat.reduceLeDiff]
        obtain ⟨lZ29, hlZ29, h⟩ := bnd_s h
        have eZ30 : (sZ13.2.2.map AV.i).set (Int.toNat yZ15.A) (.i rZ28) = lZ29.map AV.i := by rw [← hlZ29, List.map_set]
        obtain ⟨yZ31, hyZ31, h⟩ := bind_s h
        obtain ⟨lZ32, hlZ32, h⟩ := bnd_s h
        have eZ33 : (lZ29.map AV.i).set (Int.toNat yZ15.B) (.i rZ28) = lZ32.map AV.i := by rw [← hlZ32, List.map_set]
        cases h
        try simp only [VS1, VS2, VS3, VS4, VS5, VS6, VT1, VT2, finM_ret, finM_nrm, decide_true, decide_false, List.nodup_nil, List.nodup_cons, oks_p, oks_m, oks_h, ne_eq, not_false_eq_true, Int.reduceEq, Int.reduceNe, true_and, Nat.reduceSub, Nat.reduceMul, ↓reduceIte, reduceCtorEq, Nat.reduceEqDiff, Nat.reduceAdd, Nat.reduceLeDiff, Int.reduceLE, cZ14, hyZ15a, hyZ15b, cZ23, hkZ24a, hkZ24b, hyZ25, hkZ26a, hkZ26b, hyZ27, eZ30, hyZ31, eZ33]
        all_goals simp [qL, qJ, qJ0, qS, qX, qR, qM, Shp, sub, tupd, VS1, VS2, VS3, VS4, VS5, VS6, VT1, VT2, S_spec_l6LabelsL3, SX_spec_l6LabelsL3, ← hlZ29, ← hlZ32]
  · replace h := cond_f cZ14 h
    cases h
    try simp only [VS1, VS2, VS3, VS4, VS5, VS6, VT1, VT2, finM_ret, finM_nrm, decide_true, decide_false, List.nodup_nil, List.nodup_cons, oks_p, oks_m, oks_h, ne_eq, not_false_eq_true, Int.reduceEq, Int.reduceNe, true_and, Nat.reduceSub, Nat.reduceMul, ↓reduceIte, reduceCtorEq, Nat.reduceEqDiff, Nat.reduceAdd, Nat.reduceLeDiff, Int.reduceLE, cZ14]
    all_goals simp [qL, qJ, qJ0, qS, qX, qR, qM, Shp, sub, tupd, VS1, VS2, VS3, VS4, VS5, VS6, VT1, VT2, S_spec_l6LabelsL3, SX_spec_l6LabelsL3]
def S_spec_l6LabelsL2 (nZ0 : TNetwork) (goneZ0 : Int) (v : Bool × List Int) : St := ⟨[(1, .i goneZ0), (2, .pt 2 0 0), (5, .sl 5 0 v.2.length), (7, .b v.1)], [(2, .var (.agg [.lst .o 1 (nZ0.Nodes.map AV.z), .lst .o 4 (nZ0.Fibers.map (e_TFiber .o))])), (5, .arr 1 (v.2.map AV.i))]⟩
def SX_spec_l6LabelsL2 (v : List Int) : St := ⟨[(5, .sl 5 0 v.length)], [(5, .arr 1 (v.map AV.i))]⟩
theorem w_spec_l6LabelsL2 (nZ0 : TNetwork) (goneZ0 : Int) (sZ11 : Bool × List Int) (o : (Bool × List Int) ⊕ (List Int)) (h : M_spec_l6LabelsL2 nZ0 goneZ0 sZ11 = some o) : AWP (OkS Try.prog) A93L5 (qL [1, 2, 5, 7] [2, 5] (S_spec_l6LabelsL2 nZ0 goneZ0) (qX 2 [5] [5] (SX_spec_l6LabelsL2)) o) (S_spec_l6LabelsL2 nZ0 goneZ0 sZ11) := by
  unfold M_spec_l6LabelsL2 at h
  simp only [S_spec_l6LabelsL2, A93L5]
  refine Or.elim (bt (sZ11.1)) (fun cZ12 => ?_) (fun cZ12 => ?_)
  · replace h := cond_t cZ12 h
    obtain ⟨oZ34, hoZ34, h⟩ := bind_s h
    try simp only [VS1, VS2, VS3, VS4, VS5, VS6, VT1, VT2, finM_ret, finM_nrm, decide_true, decide_false, List.nodup_nil, List.nodup_cons, oks_p, oks_m, oks_h, ne_eq, not_false_eq_true, Int.reduceEq, Int.reduceNe, true_and, Nat.reduceSub, Nat.reduceMul, ↓reduceIte, reduceCtorEq, Nat.reduceEqDiff, Nat.reduceAdd, Nat.reduceLeDiff, Int.reduceLE, cZ12]
    first | refine tail_rule0 (blk_rule0 (loop_rule (w_spec_l6LabelsL3 nZ0 goneZ0) hoZ34 ?_)) (fun τ qZ35 => ?_) | refine tail_blk0 (loop_rule (w_spec_l6LabelsL3 nZ0 goneZ0) hoZ34 ?_) (fun τ qZ35 => ?_)
    · all_goals simp [qL, qJ, qJ0, qS, qX, qR, qM, Shp, sub, tupd, VS1, VS2, VS3, VS4, VS5, VS6, VT1, VT2, S_spec_l6LabelsL3, SX_spec_l6LabelsL3]
    · cases h
      try simp only [VS1, VS2, VS3, VS4, VS5, VS6, VT1, VT2, finM_ret, finM_nrm, decide_true, decide_false, List.nodup_nil, List.nodup_cons, oks_p, oks_m, oks_h, ne_eq, not_false_eq_true, Int.reduceEq, Int.reduceNe, true_and, Nat.reduceSub, Nat.reduceMul, ↓reduceIte, reduceCtorEq, Nat.reduceEqDiff, Nat.reduceAdd, Nat.reduceLeDiff, Int.reduceLE]
      refine ⟨rfl, Shp.sub qZ35 (by decide) (by decide) ?_⟩
      all_goals simp [qL, qJ, qJ0, qS, qX, qR, qM, Shp, sub, tupd, VS1, VS2, VS3, VS4, VS5, VS6, VT1, VT2, S_spec_l6LabelsL2, SX_spec_l6LabelsL2, SX_spec_l6LabelsL3]
  · replace h := cond_f cZ12 h
    cases h
    try simp only [VS1, VS2, VS3, VS4, VS5, VS6, VT1, VT2, finM_ret, finM_nrm, decide_true, decide_false, List.nodup_nil, List.nodup_cons, oks_p, oks_m, oks_h, ne_eq, not_false_eq_true, Int.reduceEq, Int.reduceNe, true_and, Nat.reduceSub, Nat.reduceMul, ↓reduceIte, reduceCtorEq, Nat.reduceEqDiff, Nat.reduceAdd, Nat.reduceLeDiff, Int.reduceLE, cZ12]
    all_goals simp [qL, qJ, qJ0, qS, qX, qR, qM, Shp, sub, tupd, VS1, VS2, VS3, VS4, VS5, VS6, VT1, VT2, S_spec_l6LabelsL2, SX_spec_l6LabelsL2]
theorem w_spec_l6Labels (nZ0 : TNetwork) (goneZ0 : Int) {r : List Int} (h : M_spec_l6Labels nZ0 goneZ0 = some r) : Ok Try.prog 93 [.agg [.lst .o 1 (nZ0.Nodes.map AV.z), .lst .o 4 (nZ0.Fibers.map (e_TFiber .o))], .i goneZ0] ((fun r => .lst .u 1 (r.map AV.i)) r) := by
  refine ok_of_body hmix m93 rfl ?_
  unfold M_spec_l6Labels at h
  simp only [A93, V93, body_eq]
  obtain ⟨oZ10, hoZ10, h⟩ := bind_s h
  try simp only [VS1, VS2, VS3, VS4, VS5, VS6, VT1, VT2, finM_ret, finM_nrm, decide_true, decide_false, List.nodup_nil, List.nodup_cons, oks_p, oks_m, oks_h, ne_eq, not_false_eq_true, Int.reduceEq, Int.reduceNe, true_and, Nat.reduceSub, Nat.reduceMul, ↓reduceIte, reduceCtorEq, Nat.reduceEqDiff, Nat.reduceAdd, Nat.reduceLeDiff, Int.reduceLE]
  refine join_rule0 (blk_rule0 (loop_rule (w_spec_l6LabelsL1 nZ0 goneZ0) hoZ10 ?_)) ?_
  · all_goals simp [qL, qJ, qJ0, qS, qX, qR, qM, Shp, sub, tupd, VS1, VS2, VS3, VS4, VS5, VS6, VT1, VT2, S_spec_l6LabelsL1, SX_spec_l6LabelsL1]
  · simp only [SX_spec_l6LabelsL1, A93R2]
    obtain ⟨oZ36, hoZ36, h⟩ := bind_s h
    try simp only [VS1, VS2, VS3, VS4, VS5, VS6, VT1, VT2, finM_ret, finM_nrm, decide_true, decide_false, List.nodup_nil, List.nodup_cons, oks_p, oks_m, oks_h, ne_eq, not_false_eq_true, Int.reduceEq, Int.reduceNe, true_and, Nat.reduceSub, Nat.reduceMul, ↓reduceIte, reduceCtorEq, Nat.reduceEqDiff, Nat.reduceAdd, Nat.reduceLeDiff, Int.reduceLE]
    refine join_rule0 (blk_rule0 (loop_rule (w_spec_l6LabelsL2 nZ0 goneZ0) hoZ36 ?_)) ?_
    · all_goals simp [qL, qJ, qJ0, qS, qX, qR, qM, Shp, sub, tupd, VS1, VS2, VS3, VS4, VS5, VS6, VT1, VT2, S_spec_l6LabelsL2, SX_spec_l6LabelsL2]
    · simp only [SX_spec_l6LabelsL2, A93R6]
      cases h
      try simp only [VS1, VS2, VS3, VS4, VS5, VS6, VT1, VT2, finM_ret, finM_nrm, decide_true, decide_false, List.nodup_nil, List.nodup_cons, oks_p, oks_m, oks_h, ne_eq, not_false_eq_true, Int.reduceEq, Int.reduceNe, true_and, Nat.reduceSub, Nat.reduceMul, ↓reduceIte, reduceCtorEq, Nat.reduceEqDiff, Nat.reduceAdd, Nat.reduceLeDiff, Int.reduceLE]
      all_goals simp [qL, qJ, qJ0, qS, qX, qR, qM, Shp, sub, tupd, VS1, VS2, VS3, VS4, VS5, VS6, VT1, VT2, V93]
def S_spec_l16WeightL1 (oZ0 : TOutage) (maskZ0 : Int) (v : Int × Int) : St := ⟨[(1, .i maskZ0), (2, .pt 2 0 0), (5, .i v.1), (6, .i v.2)], [(2, .var (.agg [.i oZ0.Unit, .lst .o 1 (oZ0.Down.map AV.i)]))]⟩
def SX_spec_l16WeightL1 (v : Int) : St := ⟨[(5, .i v)], []⟩
theorem w_spec_l16WeightL1 (oZ0 : TOutage) (maskZ0 : Int) (sZ1 : Int × Int) (o : (Int × Int) ⊕ Int) (h : M_spec_l16WeightL1 oZ0 maskZ0 sZ1 = some o) : AWP (OkS Try.prog) A76L1 (qL [1, 2, 5, 6] [2] (S_spec_l16WeightL1 oZ0 maskZ0) (qX 0 [5] [] (SX_spec_l16WeightL1)) o) (S_spec_l16WeightL1 oZ0 maskZ0 sZ1) := by
  unfold M_spec_l16WeightL1 at h
  simp only [S_spec_l16WeightL1, A76L1]
  refine Or.elim (bt (decide (sZ1.2 < (oZ0.Down.length : Int)))) (fun cZ2 => ?_) (fun cZ2 => ?_)
  · replace h := cond_t cZ2 h
    obtain ⟨uZ3, huZ3, h⟩ := bind_s h
    have huZ3g := grd_s huZ3
    refine Or.elim (bt ((bits .and .i64 (Int.fdiv maskZ0 (2 ^ (min (Int.toNat (IntKind.wrap .u64 sZ1.2)) (IntKind.bits .i64)))) 1) == 1)) (fun cZ4 => ?_) (fun cZ4 => ?_)
    · replace h := cond_t cZ4 h
      obtain ⟨yZ5, hyZ5, h⟩ := bind_s h
      obtain ⟨hyZ5a, hyZ5b⟩ := geti_s hyZ5
      cases h
      try simp only [VS1, VS2, VS3, VS4, VS5, VS6, VT1, VT2, finM_ret, finM_nrm, decide_true, decide_false, List.nodup_nil, List.nodup_cons, oks_p, oks_m, oks_h, ne_eq, not_false_eq_true, Int.reduceEq, Int.reduceNe, true_and, Nat.reduceSub, Nat.reduceMul, ↓reduceIte, reduceCtorEq, Nat.reduceEqDiff, Nat.reduceAdd, Nat.reduceLeDiff, Int.reduceLE, cZ2, huZ3g, cZ4, hyZ5a, hyZ5b]
      all_goals simp [qL, qJ, qJ0, qS, qX, qR, qM, Shp, sub, tupd, VS1, VS2, VS3, VS4, VS5, VS6, VT1, VT2, S_spec_l16WeightL1, SX_spec_l16WeightL1]
    · replace h := cond_f cZ4 h
      obtain ⟨yZ6, hyZ6, h⟩ := bind_s h
      obtain ⟨hyZ6a, hyZ6b⟩ := geti_s hyZ6
      cases h
      try simp only [VS1, VS2, VS3, VS4, VS5, VS6, VT1, VT2, finM_ret, finM_nrm, decide_true, decide_false, List.nodup_nil, List.nodup_cons, oks_p, oks_m, oks_h, ne_eq, not_false_eq_true, Int.reduceEq, Int.reduceNe, true_and, Nat.reduceSub, Nat.reduceMul, ↓reduceIte, reduceCtorEq, Nat.reduceEqDiff, Nat.reduceAdd, Nat.reduceLeDiff, Int.reduceLE, cZ2, huZ3g, cZ4, hyZ6a, hyZ6b]
      all_goals simp [qL, qJ, qJ0, qS, qX, qR, qM, Shp, sub, tupd, VS1, VS2, VS3, VS4, VS5, VS6, VT1, VT2, S_spec_l16WeightL1, SX_spec_l16WeightL1]
  · replace h := cond_f cZ2 h
    cases h
    try simp only [VS1, VS2, VS3, VS4, VS5, VS6, VT1, VT2, finM_ret, finM_nrm, decide_true, decide_false, List.nodup_nil, List.nodup_cons, oks_p, oks_m, oks_h, ne_eq, not_false_eq_true, Int.reduceEq, Int.reduceNe, true_and, Nat.reduceSub, Nat.reduceMul, ↓reduceIte, reduceCtorEq, Nat.reduceEqDiff, Nat.reduceAdd, Nat.reduceLeDiff, Int.reduceLE, cZ2]
    all_goals simp [qL, qJ, qJ0, qS, qX, qR, qM, Shp, sub, tupd, VS1, VS2, VS3, VS4, VS5, VS6, VT1, VT2, S_spec_l16WeightL1, SX_spec_l16WeightL1]
theorem w_spec_l16Weight (oZ0 : TOutage) (maskZ0 : Int) {r : Int} (h : M_spec_l16Weight oZ0 maskZ0 = some r) : Ok Try.prog 76 [.agg [.i oZ0.Unit, .lst .o 1 (oZ0.Down.map AV.i)], .i maskZ0] ((fun r => .i r) r) := by
  refine ok_of_body hmix m76 rfl ?_
  unfold M_spec_l16Weight at h
  simp only [A76, V76, body_eq]
  obtain ⟨oZ7, hoZ7, h⟩ := bind_s h
  try simp only [VS1, VS2, VS3, VS4, VS5, VS6, VT1, VT2, finM_ret, finM_nrm, decide_true, decide_false, List.nodup_nil, List.nodup_cons, oks_p, oks_m, oks_h, ne_eq, not_false_eq_true, Int.reduceEq, Int.reduceNe, true_and, Nat.reduceSub, Nat.reduceMul, ↓reduceIte, reduceCtorEq, Nat.reduceEqDiff, Nat.reduceAdd, Nat.reduceLeDiff, Int.reduceLE]
  refine join_rule0 (blk_rule0 (loop_rule (w_spec_l16WeightL1 oZ0 maskZ0) hoZ7 ?_)) ?_
  · all_goals simp [qL, qJ, qJ0, qS, qX, qR, qM, Shp, sub, tupd, VS1, VS2, VS3, VS4, VS5, VS6, VT1, VT2, S_spec_l16WeightL1, SX_spec_l16WeightL1]
  · simp only [SX_spec_l16WeightL1, A76R2]
    cases h
    try simp only [VS1, VS2, VS3, VS4, VS5, VS6, VT1, VT2, finM_ret, finM_nrm, decide_true, decide_false, List.nodup_nil, List.nodup_cons, oks_p, oks_m, oks_h, ne_eq, not_false_eq_true, Int.reduceEq, Int.reduceNe, true_and, Nat.reduceSub, Nat.reduceMul, ↓reduceIte, reduceCtorEq, Nat.reduceEqDiff, Nat.reduceAdd, Nat.reduceLeDiff, Int.reduceLE]
    all_goals simp [qL, qJ, qJ0, qS, qX, qR, qM, Shp, sub, tupd, VS1, VS2, VS3, VS4, VS5, VS6, VT1, VT2, V76]
def S_spec_l16ConnectedL2 (nZ0 : TNetwork) (oZ0 : TOutage) (fromZ0 : Int) (toZ0 : Int) (rZ1 : List (List Int)) (sZ2 : Int × Int) (rZ6 : List Int) (v : Bool × Int) : St := ⟨[(2, .i fromZ0), (3, .i toZ0), (4, .pt 4 0 0), (5, .pt 5 0 0), (9, .sl 9 0 rZ1.length), (10, .i sZ2.1), (11, .i sZ2.2), (12, .sl 12 0 rZ6.length), (13, .b v.1), (14, .i v.2)], [(4, .var (.agg [.lst .o 1 (nZ0.Nodes.map AV.z), .lst .o 4 (nZ0.Fibers.map (e_TFiber .o))])), (5, .var (.agg [.i oZ0.Unit, .lst .o 1 (oZ0.Down.map AV.i)])), (9, .arr 1 (rZ1.map (e_Li .u))), (12, .arr 1 (rZ6.map AV.i))]⟩
def SX_spec_l16ConnectedL2 (nZ0 : TNetwork) (oZ0 : TOutage) (fromZ0 : Int) (toZ0 : Int) (rZ1 : List (List Int)) (sZ2 : Int × Int) (v : Bool) : St := ⟨[(2, .i fromZ0), (3, .i toZ0), (4, .pt 4 0 0), (5, .pt 5 0 0), (9, .sl 9 0 rZ1.length), (10, .i sZ2.1), (11, .i sZ2.2), (13, .b v)], [(4, .var (.agg [.lst .o 1 (nZ0.Nodes.map AV.z), .lst .o 4 (nZ0.Fibers.map (e_TFiber .o))])), (5, .var (.agg [.i oZ0.Unit, .lst .o 1 (oZ0.Down.map AV.i)])), (9, .arr 1 (rZ1.map (e_Li .u)))]⟩
theorem w_spec_l16ConnectedL2 (nZ0 : TNetwork) (oZ0 : TOutage) (fromZ0 : Int) (toZ0 : Int) (rZ1 : List (List Int)) (sZ2 : Int × Int) (rZ6 : List Int) (sZ14 : Bool × Int) (o : (Bool × Int) ⊕ Bool) (h : M_spec_l16ConnectedL2 rZ6 sZ14 = some o) : AWP (OkS Try.prog) A80L2 (qL [2, 3, 4, 5, 9, 10, 11, 12, 13, 14] [4, 5, 9, 12] (S_spec_l16ConnectedL2 nZ0 oZ0 fromZ0 toZ0 rZ1 sZ2 rZ6) (qX 2 [2, 3, 4, 5, 9, 10, 11, 13] [4, 5, 9] (SX_spec_l16ConnectedL2 nZ0 oZ0 fromZ0 toZ0 rZ1 sZ2)) o) (S_spec_l16ConnectedL2 nZ0 oZ0 fromZ0 toZ0 rZ1 sZ2 rZ6 sZ14) := by
  unfold M_spec_l16ConnectedL2 at h
  simp only [S_spec_l16ConnectedL2, A80L2]
  refine Or.elim (bt (decide (sZ14.2 < (rZ6.length : Int)))) (fun cZ15 => ?_) (fun cZ15 => ?_)
  · replace h := cond_t cZ15 h
    refine Or.elim (bt (sZ14.1)) (fun cZ16 => ?_) (fun cZ16 => ?_)
    · replace h := cond_t cZ16 h
      obtain ⟨kZ17, hkZ17, h⟩ := bind_s h
      obtain ⟨hkZ17a, hkZ17b⟩ := grd_s hkZ17
      obtain ⟨yZ18, hyZ18, h⟩ := bind_s h
      cases h
      try simp only [VS1, VS2, VS3, VS4, VS5, VS6, VT1, VT2, finM_ret, finM_nrm, decide_true, decide_false, List.nodup_nil, List.nodup_cons, oks_p, oks_m, oks_h, ne_eq, not_false_eq_true, Int.reduceEq, Int.reduceNe, true_and, Nat.reduceSub, Nat.reduceMul, ↓reduceIte, reduceCtorEq, Nat.reduceEqDiff, Nat.reduceAdd, Nat.reduceLeDiff, Int.reduceLE, cZ15, cZ16, hkZ17a, hkZ17b, hyZ18]
      all_goals simp [qL, qJ, qJ0, qS, qX, qR, qM, Shp, sub, tupd, VS1, VS2, VS3, VS4, VS5, VS6, VT1, VT2, S_spec_l16ConnectedL2, SX_spec_l16ConnectedL2]
    · replace h := cond_f cZ16 h
      cases h
      try simp only [VS1, VS2, VS3, VS4, VS5, VS6, VT1, VT2, finM_ret, finM_nrm, decide_true, decide_false, List.nodup_nil, List.nodup_cons, oks_p, oks_m, oks_h, ne_eq, not_false_eq_true, Int.reduceEq, Int.reduceNe, true_and, Nat.reduceSub, Nat.reduceMul, ↓reduceIte, reduceCtorEq, Nat.reduceEqDiff, Nat.reduceAdd, Nat.reduceLeDiff, Int.reduceLE, cZ15, cZ16]
      all_goals simp [qL, qJ, qJ0, qS, qX, qR, qM, Shp, sub, tupd, VS1, VS2, VS3, VS4, VS5, VS6, VT1, VT2, S_spec_l16ConnectedL2, SX_spec_l16ConnectedL2]
  · replace h := cond_f cZ15 h
    cases h
    try simp only [VS1, VS2, VS3, VS4, VS5, VS6, VT1, VT2, finM_ret, finM_nrm, decide_true, decide_false, List.nodup_nil, List.nodup_cons, oks_p, oks_m, oks_h, ne_eq, not_false_eq_true, Int.reduceEq, Int.reduceNe, true_and, Nat.reduceSub, Nat.reduceMul, ↓reduceIte, reduceCtorEq, Nat.reduceEqDiff, Nat.reduceAdd, Nat.reduceLeDiff, Int.reduceLE, cZ15]
    all_goals simp [qL, qJ, qJ0, qS, qX, qR, qM, Shp, sub, tupd, VS1, VS2, VS3, VS4, VS5, VS6, VT1, VT2, S_spec_l16ConnectedL2, SX_spec_l16ConnectedL2]
def S_spec_l16ConnectedL1 (nZ0 : TNetwork) (oZ0 : TOutage) (fromZ0 : Int) (toZ0 : Int) (rZ1 : List (List Int)) (v : Int × Int) : St := ⟨[(2, .i fromZ0), (3, .i toZ0), (4, .pt 4 0 0), (5, .pt 5 0 0), (9, .sl 9 0 rZ1.length), (10, .i v.1), (11, .i v.2)], [(4, .var (.agg [.lst .o 1 (nZ0.Nodes.map AV.z), .lst .o 4 (nZ0.Fibers.map (e_TFiber .o))])), (5, .var (.agg [.i oZ0.Unit, .lst .o 1 (oZ0.Down.map AV.i)])), (9, .arr 1 (rZ1.map (e_Li .u)))]⟩
def SX_spec_l16ConnectedL1 (v : Int) : St := ⟨[(10, .i v)], []⟩
theorem w_spec_l16ConnectedL1 (nZ0 : TNetwork) (oZ0 : TOutage) (fromZ0 : Int) (toZ0 : Int) (rZ1 : List (List Int)) (sZ2 : Int × Int) (o : (Int × Int) ⊕ Int) (h : M_spec_l16ConnectedL1 nZ0 oZ0 fromZ0 toZ0 rZ1 sZ2 = some o) : AWP (OkS Try.prog) A80L4 (qL [2, 3, 4, 5, 9, 10, 11] [4, 5, 9] (S_spec_l16ConnectedL1 nZ0 oZ0 fromZ0 toZ0 rZ1) (qX 0 [10] [] (SX_spec_l16ConnectedL1)) o) (S_spec_l16ConnectedL1 nZ0 oZ0 fromZ0 toZ0 rZ1 sZ2) := by
  unfold M_spec_l16ConnectedL1 at h
  simp only [S_spec_l16ConnectedL1, A80L4]
  obtain ⟨uZ3, huZ3, h⟩ := bind_s h
  have huZ3g := grd_s huZ3
  refine Or.elim (bt (decide (sZ2.2 < (IntKind.wrap .i64 (1 * 2 ^ (min (Int.toNat (IntKind.wrap .u64 (rZ1.length : Int))) (IntKind.bits .i64))))))) (fun cZ4 => ?_) (fun cZ4 => ?_)
  · replace h := cond_t cZ4 h
    obtain ⟨rZ5, hrZ5, h⟩ := bind_s h
    simp only [VS1, VS2, VS3, VS4, VS5, VS6, VT1, VT2, finM_ret, finM_nrm, decide_true, decide_false, List.nodup_nil, List.nodup_cons, oks_p, oks_m, oks_h, ne_eq, not_false_eq_true, Int.reduceEq, Int.reduceNe, true_and, Nat.reduceSub, Nat.reduceMul, ↓reduceIte, reduceCtorEq, Nat.reduceEqDiff, Nat.reduceAdd, Nat.reduceLeDiff, Int.reduceLE, huZ3g, cZ4]
    refine call_s (by simp only [VS1, VS2, VS3, VS4, VS5, VS6, VT1, VT2, finM_ret, finM_nrm, decide_true, decide_false, List.nodup_nil, List.nodup_cons, oks_p, oks_m, oks_h, ne_eq, not_false_eq_true, Int.reduceEq, Int.reduceNe, true_and, Nat.reduceSub, Nat.reduceMul, ↓reduceIte, reduceCtorEq, Nat.reduceEqDiff, Nat.reduceAdd, Nat.reduceLeDiff, Int.reduceLE, huZ3g, cZ4]; exact w_spec_l16Gone _ _ hrZ5 ) ?_
    simp only [VA, VF1, ↓reduceIte, Nat.reduceEqDiff, Nat.reduceAdd, Nat.reduceMul, Nat.reduceSub, Nat.reduceLeDiff]
    obtain ⟨rZ6, hrZ6, h⟩ := bind_s h
    simp only [VS1, VS2, VS3, VS4, VS5, VS6, VT1, VT2, finM_ret, finM_nrm, decide_true, decide_false, List.nodup_nil, List.nodup_cons, oks_p, oks_m, oks_h, ne_eq, not_false_eq_true, Int.reduceEq, Int.reduceNe, true_and, Nat.reduceSub, Nat.reduceMul, ↓reduceIte, reduceCtorEq, Nat.reduceEqDiff, Nat.reduceAdd, Nat.reduceLeDiff, Int.reduceLE, huZ3g, cZ4]
    refine call_u (by simp only [VS1, VS2, VS3, VS4, VS5, VS6, VT1, VT2, finM_ret, finM_nrm, decide_true, decide_false, List.nodup_nil, List.nodup_cons, oks_p, oks_m, oks_h, ne_eq, not_false_eq_true, Int.reduceEq, Int.reduceNe, true_and, Nat.reduceSub, Nat.reduceMul, ↓reduceIte, reduceCtorEq, Nat.reduceEqDiff, Nat.reduceAdd, Nat.reduceLeDiff, Int.reduceLE, huZ3g, cZ4]; exact w_spec_l6Labels _ _ hrZ6 ) (by simp [AV.allU, allUL, allUL_iff, VT1, VT2]) (by simp only [VS1, VS2, VS3, VS4, VS5, VS6, VT1, VT2, finM_ret, finM_nrm, decide_true, decide_false, List.nodup_nil, List.nodup_cons, oks_p, oks_m, oks_h, ne_eq, not_false_eq_true, Int.reduceEq, Int.reduceNe, true_and, Nat.reduceSub, Nat.reduceMul, ↓reduceIte, reduceCtorEq, Nat.reduceEqDiff, Nat.reduceAdd, Nat.reduceLeDiff, Int.reduceLE, Nat.reduceLT]) ?_
    simp only [VA, VF1, ↓reduceIte, Nat.reduceEqDiff, Nat.reduceAdd, Nat.reduceMul, Nat.reduceSub, Nat.reduceLeDiff]
    obtain ⟨oZ12, hoZ12, h⟩ := bind_s h
    try simp only [VS1, VS2, VS3, VS4, VS5, VS6, VT1, VT2, finM_ret, finM_nrm, decide_true, decide_false, List.nodup_nil, List.nodup_cons, oks_p, oks_m, oks_h, ne_eq, not_false_eq_true, Int.reduceEq, Int.reduceNe, true_and, Nat.reduceSub, Nat.reduceMul, ↓reduceIte, reduceCtorEq, Nat.reduceEqDiff, Nat.reduceAdd, Nat.reduceLeDiff, Int.reduceLE, huZ3g, cZ4]
    refine join_rule0 (sh := (fun v => ⟨[(2, .i fromZ0), (3, .i toZ0), (4, .pt 4 0 0), (5, .pt 5 0 0), (9, .sl 9 0 rZ1.length), (10, .i sZ2.1), (11, .i sZ2.2), (12, .sl 12 0 rZ6.length), (13, .b v)], [(4, .var (.agg [.lst .o 1 (nZ0.Nodes.map AV.z), .lst .o 4 (nZ0.Fibers.map (e_TFiber .o))])), (5, .var (.agg [.i oZ0.Unit, .lst .o 1 (oZ0.Down.map AV.i)])), (9, .arr 1 (rZ1.map (e_Li .u))), (12, .arr 1 (rZ6.map AV.i))]⟩)) (s := oZ12) ?_ ?_
    · replace h := hoZ12
      refine Or.elim (bt (decide (0 ≤ fromZ0))) (fun cZ7 => ?_) (fun cZ7 => ?_)
      · replace h := cond_t cZ7 h
        obtain ⟨kZ8, hkZ8, h⟩ := bind_s h
        obtain ⟨hkZ8a, hkZ8b⟩ := grd_s hkZ8
        obtain ⟨yZ9, hyZ9, h⟩ := bind_s h
        obtain ⟨kZ10, hkZ10, h⟩ := bind_s h
        obtain ⟨hkZ10a, hkZ10b⟩ := grd_s hkZ10
        obtain ⟨yZ11, hyZ11, h⟩ := bind_s h
        cases h
        try simp only [VS1, VS2, VS3, VS4, VS5, VS6, VT1, VT2, finM_ret, finM_nrm, decide_true, decide_false, List.nodup_nil, List.nodup_cons, oks_p, oks_m, oks_h, ne_eq, not_false_eq_true, Int.reduceEq, Int.reduceNe, true_and, Nat.reduceSub, Nat.reduceMul, ↓reduceIte, reduceCtorEq, Nat.reduceEqDiff, Nat.reduceAdd, Nat.reduceLeDiff, Int.reduceLE, huZ3g, cZ4, cZ7, hkZ8a, hkZ8b, hyZ9, hkZ10a, hkZ10b, hyZ11]
        all_goals simp [qL, qJ, qJ0, qS, qX, qR, qM, Shp, sub, tupd, VS1, VS2, VS3, VS4, VS5, VS6, VT1, VT2]
      · replace h := cond_f cZ7 h
        cases h
        try simp only [VS1, VS2, VS3, VS4, VS5, VS6, VT1, VT2, finM_ret, finM_nrm, decide_true, decide_false, List.nodup_nil, List.nodup_cons, oks_p, oks_m, oks_h, ne_eq, not_false_eq_true, Int.reduceEq, Int.reduceNe, true_and, Nat.reduceSub, Nat.reduceMul, ↓reduceIte, reduceCtorEq, Nat.reduceEqDiff, Nat.reduceAdd, Nat.reduceLeDiff, Int.reduceLE, huZ3g, cZ4, cZ7]
        all_goals simp [qL, qJ, qJ0, qS, qX, qR, qM, Shp, sub, tupd, VS1, VS2, VS3, VS4, VS5, VS6, VT1, VT2]
    · simp only [A80R1]
      obtain ⟨oZ21, hoZ21, h⟩ := bind_s h
      try simp only [VS1, VS2, VS3, VS4, VS5, VS6, VT1, VT2, finM_ret, finM_nrm, decide_true, decide_false, List.nodup_nil, List.nodup_cons, oks_p, oks_m, oks_h, ne_eq, not_false_eq_true, Int.reduceEq, Int.reduceNe, true_and, Nat.reduceSub, Nat.reduceMul, ↓reduceIte, reduceCtorEq, Nat.reduceEqDiff, Nat.reduceAdd, Nat.reduceLeDiff, Int.reduceLE, huZ3g, cZ4]
      refine join_rule0 (sh := (fun v => ⟨[(2, .i fromZ0), (3, .i toZ0), (4, .pt 4 0 0), (5, .pt 5 0 0), (9, .sl 9 0 rZ1.length), (10, .i sZ2.1), (11, .i sZ2.2), (13, .b v)], [(4, .var (.agg [.lst .o 1 (nZ0.Nodes.map AV.z), .lst .o 4 (nZ0.Fibers.map (e_TFiber .o))])), (5, .var (.agg [.i oZ0.Unit, .lst .o 1 (oZ0.Down.map AV.i)])), (9, .arr 1 (rZ1.map (e_Li .u)))]⟩)) (s := oZ21) ?_ ?_
      · replace h := hoZ21
        refine Or.elim (bt (decide (fromZ0 < 0))) (fun cZ13 => ?_) (fun cZ13 => ?_)
        · replace h := cond_t cZ13 h
          obtain ⟨oZ19, hoZ19, h⟩ := bind_s h
          try simp only [VS1, VS2, VS3, VS4, VS5, VS6, VT1, VT2, finM_ret, finM_nrm, decide_true, decide_false, List.nodup_nil, List.nodup_cons, oks_p, oks_m, oks_h, ne_eq, not_false_eq_true, Int.reduceEq, Int.reduceNe, true_and, Nat.reduceSub, Nat.reduceMul, ↓reduceIte, reduceCtorEq, Nat.reduceEqDiff, Nat.reduceAdd, Nat.reduceLeDiff, Int.reduceLE, huZ3g, cZ4, cZ13]
          first | refine tail_rule0 (blk_rule0 (loop_rule (w_spec_l16ConnectedL2 nZ0 oZ0 fromZ0 toZ0 rZ1 sZ2 rZ6) hoZ19 ?_)) (fun τ qZ20 => ?_) | refine tail_blk0 (loop_rule (w_spec_l16ConnectedL2 nZ0 oZ0 fromZ0 toZ0 rZ1 sZ2 rZ6) hoZ19 ?_) (fun τ qZ20 => ?_)
          · all_goals simp [qL, qJ, qJ0, qS, qX, qR, qM, Shp, sub, tupd, VS1, VS2, VS3, VS4, VS5, VS6, VT1, VT2, S_spec_l16ConnectedL2, SX_spec_l16ConnectedL2]
          · cases h
            try simp only [VS1, VS2, VS3, VS4, VS5, VS6, VT1, VT2, finM_ret, finM_nrm, decide_true, decide_false, List.nodup_nil, List.nodup_cons, oks_p, oks_m, oks_h, ne_eq, not_false_eq_true, Int.reduceEq, Int.reduceNe, true_and, Nat.reduceSub, Nat.reduceMul, ↓reduceIte, reduceCtorEq, Nat.reduceEqDiff, Nat.reduceAdd, Nat.reduceLeDiff, Int.reduceLE]
            refine ⟨rfl, Shp.sub qZ20 (by decide) (by decide) ?_⟩
            all_goals simp [qL, qJ, qJ0, qS, qX, qR, qM, Shp, sub, tupd, VS1, VS2, VS3, VS4, VS5, VS6, VT1, VT2, SX_spec_l16ConnectedL2]
        · replace h := cond_f cZ13 h
          cases h
          try simp only [VS1, VS2, VS3, VS4, VS5, VS6, VT1, VT2, finM_ret, finM_nrm, decide_true, decide_false, List.nodup_nil, List.nodup_cons, oks_p, oks_m, oks_h, ne_eq, not_false_eq_true, Int.reduceEq, Int.reduceNe, true_and, Nat.reduceSub, Nat.reduceMul, ↓reduceIte, reduceCtorEq, Nat.reduceEqDiff, Nat.reduceAdd, Nat.reduceLeDiff, Int.reduceLE, huZ3g, cZ4, cZ13]
          all_goals simp [qL, qJ, qJ0, qS, qX, qR, qM, Shp, sub, tupd, VS1, VS2, VS3, VS4, VS5, VS6, VT1, VT2]
      · simp only [A80R3]
        refine Or.elim (bt (oZ21)) (fun cZ22 => ?_) (fun cZ22 => ?_)
        · replace h := cond_t cZ22 h
          obtain ⟨rZ23, hrZ23, h⟩ := bind_s h
          simp only [VS1, VS2, VS3, VS4, VS5, VS6, VT1, VT2, finM_ret, finM_nrm, decide_true, decide_false, List.nodup_nil, List.nodup_cons, oks_p, oks_m, oks_h, ne_eq, not_false_eq_true, Int.reduceEq, Int.reduceNe, true_and, Nat.reduceSub, Nat.reduceMul, ↓reduceIte, reduceCtorEq, Nat.reduceEqDiff, Nat.reduceAdd, Nat.reduceLeDiff, Int.reduceLE, huZ3g, cZ4, cZ22]
          refine call_s (by simp only [VS1, VS2, VS3, VS4, VS5, VS6, VT1, VT2, finM_ret, finM_nrm, decide_true, decide_false, List.nodup_nil, List.nodup_cons, oks_p, oks_m, oks_h, ne_eq, not_false_eq_true, Int.reduceEq, Int.reduceNe, true_and, Nat.reduceSub, Nat.reduceMul, ↓reduceIte, reduceCtorEq, Nat.reduceEqDiff, Nat.reduceAdd, Nat.reduceLeDiff, Int.reduceLE, huZ3g, cZ4, cZ22]; exact w_spec_l16Weight _ _ hrZ23 ) ?_
          simp only [VA, VF1, ↓reduceIte, Nat.reduceEqDiff, Nat.reduceAdd, Nat.reduceMul, Nat.reduceSub, Nat.reduceLeDiff]
          cases h
          try simp only [VS1, VS2, VS3, VS4, VS5, VS6, VT1, VT2, finM_ret, finM_nrm, decide_true, decide_false, List.nodup_nil, List.nodup_cons, oks_p, oks_m, oks_h, ne_eq, not_false_eq_true, Int.reduceEq, Int.reduceNe, true_and, Nat.reduceSub, Nat.reduceMul, ↓reduceIte, reduceCtorEq, Nat.reduceEqDiff, Nat.reduceAdd, Nat.reduceLeDiff, Int.reduceLE, huZ3g, cZ4, cZ22]
          all_goals simp [qL, qJ, qJ0, qS, qX, qR, qM, Shp, sub, tupd, VS1, VS2, VS3, VS4, VS5, VS6, VT1, VT2, S_spec_l16ConnectedL1, SX_spec_l16ConnectedL1]
        · replace h := cond_f cZ22 h
          cases h
          try simp only [VS1, VS2, VS3, VS4, VS5, VS6, VT1, VT2, finM_ret, finM_nrm, decide_true, decide_false, List.nodup_nil, List.nodup_cons, oks_p, oks_m, oks_h, ne_eq, not_false_eq_true, Int.reduceEq, Int.reduceNe, true_and, Nat.reduceSub, Nat.reduceMul, ↓reduceIte, reduceCtorEq, Nat.reduceEqDiff, Nat.reduceAdd, Nat.reduceLeDiff, Int.reduceLE, huZ3g, cZ4, cZ22]
          all_goals simp [qL, qJ, qJ0, qS, qX, qR, qM, Shp, sub, tupd, VS1, VS2, VS3, VS4, VS5, VS6, VT1, VT2, S_spec_l16ConnectedL1, SX_spec_l16ConnectedL1]
  · replace h := cond_f cZ4 h
    cases h
    try simp only [VS1, VS2, VS3, VS4, VS5, VS6, VT1, VT2, finM_ret, finM_nrm, decide_true, decide_false, List.nodup_nil, List.nodup_cons, oks_p, oks_m, oks_h, ne_eq, not_false_eq_true, Int.reduceEq, Int.reduceNe, true_and, Nat.reduceSub, Nat.reduceMul, ↓reduceIte, reduceCtorEq, Nat.reduceEqDiff, Nat.reduceAdd, Nat.reduceLeDiff, Int.reduceLE, huZ3g, cZ4]
    all_goals simp [qL, qJ, qJ0, qS, qX, qR, qM, Shp, sub, tupd, VS1, VS2, VS3, VS4, VS5, VS6, VT1, VT2, S_spec_l16ConnectedL1, SX_spec_l16ConnectedL1]
theorem w_spec_l16Connected (nZ0 : TNetwork) (oZ0 : TOutage) (fromZ0 : Int) (toZ0 : Int) {r : Int} (h : M_spec_l16Connected nZ0 oZ0 fromZ0 toZ0 = some r) : Ok Try.prog 80 [.agg [.lst .o 1 (nZ0.Nodes.map AV.z), .lst .o 4 (nZ0.Fibers.map (e_TFiber .o))], .agg [.i oZ0.Unit, .lst .o 1 (oZ0.Down.map AV.i)], .i fromZ0, .i toZ0] ((fun r => .i r) r) := by
  refine ok_of_body hmix m80 rfl ?_
  unfold M_spec_l16Connected at h
  simp only [A80, V80, body_eq]
  obtain ⟨rZ1, hrZ1, h⟩ := bind_s h
  simp only [VS1, VS2, VS3, VS4, VS5, VS6, VT1, VT2, finM_ret, finM_nrm, decide_true, decide_false, List.nodup_nil, List.nodup_cons, oks_p, oks_m, oks_h, ne_eq, not_false_eq_true, Int.reduceEq, Int.reduceNe, true_and, Nat.reduceSub, Nat.reduceMul, ↓reduceIte, reduceCtorEq, Nat.reduceEqDiff, Nat.reduceAdd, Nat.reduceLeDiff, Int.reduceLE]
  refine call_u (by simp only [VS1, VS2, VS3, VS4, VS5, VS6, VT1, VT2, finM_ret, finM_nrm, decide_true, decide_false, List.nodup_nil, List.nodup_cons, oks_p, oks_m, oks_h, ne_eq, not_false_eq_true, Int.reduceEq, Int.reduceNe, true_and, Nat.reduceSub, Nat.reduceMul, ↓reduceIte, reduceCtorEq, Nat.reduceEqDiff, Nat.reduceAdd, Nat.reduceLeDiff, Int.reduceLE]; exact w_spec_l2Groups _ hrZ1 ) (by simp [AV.allU, allUL, allUL_iff, VT1, VT2]) (by simp only [VS1, VS2, VS3, VS4, VS5, VS6, VT1, VT2, finM_ret, finM_nrm, decide_true, decide_false, List.nodup_nil, List.nodup_cons, oks_p, oks_m, oks_h, ne_eq, not_false_eq_true, Int.reduceEq, Int.reduceNe, true_and, Nat.reduceSub, Nat.reduceMul, ↓reduceIte, reduceCtorEq, Nat.reduceEqDiff, Nat.reduceAdd, Nat.reduceLeDiff, Int.reduceLE, Nat.reduceLT]) ?_
  simp only [VA, VF1, ↓reduceIte, Nat.reduceEqDiff, Nat.reduceAdd, Nat.reduceMul, Nat.reduceSub, Nat.reduceLeDiff]
  obtain ⟨oZ24, hoZ24, h⟩ := bind_s h
  try simp only [VS1, VS2, VS3, VS4, VS5, VS6, VT1, VT2, finM_ret, finM_nrm, decide_true, decide_false, List.nodup_nil, List.nodup_cons, oks_p, oks_m, oks_h, ne_eq, not_false_eq_true, Int.reduceEq, Int.reduceNe, true_and, Nat.reduceSub, Nat.reduceMul, ↓reduceIte, reduceCtorEq, Nat.reduceEqDiff, Nat.reduceAdd, Nat.reduceLeDiff, Int.reduceLE]
  refine join_rule0 (blk_rule0 (loop_rule (w_spec_l16ConnectedL1 nZ0 oZ0 fromZ0 toZ0 rZ1) hoZ24 ?_)) ?_
  · all_goals simp [qL, qJ, qJ0, qS, qX, qR, qM, Shp, sub, tupd, VS1, VS2, VS3, VS4, VS5, VS6, VT1, VT2, S_spec_l16ConnectedL1, SX_spec_l16ConnectedL1]
  · simp only [SX_spec_l16ConnectedL1, A80R5]
    cases h
    try simp only [VS1, VS2, VS3, VS4, VS5, VS6, VT1, VT2, finM_ret, finM_nrm, decide_true, decide_false, List.nodup_nil, List.nodup_cons, oks_p, oks_m, oks_h, ne_eq, not_false_eq_true, Int.reduceEq, Int.reduceNe, true_and, Nat.reduceSub, Nat.reduceMul, ↓reduceIte, reduceCtorEq, Nat.reduceEqDiff, Nat.reduceAdd, Nat.reduceLeDiff, Int.reduceLE]
    all_goals simp [qL, qJ, qJ0, qS, qX, qR, qM, Shp, sub, tupd, VS1, VS2, VS3, VS4, VS5, VS6, VT1, VT2, V80]
theorem w_spec_ConnectionAvailability (nZ0 : TNetwork) (oZ0 : TOutage) (fromZ0 : Int) (toZ0 : Int) {r : Int × Bool} (h : M_spec_ConnectionAvailability nZ0 oZ0 fromZ0 toZ0 = some r) : Ok Try.prog 31 [.agg [.lst .o 1 (nZ0.Nodes.map AV.z), .lst .o 4 (nZ0.Fibers.map (e_TFiber .o))], .agg [.i oZ0.Unit, .lst .o 1 (oZ0.Down.map AV.i)], .i fromZ0, .i toZ0] ((fun r => .tup [.i r.1, .b r.2]) r) := by
  refine ok_of_body hmix m31 rfl ?_
  unfold M_spec_ConnectionAvailability at h
  simp only [A31, V31, body_eq]
  obtain ⟨oZ4, hoZ4, h⟩ := bind_s h
  try simp only [VS1, VS2, VS3, VS4, VS5, VS6, VT1, VT2, finM_ret, finM_nrm, decide_true, decide_false, List.nodup_nil, List.nodup_cons, oks_p, oks_m, oks_h, ne_eq, not_false_eq_true, Int.reduceEq, Int.reduceNe, true_and, Nat.reduceSub, Nat.reduceMul, ↓reduceIte, reduceCtorEq, Nat.reduceEqDiff, Nat.reduceAdd, Nat.reduceLeDiff, Int.reduceLE]
  refine join_rule0 (sh := (fun v => ⟨[(2, .i fromZ0), (3, .i toZ0), (4, .pt 4 0 0), (5, .pt 5 0 0), (20, .b v)], [(4, .var (.agg [.lst .o 1 (nZ0.Nodes.map AV.z), .lst .o 4 (nZ0.Fibers.map (e_TFiber .o))])), (5, .var (.agg [.i oZ0.Unit, .lst .o 1 (oZ0.Down.map AV.i)]))]⟩)) (s := oZ4) ?_ ?_
  · replace h := hoZ4
    obtain ⟨rZ1, hrZ1, h⟩ := bind_s h
    simp only [VS1, VS2, VS3, VS4, VS5, VS6, VT1, VT2, finM_ret, finM_nrm, decide_true, decide_false, List.nodup_nil, List.nodup_cons, oks_p, oks_m, oks_h, ne_eq, not_false_eq_true, Int.reduceEq, Int.reduceNe, true_and, Nat.reduceSub, Nat.reduceMul, ↓reduceIte, reduceCtorEq, Nat.reduceEqDiff, Nat.reduceAdd, Nat.reduceLeDiff, Int.reduceLE]
    refine call_s (by simp only [VS1, VS2, VS3, VS4, VS5, VS6, VT1, VT2, finM_ret, finM_nrm, decide_true, decide_false, List.nodup_nil, List.nodup_cons, oks_p, oks_m, oks_h, ne_eq, not_false_eq_true, Int.reduceEq, Int.reduceNe, true_and, Nat.reduceSub, Nat.reduceMul, ↓reduceIte, reduceCtorEq, Nat.reduceEqDiff, Nat.reduceAdd, Nat.reduceLeDiff, Int.reduceLE]; exact w_spec_l16Good _ _ hrZ1 ) ?_
    simp only [VA, VF1, ↓reduceIte, Nat.reduceEqDiff, Nat.reduceAdd, Nat.reduceMul, Nat.reduceSub, Nat.reduceLeDiff]
    refine Or.elim (bt (!rZ1)) (fun cZ2 => ?_) (fun cZ2 => ?_)
    · replace h := cond_t cZ2 h
      cases h
      try simp only [VS1, VS2, VS3, VS4, VS5, VS6, VT1, VT2, finM_ret, finM_nrm, decide_true, decide_false, List.nodup_nil, List.nodup_cons, oks_p, oks_m, oks_h, ne_eq, not_false_eq_true, Int.reduceEq, Int.reduceNe, true_and, Nat.reduceSub, Nat.reduceMul, ↓reduceIte, reduceCtorEq, Nat.reduceEqDiff, Nat.reduceAdd, Nat.reduceLeDiff, Int.reduceLE, cZ2]
      all_goals simp [qL, qJ, qJ0, qS, qX, qR, qM, Shp, sub, tupd, VS1, VS2, VS3, VS4, VS5, VS6, VT1, VT2]
    · replace h := cond_f cZ2 h
      obtain ⟨rZ3, hrZ3, h⟩ := bind_s h
      simp only [VS1, VS2, VS3, VS4, VS5, VS6, VT1, VT2, finM_ret, finM_nrm, decide_true, decide_false, List.nodup_nil, List.nodup_cons, oks_p, oks_m, oks_h, ne_eq, not_false_eq_true, Int.reduceEq, Int.reduceNe, true_and, Nat.reduceSub, Nat.reduceMul, ↓reduceIte, reduceCtorEq, Nat.reduceEqDiff, Nat.reduceAdd, Nat.reduceLeDiff, Int.reduceLE, cZ2]
      refine call_s (by simp only [VS1, VS2, VS3, VS4, VS5, VS6, VT1, VT2, finM_ret, finM_nrm, decide_true, decide_false, List.nodup_nil, List.nodup_cons, oks_p, oks_m, oks_h, ne_eq, not_false_eq_true, Int.reduceEq, Int.reduceNe, true_and, Nat.reduceSub, Nat.reduceMul, ↓reduceIte, reduceCtorEq, Nat.reduceEqDiff, Nat.reduceAdd, Nat.reduceLeDiff, Int.reduceLE, cZ2]; exact w_spec_l6Ends _ _ _ hrZ3 ) ?_
      simp only [VA, VF1, ↓reduceIte, Nat.reduceEqDiff, Nat.reduceAdd, Nat.reduceMul, Nat.reduceSub, Nat.reduceLeDiff]
      cases h
      try simp only [VS1, VS2, VS3, VS4, VS5, VS6, VT1, VT2, finM_ret, finM_nrm, decide_true, decide_false, List.nodup_nil, List.nodup_cons, oks_p, oks_m, oks_h, ne_eq, not_false_eq_true, Int.reduceEq, Int.reduceNe, true_and, Nat.reduceSub, Nat.reduceMul, ↓reduceIte, reduceCtorEq, Nat.reduceEqDiff, Nat.reduceAdd, Nat.reduceLeDiff, Int.reduceLE, cZ2]
      all_goals simp [qL, qJ, qJ0, qS, qX, qR, qM, Shp, sub, tupd, VS1, VS2, VS3, VS4, VS5, VS6, VT1, VT2]
  · simp only [A31R1]
    refine Or.elim (bt (oZ4)) (fun cZ5 => ?_) (fun cZ5 => ?_)
    · replace h := cond_t cZ5 h
      cases h
      try simp only [VS1, VS2, VS3, VS4, VS5, VS6, VT1, VT2, finM_ret, finM_nrm, decide_true, decide_false, List.nodup_nil, List.nodup_cons, oks_p, oks_m, oks_h, ne_eq, not_false_eq_true, Int.reduceEq, Int.reduceNe, true_and, Nat.reduceSub, Nat.reduceMul, ↓reduceIte, reduceCtorEq, Nat.reduceEqDiff, Nat.reduceAdd, Nat.reduceLeDiff, Int.reduceLE, cZ5]
      all_goals simp [qL, qJ, qJ0, qS, qX, qR, qM, Shp, sub, tupd, VS1, VS2, VS3, VS4, VS5, VS6, VT1, VT2, V31]
    · replace h := cond_f cZ5 h
      obtain ⟨rZ6, hrZ6, h⟩ := bind_s h
      simp only [VS1, VS2, VS3, VS4, VS5, VS6, VT1, VT2, finM_ret, finM_nrm, decide_true, decide_false, List.nodup_nil, List.nodup_cons, oks_p, oks_m, oks_h, ne_eq, not_false_eq_true, Int.reduceEq, Int.reduceNe, true_and, Nat.reduceSub, Nat.reduceMul, ↓reduceIte, reduceCtorEq, Nat.reduceEqDiff, Nat.reduceAdd, Nat.reduceLeDiff, Int.reduceLE, cZ5]
      refine call_s (by simp only [VS1, VS2, VS3, VS4, VS5, VS6, VT1, VT2, finM_ret, finM_nrm, decide_true, decide_false, List.nodup_nil, List.nodup_cons, oks_p, oks_m, oks_h, ne_eq, not_false_eq_true, Int.reduceEq, Int.reduceNe, true_and, Nat.reduceSub, Nat.reduceMul, ↓reduceIte, reduceCtorEq, Nat.reduceEqDiff, Nat.reduceAdd, Nat.reduceLeDiff, Int.reduceLE, cZ5]; exact w_spec_l16Connected _ _ _ _ hrZ6 ) ?_
      simp only [VA, VF1, ↓reduceIte, Nat.reduceEqDiff, Nat.reduceAdd, Nat.reduceMul, Nat.reduceSub, Nat.reduceLeDiff]
      cases h
      try simp only [VS1, VS2, VS3, VS4, VS5, VS6, VT1, VT2, finM_ret, finM_nrm, decide_true, decide_false, List.nodup_nil, List.nodup_cons, oks_p, oks_m, oks_h, ne_eq, not_false_eq_true, Int.reduceEq, Int.reduceNe, true_and, Nat.reduceSub, Nat.reduceMul, ↓reduceIte, reduceCtorEq, Nat.reduceEqDiff, Nat.reduceAdd, Nat.reduceLeDiff, Int.reduceLE, cZ5]
      all_goals simp [qL, qJ, qJ0, qS, qX, qR, qM, Shp, sub, tupd, VS1, VS2, VS3, VS4, VS5, VS6, VT1, VT2, V31]
theorem w_impl_within (nZ0 : Int) (lowZ0 : Int) (highZ0 : Int) {r : Bool} (h : M_impl_within nZ0 lowZ0 highZ0 = some r) : Ok Try.prog 66 [.i nZ0, .i lowZ0, .i highZ0] ((fun r => .b r) r) := by
  refine ok_of_body hmix m66 rfl ?_
  unfold M_impl_within at h
  simp only [A66, V66, body_eq]
  refine Or.elim (bt (decide (lowZ0 ≤ nZ0))) (fun cZ1 => ?_) (fun cZ1 => ?_)
  · replace h := cond_t cZ1 h
    cases h
    try simp only [VS1, VS2, VS3, VS4, VS5, VS6, VT1, VT2, finM_ret, finM_nrm, decide_true, decide_false, List.nodup_nil, List.nodup_cons, oks_p, oks_m, oks_h, ne_eq, not_false_eq_true, Int.reduceEq, Int.reduceNe, true_and, Nat.reduceSub, Nat.reduceMul, ↓reduceIte, reduceCtorEq, Nat.reduceEqDiff, Nat.reduceAdd, Nat.reduceLeDiff, Int.reduceLE, cZ1]
    all_goals simp [qL, qJ, qJ0, qS, qX, qR, qM, Shp, sub, tupd, VS1, VS2, VS3, VS4, VS5, VS6, VT1, VT2, V66]
  · replace h := cond_f cZ1 h
    cases h
    try simp only [VS1, VS2, VS3, VS4, VS5, VS6, VT1, VT2, finM_ret, finM_nrm, decide_true, decide_false, List.nodup_nil, List.nodup_cons, oks_p, oks_m, oks_h, ne_eq, not_false_eq_true, Int.reduceEq, Int.reduceNe, true_and, Nat.reduceSub, Nat.reduceMul, ↓reduceIte, reduceCtorEq, Nat.reduceEqDiff, Nat.reduceAdd, Nat.reduceLeDiff, Int.reduceLE, cZ1]
    all_goals simp [qL, qJ, qJ0, qS, qX, qR, qM, Shp, sub, tupd, VS1, VS2, VS3, VS4, VS5, VS6, VT1, VT2, V66]
def S_impl_isNameL1 (sZ0 : ByteArray) (v : Int) : St := ⟨[(0, .z sZ0), (7, .i (sZ0.size : Int)), (8, .i v)], []⟩
def SX_impl_isNameL1 (sZ0 : ByteArray) (v : Unit) : St := ⟨[(0, .z sZ0)], []⟩
theorem w_impl_isNameL1 (sZ0 : ByteArray) (sZ1 : Int) (o : Int ⊕ (Unit ⊕ Bool)) (h : M_impl_isNameL1 sZ0 sZ1 = some o) : AWP (OkS Try.prog) A113L2 (qL [0, 7, 8] [] (S_impl_isNameL1 sZ0) (qS (qX 0 [0] [] (SX_impl_isNameL1 sZ0)) (qR V113 (fun r => .b r))) o) (S_impl_isNameL1 sZ0 sZ1) := by
  unfold M_impl_isNameL1 at h
  simp only [S_impl_isNameL1, A113L2]
  refine Or.elim (bt (decide (sZ1 < (sZ0.size : Int)))) (fun cZ2 => ?_) (fun cZ2 => ?_)
  · replace h := cond_t cZ2 h
    obtain ⟨oZ7, hoZ7, h⟩ := bind_s h
    try simp only [VS1, VS2, VS3, VS4, VS5, VS6, VT1, VT2, finM_ret, finM_nrm, decide_true, decide_false, List.nodup_nil, List.nodup_cons, oks_p, oks_m, oks_h, ne_eq, not_false_eq_true, Int.reduceEq, Int.reduceNe, true_and, Nat.reduceSub, Nat.reduceMul, ↓reduceIte, reduceCtorEq, Nat.reduceEqDiff, Nat.reduceAdd, Nat.reduceLeDiff, Int.reduceLE, cZ2]
    refine join_rule0 (sh := (fun v => ⟨[(0, .z sZ0), (3, .i sZ1), (4, .b v.1), (5, .b v.2), (7, .i (sZ0.size : Int)), (8, .i sZ1)], []⟩)) (s := oZ7) ?_ ?_
    · replace h := hoZ7
      obtain ⟨yZ3, hyZ3, h⟩ := bind_s h
      obtain ⟨hyZ3a, hyZ3b⟩ := getz_s hyZ3
      refine Or.elim (bt (decide (97 ≤ (yZ3.toNat : Int)))) (fun cZ4 => ?_) (fun cZ4 => ?_)
      · replace h := cond_t cZ4 h
        refine Or.elim (bt (decide (48 ≤ (yZ3.toNat : Int)))) (fun cZ5 => ?_) (fun cZ5 => ?_)
        · replace h := cond_t cZ5 h
          cases h
          try simp only [VS1, VS2, VS3, VS4, VS5, VS6, VT1, VT2, finM_ret, finM_nrm, decide_true, decide_false, List.nodup_nil, List.nodup_cons, oks_p, oks_m, oks_h, ne_eq, not_false_eq_true, Int.reduceEq, Int.reduceNe, true_and, Nat.reduceSub, Nat.reduceMul, ↓reduceIte, reduceCtorEq, Nat.reduceEqDiff, Nat.reduceAdd, Nat.reduceLeDiff, Int.reduceLE, cZ2, hyZ3a, hyZ3b, cZ4, cZ5]
          all_goals simp [qL, qJ, qJ0, qS, qX, qR, qM, Shp, sub, tupd, VS1, VS2, VS3, VS4, VS5, VS6, VT1, VT2]
        · replace h := cond_f cZ5 h
          cases h
          try simp only [VS1, VS2, VS3, VS4, VS5, VS6, VT1, VT2, finM_ret, finM_nrm, decide_true, decide_false, List.nodup_nil, List.nodup_cons, oks_p, oks_m, oks_h, ne_eq, not_false_eq_true, Int.reduceEq, Int.reduceNe, true_and, Nat.reduceSub, Nat.reduceMul, ↓reduceIte, reduceCtorEq, Nat.reduceEqDiff, Nat.reduceAdd, Nat.reduceLeDiff, Int.reduceLE, cZ2, hyZ3a, hyZ3b, cZ4, cZ5]
          all_goals simp [qL, qJ, qJ0, qS, qX, qR, qM, Shp, sub, tupd, VS1, VS2, VS3, VS4, VS5, VS6, VT1, VT2]
      · replace h := cond_f cZ4 h
        refine Or.elim (bt (decide (48 ≤ (yZ3.toNat : Int)))) (fun cZ6 => ?_) (fun cZ6 => ?_)
        · replace h := cond_t cZ6 h
          cases h
          try simp only [VS1, VS2, VS3, VS4, VS5, VS6, VT1, VT2, finM_ret, finM_nrm, decide_true, decide_false, List.nodup_nil, List.nodup_cons, oks_p, oks_m, oks_h, ne_eq, not_false_eq_true, Int.reduceEq, Int.reduceNe, true_and, Nat.reduceSub, Nat.reduceMul, ↓reduceIte, reduceCtorEq, Nat.reduceEqDiff, Nat.reduceAdd, Nat.reduceLeDiff, Int.reduceLE, cZ2, hyZ3a, hyZ3b, cZ4, cZ6]
          all_goals simp [qL, qJ, qJ0, qS, qX, qR, qM, Shp, sub, tupd, VS1, VS2, VS3, VS4, VS5, VS6, VT1, VT2]
        · replace h := cond_f cZ6 h
          cases h
          try simp only [VS1, VS2, VS3, VS4, VS5, VS6, VT1, VT2, finM_ret, finM_nrm, decide_true, decide_false, List.nodup_nil, List.nodup_cons, oks_p, oks_m, oks_h, ne_eq, not_false_eq_true, Int.reduceEq, Int.reduceNe, true_and, Nat.reduceSub, Nat.reduceMul, ↓reduceIte, reduceCtorEq, Nat.reduceEqDiff, Nat.reduceAdd, Nat.reduceLeDiff, Int.reduceLE, cZ2, hyZ3a, hyZ3b, cZ4, cZ6]
          all_goals simp [qL, qJ, qJ0, qS, qX, qR, qM, Shp, sub, tupd, VS1, VS2, VS3, VS4, VS5, VS6, VT1, VT2]
    · simp only [A113R1]
      refine Or.elim (bt (!oZ7.1)) (fun cZ8 => ?_) (fun cZ8 => ?_)
      · replace h := cond_t cZ8 h
        refine Or.elim (bt (!oZ7.2)) (fun cZ9 => ?_) (fun cZ9 => ?_)
        · replace h := cond_t cZ9 h
          cases h
          try simp only [VS1, VS2, VS3, VS4, VS5, VS6, VT1, VT2, finM_ret, finM_nrm, decide_true, decide_false, List.nodup_nil, List.nodup_cons, oks_p, oks_m, oks_h, ne_eq, not_false_eq_true, Int.reduceEq, Int.reduceNe, true_and, Nat.reduceSub, Nat.reduceMul, ↓reduceIte, reduceCtorEq, Nat.reduceEqDiff, Nat.reduceAdd, Nat.reduceLeDiff, Int.reduceLE, cZ2, cZ8, cZ9]
          all_goals simp [qL, qJ, qJ0, qS, qX, qR, qM, Shp, sub, tupd, VS1, VS2, VS3, VS4, VS5, VS6, VT1, VT2, V113]
        · replace h := cond_f cZ9 h
          refine Or.elim (bt (sZ1 == 0)) (fun cZ10 => ?_) (fun cZ10 => ?_)
          · replace h := cond_t cZ10 h
            cases h
            try simp only [VS1, VS2, VS3, VS4, VS5, VS6, VT1, VT2, finM_ret, finM_nrm, decide_true, decide_false, List.nodup_nil, List.nodup_cons, oks_p, oks_m, oks_h, ne_eq, not_false_eq_true, Int.reduceEq, Int.reduceNe, true_and, Nat.reduceSub, Nat.reduceMul, ↓reduceIte, reduceCtorEq, Nat.reduceEqDiff, Nat.reduceAdd, Nat.reduceLeDiff, Int.reduceLE, cZ2, cZ8, cZ9, cZ10]
            all_goals simp [qL, qJ, qJ0, qS, qX, qR, qM, Shp, sub, tupd, VS1, VS2, VS3, VS4, VS5, VS6, VT1, VT2, V113]
          · replace h := cond_f cZ10 h
            cases h
            try simp only [VS1, VS2, VS3, VS4, VS5, VS6, VT1, VT2, finM_ret, finM_nrm, decide_true, decide_false, List.nodup_nil, List.nodup_cons, oks_p, oks_m, oks_h, ne_eq, not_false_eq_true, Int.reduceEq, Int.reduceNe, true_and, Nat.reduceSub, Nat.reduceMul, ↓reduceIte, reduceCtorEq, Nat.reduceEqDiff, Nat.reduceAdd, Nat.reduceLeDiff, Int.reduceLE, cZ2, cZ8, cZ9, cZ10]
            all_goals simp [qL, qJ, qJ0, qS, qX, qR, qM, Shp, sub, tupd, VS1, VS2, VS3, VS4, VS5, VS6, VT1, VT2, S_impl_isNameL1, SX_impl_isNameL1]
      · replace h := cond_f cZ8 h
        cases h
        try simp only [VS1, VS2, VS3, VS4, VS5, VS6, VT1, VT2, finM_ret, finM_nrm, decide_true, decide_false, List.nodup_nil, List.nodup_cons, oks_p, oks_m, oks_h, ne_eq, not_false_eq_true, Int.reduceEq, Int.reduceNe, true_and, Nat.reduceSub, Nat.reduceMul, ↓reduceIte, reduceCtorEq, Nat.reduceEqDiff, Nat.reduceAdd, Nat.reduceLeDiff, Int.reduceLE, cZ2, cZ8]
        all_goals simp [qL, qJ, qJ0, qS, qX, qR, qM, Shp, sub, tupd, VS1, VS2, VS3, VS4, VS5, VS6, VT1, VT2, S_impl_isNameL1, SX_impl_isNameL1]
  · replace h := cond_f cZ2 h
    cases h
    try simp only [VS1, VS2, VS3, VS4, VS5, VS6, VT1, VT2, finM_ret, finM_nrm, decide_true, decide_false, List.nodup_nil, List.nodup_cons, oks_p, oks_m, oks_h, ne_eq, not_false_eq_true, Int.reduceEq, Int.reduceNe, true_and, Nat.reduceSub, Nat.reduceMul, ↓reduceIte, reduceCtorEq, Nat.reduceEqDiff, Nat.reduceAdd, Nat.reduceLeDiff, Int.reduceLE, cZ2]
    all_goals simp [qL, qJ, qJ0, qS, qX, qR, qM, Shp, sub, tupd, VS1, VS2, VS3, VS4, VS5, VS6, VT1, VT2, S_impl_isNameL1, SX_impl_isNameL1]
end Vs

