/-
  Part of the proof that the law FnExactIsRing returns true at every input; no condition beside the row's own.
-/
import Derived.Test.YteilpiddonoikaaAa
set_option linter.unusedSimpArgs false
set_option linter.unusedVariables false
set_option maxHeartbeats 1000000
set_option maxRecDepth 8000
namespace Vs
open Go Go.Proofs
attribute [local irreducible] AWP stOps eff awpC callA callM
theorem VT1 : (∀ (f : Fl) (x : TFiber), e_TFiber f x = .agg [.i x.A, .i x.B, .i x.Length, .i x.Risk]) ∧
  (∀ (f : Fl) (x : TNetwork), e_TNetwork f x = .agg [.lst f 1 (x.Nodes.map AV.z), .lst f 4 (x.Fibers.map (e_TFiber f))]) := ⟨fun _ _ => rfl, fun _ _ => rfl⟩
theorem VT2 : (∀ (f : Fl) (x : TFiber), (e_TFiber f x).nrm = e_TFiber .o x) ∧
  (∀ (f : Fl) (xs : List TFiber), (xs.map (e_TFiber f)).map AV.nrm = xs.map (e_TFiber .o)) ∧
  (∀ (f : Fl) (x : TFiber), (e_TFiber f x).als = e_TFiber f.als x) ∧
  (∀ (f : Fl) (xs : List TFiber), (xs.map (e_TFiber f)).map AV.als = xs.map (e_TFiber f.als)) ∧
  (∀ (f : Fl) (x : TFiber), (e_TFiber f x).fix = e_TFiber f.fix x) ∧
  (∀ (f : Fl) (xs : List TFiber), (xs.map (e_TFiber f)).map AV.fix = xs.map (e_TFiber f.fix)) ∧
  (∀ (f : Fl) (x : TNetwork), (e_TNetwork f x).nrm = e_TNetwork .o x) ∧
  (∀ (f : Fl) (xs : List TNetwork), (xs.map (e_TNetwork f)).map AV.nrm = xs.map (e_TNetwork .o)) ∧
  (∀ (f : Fl) (x : TNetwork), (e_TNetwork f x).als = e_TNetwork f.als x) ∧
  (∀ (f : Fl) (xs : List TNetwork), (xs.map (e_TNetwork f)).map AV.als = xs.map (e_TNetwork f.als)) ∧
  (∀ (f : Fl) (x : TNetwork), (e_TNetwork f x).fix = e_TNetwork f.fix x) ∧
  (∀ (f : Fl) (xs : List TNetwork), (xs.map (e_TNetwork f)).map AV.fix = xs.map (e_TNetwork f.fix)) :=
  ⟨@e_TFiber_nrm, @e_TFiber_nrmm, @e_TFiber_als, @e_TFiber_alsm, @e_TFiber_fix, @e_TFiber_fixm, @e_TNetwork_nrm, @e_TNetwork_nrmm, @e_TNetwork_als, @e_TNetwork_alsm, @e_TNetwork_fix, @e_TNetwork_fixm⟩
theorem VF1 : (∀ (f : Fl) (x : TFiber), (e_TFiber f x).fix = e_TFiber f.fix x) ∧
  (∀ (f : Fl) (xs : List TFiber), (xs.map (e_TFiber f)).map AV.fix = xs.map (e_TFiber f.fix)) ∧
  (∀ (f : Fl) (x : TNetwork), (e_TNetwork f x).fix = e_TNetwork f.fix x) ∧
  (∀ (f : Fl) (xs : List TNetwork), (xs.map (e_TNetwork f)).map AV.fix = xs.map (e_TNetwork f.fix)) :=
  ⟨@e_TFiber_fix, @e_TFiber_fixm, @e_TNetwork_fix, @e_TNetwork_fixm⟩
theorem VZ1 : (∀ (x : TFiber), (e_TFiber .o x).fz = true) ∧
  (∀ (xs : List TFiber), fzL (xs.map (e_TFiber .o)) = true) ∧
  (∀ (x : TFiber), (e_TFiber .u x).ouB = true) ∧
  (∀ (xs : List TFiber), ouBL (xs.map (e_TFiber .u)) = true) ∧
  (∀ (x : TNetwork), (e_TNetwork .o x).fz = true) ∧
  (∀ (xs : List TNetwork), fzL (xs.map (e_TNetwork .o)) = true) ∧
  (∀ (x : TNetwork), (e_TNetwork .u x).ouB = true) ∧
  (∀ (xs : List TNetwork), ouBL (xs.map (e_TNetwork .u)) = true) :=
  ⟨@e_TFiber_fz, @e_TFiber_fzm, @e_TFiber_ou, @e_TFiber_oum, @e_TNetwork_fz, @e_TNetwork_fzm, @e_TNetwork_ou, @e_TNetwork_oum⟩
def S_laws_szStringSL1 (aZ0 : List ByteArray) (v : Int × Int) : St := ⟨[(0, .lst .o 1 (aZ0.map AV.z)), (1, .i v.1), (5, .i v.2)], []⟩
def SX_laws_szStringSL1 (v : Int) : St := ⟨[(1, .i v)], []⟩
theorem w_laws_szStringSL1 (aZ0 : List ByteArray) (sZ2 : Int × Int) (o : (Int × Int) ⊕ (Int ⊕ Int)) (h : M_laws_szStringSL1 aZ0 sZ2 = some o) : AWP (OkS Try.prog) A38L1 (qL [0, 1, 5] [] (S_laws_szStringSL1 aZ0) (qS (qX 0 [1] [] (SX_laws_szStringSL1)) (qR V38 (fun r => .i r))) o) (S_laws_szStringSL1 aZ0 sZ2) := by
  unfold M_laws_szStringSL1 at h
  simp only [S_laws_szStringSL1, A38L1]
  refine Or.elim (bt (decide (sZ2.2 < (aZ0.length : Int)))) (fun cZ3 => ?_) (fun cZ3 => ?_)
  · replace h := cond_t cZ3 h
    obtain ⟨yZ4, hyZ4, h⟩ := bind_s h
    obtain ⟨hyZ4a, hyZ4b⟩ := geti_s hyZ4
    refine Or.elim (bt (decide ((IntKind.wrap .i64 (sZ2.1 - (yZ4.size : Int))) < 0))) (fun cZ5 => ?_) (fun cZ5 => ?_)
    · replace h := cond_t cZ5 h
      cases h
      try simp only [VS1, VS2, VS3, VS4, VS5, VS6, VT1, VT2, finM_ret, finM_nrm, decide_true, decide_false, List.nodup_nil, List.nodup_cons, oks_p, oks_m, oks_h, ne_eq, not_false_eq_true, Int.reduceEq, Int.reduceNe, true_and, Nat.reduceSub, Nat.reduceMul, ↓reduceIte, reduceCtorEq, Nat.reduceEqDiff, Nat.reduceAdd, Nat.reduceLeDiff, Int.reduceLE, cZ3, hyZ4a, hyZ4b, cZ5]
      all_goals simp [qL, qJ, qJ0, qS, qX, qR, qM, Shp, sub, tupd, VS1, VS2, VS3, VS4, VS5, VS6, VT1, VT2, V38]
    · replace h := cond_f cZ5 h
      cases h
      try simp only [VS1, VS2, VS3, VS4, VS5, VS6, VT1, VT2, finM_ret, finM_nrm, decide_true, decide_false, List.nodup_nil, List.nodup_cons, oks_p, oks_m, oks_h, ne_eq, not_false_eq_true, Int.reduceEq, Int.reduceNe, true_and, Nat.reduceSub, Nat.reduceMul, ↓reduceIte, reduceCtorEq, Nat.reduceEqDiff, Nat.reduceAdd, Nat.reduceLeDiff, Int.reduceLE, cZ3, hyZ4a, hyZ4b, cZ5]
      all_goals simp [qL, qJ, qJ0, qS, qX, qR, qM, Shp, sub, tupd, VS1, VS2, VS3, VS4, VS5, VS6, VT1, VT2, S_laws_szStringSL1, SX_laws_szStringSL1]
  · replace h := cond_f cZ3 h
    cases h
    try simp only [VS1, VS2, VS3, VS4, VS5, VS6, VT1, VT2, finM_ret, finM_nrm, decide_true, decide_false, List.nodup_nil, List.nodup_cons, oks_p, oks_m, oks_h, ne_eq, not_false_eq_true, Int.reduceEq, Int.reduceNe, true_and, Nat.reduceSub, Nat.reduceMul, ↓reduceIte, reduceCtorEq, Nat.reduceEqDiff, Nat.reduceAdd, Nat.reduceLeDiff, Int.reduceLE, cZ3]
    all_goals simp [qL, qJ, qJ0, qS, qX, qR, qM, Shp, sub, tupd, VS1, VS2, VS3, VS4, VS5, VS6, VT1, VT2, S_laws_szStringSL1, SX_laws_szStringSL1]
theorem w_laws_szStringS (aZ0 : List ByteArray) (leftZ0 : Int) {r : Int} (h : M_laws_szStringS aZ0 leftZ0 = some r) : Ok Try.prog 38 [.lst .o 1 (aZ0.map AV.z), .i leftZ0] ((fun r => .i r) r) := by
  refine ok_of_body hmix m38 rfl ?_
  unfold M_laws_szStringS at h
  simp only [A38, V38, body_eq]
  refine Or.elim (bt (decide ((IntKind.wrap .i64 (leftZ0 - (aZ0.length : Int))) < 0))) (fun cZ1 => ?_) (fun cZ1 => ?_)
  · replace h := cond_t cZ1 h
    cases h
    try simp only [VS1, VS2, VS3, VS4, VS5, VS6, VT1, VT2, finM_ret, finM_nrm, decide_true, decide_false, List.nodup_nil, List.nodup_cons, oks_p, oks_m, oks_h, ne_eq, not_false_eq_true, Int.reduceEq, Int.reduceNe, true_and, Nat.reduceSub, Nat.reduceMul, ↓reduceIte, reduceCtorEq, Nat.reduceEqDiff, Nat.reduceAdd, Nat.reduceLeDiff, Int.reduceLE, cZ1]
    all_goals simp [qL, qJ, qJ0, qS, qX, qR, qM, Shp, sub, tupd, VS1, VS2, VS3, VS4, VS5, VS6, VT1, VT2, V38]
  · replace h := cond_f cZ1 h
    obtain ⟨oZ6, hoZ6, h⟩ := bind_s h
    try simp only [VS1, VS2, VS3, VS4, VS5, VS6, VT1, VT2, finM_ret, finM_nrm, decide_true, decide_false, List.nodup_nil, List.nodup_cons, oks_p, oks_m, oks_h, ne_eq, not_false_eq_true, Int.reduceEq, Int.reduceNe, true_and, Nat.reduceSub, Nat.reduceMul, ↓reduceIte, reduceCtorEq, Nat.reduceEqDiff, Nat.reduceAdd, Nat.reduceLeDiff, Int.reduceLE, cZ1]
    refine join_rule (o := oZ6) (blk_rule sideR (loop_rule (w_laws_szStringSL1 aZ0) hoZ6 ?_)) (fun vZ7 hv => ?_) (fun xZ8 hv e τ hne hq => ?_)
    · all_goals simp [qL, qJ, qJ0, qS, qX, qR, qM, Shp, sub, tupd, VS1, VS2, VS3, VS4, VS5, VS6, VT1, VT2, S_laws_szStringSL1, SX_laws_szStringSL1]
    · subst hv
      simp only [] at h
      simp only [SX_laws_szStringSL1, A38R2]
      cases h
      try simp only [VS1, VS2, VS3, VS4, VS5, VS6, VT1, VT2, finM_ret, finM_nrm, decide_true, decide_false, List.nodup_nil, List.nodup_cons, oks_p, oks_m, oks_h, ne_eq, not_false_eq_true, Int.reduceEq, Int.reduceNe, true_and, Nat.reduceSub, Nat.reduceMul, ↓reduceIte, reduceCtorEq, Nat.reduceEqDiff, Nat.reduceAdd, Nat.reduceLeDiff, Int.reduceLE, cZ1]
      all_goals simp [qL, qJ, qJ0, qS, qX, qR, qM, Shp, sub, tupd, VS1, VS2, VS3, VS4, VS5, VS6, VT1, VT2, V38]
    · subst hv
      simp only [] at h
      obtain ⟨rfl, qZ9⟩ := hq
      cases h
      exact qZ9
theorem w_laws_szFiberS (aZ0 : List TFiber) (leftZ0 : Int) {r : Int} (h : M_laws_szFiberS aZ0 leftZ0 = some r) : Ok Try.prog 39 [.lst .o 4 (aZ0.map (e_TFiber .o)), .i leftZ0] ((fun r => .i r) r) := by
  refine ok_of_body hmix m39 rfl ?_
  unfold M_laws_szFiberS at h
  simp only [A39, V39, body_eq]
  refine Or.elim (bt (decide ((IntKind.wrap .i64 (leftZ0 - (aZ0.length : Int))) < 0))) (fun cZ1 => ?_) (fun cZ1 => ?_)
  · replace h := cond_t cZ1 h
    cases h
    try simp only [VS1, VS2, VS3, VS4, VS5, VS6, VT1, VT2, finM_ret, finM_nrm, decide_true, decide_false, List.nodup_nil, List.nodup_cons, oks_p, oks_m, oks_h, ne_eq, not_false_eq_true, Int.reduceEq, Int.reduceNe, true_and, Nat.reduceSub, Nat.reduceMul, ↓reduceIte, reduceCtorEq, Nat.reduceEqDiff, Nat.reduceAdd, Nat.reduceLeDiff, Int.reduceLE, cZ1]
    all_goals simp [qL, qJ, qJ0, qS, qX, qR, qM, Shp, sub, tupd, VS1, VS2, VS3, VS4, VS5, VS6, VT1, VT2, V39]
  · replace h := cond_f cZ1 h
    cases h
    try simp only [VS1, VS2, VS3, VS4, VS5, VS6, VT1, VT2, finM_ret, finM_nrm, decide_true, decide_false, List.nodup_nil, List.nodup_cons, oks_p, oks_m, oks_h, ne_eq, not_false_eq_true, Int.reduceEq, Int.reduceNe, true_and, Nat.reduceSub, Nat.reduceMul, ↓reduceIte, reduceCtorEq, Nat.reduceEqDiff, Nat.reduceAdd, Nat.reduceLeDiff, Int.reduceLE, cZ1]
    all_goals simp [qL, qJ, qJ0, qS, qX, qR, qM, Shp, sub, tupd, VS1, VS2, VS3, VS4, VS5, VS6, VT1, VT2, V39]
theorem w_laws_szNetwork (aZ0 : TNetwork) (leftZ0 : Int) {r : Int} (h : M_laws_szNetwork aZ0 leftZ0 = some r) : Ok Try.prog 10 [.agg [.lst .o 1 (aZ0.Nodes.map AV.z), .lst .o 4 (aZ0.Fibers.map (e_TFiber .o))], .i leftZ0] ((fun r => .i r) r) := by
  refine ok_of_body hmix m10 rfl ?_
  unfold M_laws_szNetwork at h
  simp only [A10, V10, body_eq]
  obtain ⟨rZ1, hrZ1, h⟩ := bind_s h
  simp only [VS1, VS2, VS3, VS4, VS5, VS6, VT1, VT2, finM_ret, finM_nrm, decide_true, decide_false, List.nodup_nil, List.nodup_cons, oks_p, oks_m, oks_h, ne_eq, not_false_eq_true, Int.reduceEq, Int.reduceNe, true_and, Nat.reduceSub, Nat.reduceMul, ↓reduceIte, reduceCtorEq, Nat.reduceEqDiff, Nat.reduceAdd, Nat.reduceLeDiff, Int.reduceLE]
  refine call_s (by simp only [VS1, VS2, VS3, VS4, VS5, VS6, VT1, VT2, finM_ret, finM_nrm, decide_true, decide_false, List.nodup_nil, List.nodup_cons, oks_p, oks_m, oks_h, ne_eq, not_false_eq_true, Int.reduceEq, Int.reduceNe, true_and, Nat.reduceSub, Nat.reduceMul, ↓reduceIte, reduceCtorEq, Nat.reduceEqDiff, Nat.reduceAdd, Nat.reduceLeDiff, Int.reduceLE]; exact w_laws_szStringS _ _ hrZ1 ) ?_
  simp only [VA, VF1, ↓reduceIte, Nat.reduceEqDiff, Nat.reduceAdd, Nat.reduceMul, Nat.reduceSub, Nat.reduceLeDiff]
  refine Or.elim (bt (decide (rZ1 < 0))) (fun cZ2 => ?_) (fun cZ2 => ?_)
  · replace h := cond_t cZ2 h
    cases h
    try simp only [VS1, VS2, VS3, VS4, VS5, VS6, VT1, VT2, finM_ret, finM_nrm, decide_true, decide_false, List.nodup_nil, List.nodup_cons, oks_p, oks_m, oks_h, ne_eq, not_false_eq_true, Int.reduceEq, Int.reduceNe, true_and, Nat.reduceSub, Nat.reduceMul, ↓reduceIte, reduceCtorEq, Nat.reduceEqDiff, Nat.reduceAdd, Nat.reduceLeDiff, Int.reduceLE, cZ2]
    all_goals simp [qL, qJ, qJ0, qS, qX, qR, qM, Shp, sub, tupd, VS1, VS2, VS3, VS4, VS5, VS6, VT1, VT2, V10]
  · replace h := cond_f cZ2 h
    obtain ⟨rZ3, hrZ3, h⟩ := bind_s h
    simp only [VS1, VS2, VS3, VS4, VS5, VS6, VT1, VT2, finM_ret, finM_nrm, decide_true, decide_false, List.nodup_nil, List.nodup_cons, oks_p, oks_m, oks_h, ne_eq, not_false_eq_true, Int.reduceEq, Int.reduceNe, true_and, Nat.reduceSub, Nat.reduceMul, ↓reduceIte, reduceCtorEq, Nat.reduceEqDiff, Nat.reduceAdd, Nat.reduceLeDiff, Int.reduceLE, cZ2]
    refine call_s (by simp only [VS1, VS2, VS3, VS4, VS5, VS6, VT1, VT2, finM_ret, finM_nrm, decide_true, decide_false, List.nodup_nil, List.nodup_cons, oks_p, oks_m, oks_h, ne_eq, not_false_eq_true, Int.reduceEq, Int.reduceNe, true_and, Nat.reduceSub, Nat.reduceMul, ↓reduceIte, reduceCtorEq, Nat.reduceEqDiff, Nat.reduceAdd, Nat.reduceLeDiff, Int.reduceLE, cZ2]; exact w_laws_szFiberS _ _ hrZ3 ) ?_
    simp only [VA, VF1, ↓reduceIte, Nat.reduceEqDiff, Nat.reduceAdd, Nat.reduceMul, Nat.reduceSub, Nat.reduceLeDiff]
    refine Or.elim (bt (decide (rZ3 < 0))) (fun cZ4 => ?_) (fun cZ4 => ?_)
    · replace h := cond_t cZ4 h
      cases h
      try simp only [VS1, VS2, VS3, VS4, VS5, VS6, VT1, VT2, finM_ret, finM_nrm, decide_true, decide_false, List.nodup_nil, List.nodup_cons, oks_p, oks_m, oks_h, ne_eq, not_false_eq_true, Int.reduceEq, Int.reduceNe, true_and, Nat.reduceSub, Nat.reduceMul, ↓reduceIte, reduceCtorEq, Nat.reduceEqDiff, Nat.reduceAdd, Nat.reduceLeDiff, Int.reduceLE, cZ2, cZ4]
      all_goals simp [qL, qJ, qJ0, qS, qX, qR, qM, Shp, sub, tupd, VS1, VS2, VS3, VS4, VS5, VS6, VT1, VT2, V10]
    · replace h := cond_f cZ4 h
      cases h
      try simp only [VS1, VS2, VS3, VS4, VS5, VS6, VT1, VT2, finM_ret, finM_nrm, decide_true, decide_false, List.nodup_nil, List.nodup_cons, oks_p, oks_m, oks_h, ne_eq, not_false_eq_true, Int.reduceEq, Int.reduceNe, true_and, Nat.reduceSub, Nat.reduceMul, ↓reduceIte, reduceCtorEq, Nat.reduceEqDiff, Nat.reduceAdd, Nat.reduceLeDiff, Int.reduceLE, cZ2, cZ4]
      all_goals simp [qL, qJ, qJ0, qS, qX, qR, qM, Shp, sub, tupd, VS1, VS2, VS3, VS4, VS5, VS6, VT1, VT2, V10]
def S_laws_toStringSL1 (aZ0 : List ByteArray) (v : Int × List ByteArray) : St := ⟨[(0, .lst .o 1 (aZ0.map AV.z)), (3, .sl 3 0 v.2.length), (4, .i v.1)], [(3, .arr 1 (v.2.map AV.z))]⟩
def SX_laws_toStringSL1 (v : List ByteArray) : St := ⟨[(3, .sl 3 0 v.length)], [(3, .arr 1 (v.map AV.z))]⟩
theorem w_laws_toStringSL1 (aZ0 : List ByteArray) (sZ4 : Int × List ByteArray) (o : (Int × List ByteArray) ⊕ (List ByteArray)) (h : M_laws_toStringSL1 aZ0 sZ4 = some o) : AWP (OkS Try.prog) A42L1 (qL [0, 3, 4] [3] (S_laws_toStringSL1 aZ0) (qX 0 [3] [3] (SX_laws_toStringSL1)) o) (S_laws_toStringSL1 aZ0 sZ4) := by
  unfold M_laws_toStringSL1 at h
  simp only [S_laws_toStringSL1, A42L1]
  refine Or.elim (bt (decide (sZ4.1 < (aZ0.length : Int)))) (fun cZ5 => ?_) (fun cZ5 => ?_)
  · replace h := cond_t cZ5 h
    obtain ⟨yZ6, hyZ6, h⟩ := bind_s h
    obtain ⟨hyZ6a, hyZ6b⟩ := geti_s hyZ6
    obtain ⟨kZ7, hkZ7, h⟩ := bind_s h
    obtain ⟨hkZ7a, hkZ7b⟩ := grd_s hkZ7
    obtain ⟨yZ8, hyZ8, h⟩ := bind_s h
    obtain ⟨lZ9, hlZ9, h⟩ := bnd_s h
    have eZ10 : (sZ4.2.map AV.z).set (Int.toNat sZ4.1) (.z yZ6) = lZ9.map AV.z := by rw [← hlZ9, List.map_set]
    cases h
    try simp only [VS1, VS2, VS3, VS4, VS5, VS6, VT1, VT2, finM_ret, finM_nrm, decide_true, decide_false, List.nodup_nil, List.nodup_cons, oks_p, oks_m, oks_h, ne_eq, not_false_eq_true, Int.reduceEq, Int.reduceNe, true_and, Nat.reduceSub, Nat.reduceMul, ↓reduceIte, reduceCtorEq, Nat.reduceEqDiff, Nat.reduceAdd, Nat.reduceLeDiff, Int.reduceLE, cZ5, hyZ6a, hyZ6b, hkZ7a, hkZ7b, hyZ8, eZ10]
    all_goals simp [qL, qJ, qJ0, qS, qX, qR, qM, Shp, sub, tupd, VS1, VS2, VS3, VS4, VS5, VS6, VT1, VT2, S_laws_toStringSL1, SX_laws_toStringSL1, ← hlZ9]
  · replace h := cond_f cZ5 h
    cases h
    try simp only [VS1, VS2, VS3, VS4, VS5, VS6, VT1, VT2, finM_ret, finM_nrm, decide_true, decide_false, List.nodup_nil, List.nodup_cons, oks_p, oks_m, oks_h, ne_eq, not_false_eq_true, Int.reduceEq, Int.reduceNe, true_and, Nat.reduceSub, Nat.reduceMul, ↓reduceIte, reduceCtorEq, Nat.reduceEqDiff, Nat.reduceAdd, Nat.reduceLeDiff, Int.reduceLE, cZ5]
    all_goals simp [qL, qJ, qJ0, qS, qX, qR, qM, Shp, sub, tupd, VS1, VS2, VS3, VS4, VS5, VS6, VT1, VT2, S_laws_toStringSL1, SX_laws_toStringSL1]
theorem w_laws_toStringS (aZ0 : List ByteArray) {r : List ByteArray} (h : M_laws_toStringS aZ0 = some r) : Ok Try.prog 42 [.lst .o 1 (aZ0.map AV.z)] ((fun r => .lst .u 1 (r.map AV.z)) r) := by
  refine ok_of_body hmix m42 rfl ?_
  unfold M_laws_toStringS at h
  simp only [A42, V42, body_eq]
  obtain ⟨uZ1, huZ1, h⟩ := bind_s h
  obtain ⟨huZ11, huZ12, huZ13, huZ14⟩ := grd_s huZ1
  obtain ⟨lZ2, hlZ2, h⟩ := bnd_s h
  have eZ3 : List.replicate (Int.toNat (aZ0.length : Int)) (.z (⟨#[]⟩) : AV) = lZ2.map AV.z := by rw [← hlZ2, List.map_replicate]
  obtain ⟨oZ11, hoZ11, h⟩ := bind_s h
  try simp only [VS1, VS2, VS3, VS4, VS5, VS6, VT1, VT2, finM_ret, finM_nrm, decide_true, decide_false, List.nodup_nil, List.nodup_cons, oks_p, oks_m, oks_h, ne_eq, not_false_eq_true, Int.reduceEq, Int.reduceNe, true_and, Nat.reduceSub, Nat.reduceMul, ↓reduceIte, reduceCtorEq, Nat.reduceEqDiff, Nat.reduceAdd, Nat.reduceLeDiff, Int.reduceLE, huZ11, huZ12, huZ13, huZ14, eZ3]
  refine join_rule0 (blk_rule0 (loop_rule (w_laws_toStringSL1 aZ0) hoZ11 ?_)) ?_
  · all_goals simp [qL, qJ, qJ0, qS, qX, qR, qM, Shp, sub, tupd, VS1, VS2, VS3, VS4, VS5, VS6, VT1, VT2, S_laws_toStringSL1, SX_laws_toStringSL1, ← hlZ2, List.length_replicate]
  · simp only [SX_laws_toStringSL1, A42R2]
    cases h
    try simp only [VS1, VS2, VS3, VS4, VS5, VS6, VT1, VT2, finM_ret, finM_nrm, decide_true, decide_false, List.nodup_nil, List.nodup_cons, oks_p, oks_m, oks_h, ne_eq, not_false_eq_true, Int.reduceEq, Int.reduceNe, true_and, Nat.reduceSub, Nat.reduceMul, ↓reduceIte, reduceCtorEq, Nat.reduceEqDiff, Nat.reduceAdd, Nat.reduceLeDiff, Int.reduceLE, huZ11, huZ12, huZ13, huZ14, eZ3]
    all_goals simp [qL, qJ, qJ0, qS, qX, qR, qM, Shp, sub, tupd, VS1, VS2, VS3, VS4, VS5, VS6, VT1, VT2, V42]
theorem w_laws_toFiber (aZ0 : TFiber) {r : TFiber} (h : M_laws_toFiber aZ0 = some r) : Ok Try.prog 79 [.agg [.i aZ0.A, .i aZ0.B, .i aZ0.Length, .i aZ0.Risk]] ((fun r => .agg [.i r.A, .i r.B, .i r.Length, .i r.Risk]) r) := by
  refine ok_of_body hmix m79 rfl ?_
  unfold M_laws_toFiber at h
  simp only [A79, V79, body_eq]
  cases h
  try simp only [VS1, VS2, VS3, VS4, VS5, VS6, VT1, VT2, finM_ret, finM_nrm, decide_true, decide_false, List.nodup_nil, List.nodup_cons, oks_p, oks_m, oks_h, ne_eq, not_false_eq_true, Int.reduceEq, Int.reduceNe, true_and, Nat.reduceSub, Nat.reduceMul, ↓reduceIte, reduceCtorEq, Nat.reduceEqDiff, Nat.reduceAdd, Nat.reduceLeDiff, Int.reduceLE]
  all_goals simp [qL, qJ, qJ0, qS, qX, qR, qM, Shp, sub, tupd, VS1, VS2, VS3, VS4, VS5, VS6, VT1, VT2, V79]
def S_laws_toFiberSL1 (aZ0 : List TFiber) (v : Int × List TFiber) : St := ⟨[(0, .lst .o 4 (aZ0.map (e_TFiber .o))), (3, .sl 3 0 v.2.length), (4, .i v.1)], [(3, .arr 4 (v.2.map (e_TFiber .u)))]⟩
def SX_laws_toFiberSL1 (v : List TFiber) : St := ⟨[(3, .sl 3 0 v.length)], [(3, .arr 4 (v.map (e_TFiber .u)))]⟩
theorem w_laws_toFiberSL1 (aZ0 : List TFiber) (sZ4 : Int × List TFiber) (o : (Int × List TFiber) ⊕ (List TFiber)) (h : M_laws_toFiberSL1 aZ0 sZ4 = some o) : AWP (OkS Try.prog) A43L1 (qL [0, 3, 4] [3] (S_laws_toFiberSL1 aZ0) (qX 0 [3] [3] (SX_laws_toFiberSL1)) o) (S_laws_toFiberSL1 aZ0 sZ4) := by
  unfold M_laws_toFiberSL1 at h
  simp only [S_laws_toFiberSL1, A43L1]
  refine Or.elim (bt (decide (sZ4.1 < (aZ0.length : Int)))) (fun cZ5 => ?_) (fun cZ5 => ?_)
  · replace h := cond_t cZ5 h
    obtain ⟨yZ6, hyZ6, h⟩ := bind_s h
    obtain ⟨hyZ6a, hyZ6b⟩ := geti_s hyZ6
    obtain ⟨rZ7, hrZ7, h⟩ := bind_s h
    simp only [VS1, VS2, VS3, VS4, VS5, VS6, VT1, VT2, finM_ret, finM_nrm, decide_true, decide_false, List.nodup_nil, List.nodup_cons, oks_p, oks_m, oks_h, ne_eq, not_false_eq_true, Int.reduceEq, Int.reduceNe, true_and, Nat.reduceSub, Nat.reduceMul, ↓reduceIte, reduceCtorEq, Nat.reduceEqDiff, Nat.reduceAdd, Nat.reduceLeDiff, Int.reduceLE, cZ5, hyZ6a, hyZ6b]
    refine call_u (by simp only [VS1, VS2, VS3, VS4, VS5, VS6, VT1, VT2, finM_ret, finM_nrm, decide_true, decide_false, List.nodup_nil, List.nodup_cons, oks_p, oks_m, oks_h, ne_eq, not_false_eq_true, Int.reduceEq, Int.reduceNe, true_and, Nat.reduceSub, Nat.reduceMul, ↓reduceIte, reduceCtorEq, Nat.reduceEqDiff, Nat.reduceAdd, Nat.reduceLeDiff, Int.reduceLE, cZ5, hyZ6a, hyZ6b]; exact w_laws_toFiber _ hrZ7 ) (by simp [AV.allU, allUL, allUL_iff, VT1, VT2]) (by simp only [VS1, VS2, VS3, VS4, VS5, VS6, VT1, VT2, finM_ret, finM_nrm, decide_true, decide_false, List.nodup_nil, List.nodup_cons, oks_p, oks_m, oks_h, ne_eq, not_false_eq_true, Int.reduceEq, Int.reduceNe, true_and, Nat.reduceSub, Nat.reduceMul, ↓reduceIte, reduceCtorEq, Nat.reduceEqDiff, Nat.reduceAdd, Nat.reduceLeDiff, Int.reduceLE, Nat.reduceLT]) ?_
    simp only [VA, VF1, ↓reduceIte, Nat.reduceEqDiff, Nat.reduceAdd, Nat.reduceMul, Nat.reduceSub, Nat.reduceLeDiff]
    obtain ⟨kZ8, hkZ8, h⟩ := bind_s h
    obtain ⟨hkZ8a, hkZ8b⟩ := grd_s hkZ8
    obtain ⟨yZ9, hyZ9, h⟩ := bind_s h
    obtain ⟨lZ10, hlZ10, h⟩ := bnd_s h
    have eZ11 : (sZ4.2.map (e_TFiber .u)).set (Int.toNat sZ4.1) (.agg [.i rZ7.A, .i rZ7.B, .i rZ7.Length, .i rZ7.Risk]) = lZ10.map (e_TFiber .u) := by rw [← hlZ10, List.map_set]; rfl
    cases h
    try simp only [VS1, VS2, VS3, VS4, VS5, VS6, VT1, VT2, finM_ret, finM_nrm, decide_true, decide_false, List.nodup_nil, List.nodup_cons, oks_p, oks_m, oks_h, ne_eq, not_false_eq_true, Int.reduceEq, Int.reduceNe, true_and, Nat.reduceSub, Nat.reduceMul, ↓reduceIte, reduceCtorEq, Nat.reduceEqDiff, Nat.reduceAdd, Nat.reduceLeDiff, Int.reduceLE, cZ5, hyZ6a, hyZ6b, hkZ8a, hkZ8b, hyZ9, eZ11]
    all_goals simp [qL, qJ, qJ0, qS, qX, qR, qM, Shp, sub, tupd, VS1, VS2, VS3, VS4, VS5, VS6, VT1, VT2, S_laws_toFiberSL1, SX_laws_toFiberSL1, ← hlZ10]
  · replace h := cond_f cZ5 h
    cases h
    try simp only [VS1, VS2, VS3, VS4, VS5, VS6, VT1, VT2, finM_ret, finM_nrm, decide_true, decide_false, List.nodup_nil, List.nodup_cons, oks_p, oks_m, oks_h, ne_eq, not_false_eq_true, Int.reduceEq, Int.reduceNe, true_and, Nat.reduceSub, Nat.reduceMul, ↓reduceIte, reduceCtorEq, Nat.reduceEqDiff, Nat.reduceAdd, Nat.reduceLeDiff, Int.reduceLE, cZ5]
    all_goals simp [qL, qJ, qJ0, qS, qX, qR, qM, Shp, sub, tupd, VS1, VS2, VS3, VS4, VS5, VS6, VT1, VT2, S_laws_toFiberSL1, SX_laws_toFiberSL1]
theorem w_laws_toFiberS (aZ0 : List TFiber) {r : List TFiber} (h : M_laws_toFiberS aZ0 = some r) : Ok Try.prog 43 [.lst .o 4 (aZ0.map (e_TFiber .o))] ((fun r => .lst .u 4 (r.map (e_TFiber .u))) r) := by
  refine ok_of_body hmix m43 rfl ?_
  unfold M_laws_toFiberS at h
  simp only [A43, V43, body_eq]
  obtain ⟨uZ1, huZ1, h⟩ := bind_s h
  obtain ⟨huZ11, huZ12, huZ13, huZ14⟩ := grd_s huZ1
  obtain ⟨lZ2, hlZ2, h⟩ := bnd_s h
  have eZ3 : List.replicate (Int.toNat (aZ0.length : Int)) (.agg [.i 0, .i 0, .i 0, .i 0] : AV) = lZ2.map (e_TFiber .u) := by rw [← hlZ2, List.map_replicate]; rfl
  obtain ⟨oZ12, hoZ12, h⟩ := bind_s h
  try simp only [VS1, VS2, VS3, VS4, VS5, VS6, VT1, VT2, finM_ret, finM_nrm, decide_true, decide_false, List.nodup_nil, List.nodup_cons, oks_p, oks_m, oks_h, ne_eq, not_false_eq_true, Int.reduceEq, Int.reduceNe, true_and, Nat.reduceSub, Nat.reduceMul, ↓reduceIte, reduceCtorEq, Nat.reduceEqDiff, Nat.reduceAdd, Nat.reduceLeDiff, Int.reduceLE, huZ11, huZ12, huZ13, huZ14, eZ3]
  refine join_rule0 (blk_rule0 (loop_rule (w_laws_toFiberSL1 aZ0) hoZ12 ?_)) ?_
  · all_goals simp [qL, qJ, qJ0, qS, qX, qR, qM, Shp, sub, tupd, VS1, VS2, VS3, VS4, VS5, VS6, VT1, VT2, S_laws_toFiberSL1, SX_laws_toFiberSL1, ← hlZ2, List.length_replicate]
  · simp only [SX_laws_toFiberSL1, A43R2]
    cases h
    try simp only [VS1, VS2, VS3, VS4, VS5, VS6, VT1, VT2, finM_ret, finM_nrm, decide_true, decide_false, List.nodup_nil, List.nodup_cons, oks_p, oks_m, oks_h, ne_eq, not_false_eq_true, Int.reduceEq, Int.reduceNe, true_and, Nat.reduceSub, Nat.reduceMul, ↓reduceIte, reduceCtorEq, Nat.reduceEqDiff, Nat.reduceAdd, Nat.reduceLeDiff, Int.reduceLE, huZ11, huZ12, huZ13, huZ14, eZ3]
    all_goals simp [qL, qJ, qJ0, qS, qX, qR, qM, Shp, sub, tupd, VS1, VS2, VS3, VS4, VS5, VS6, VT1, VT2, V43]
theorem w_laws_toNetwork (aZ0 : TNetwork) {r : TNetwork} (h : M_laws_toNetwork aZ0 = some r) : Ok Try.prog 12 [.agg [.lst .o 1 (aZ0.Nodes.map AV.z), .lst .o 4 (aZ0.Fibers.map (e_TFiber .o))]] ((fun r => .agg [.lst .u 1 (r.Nodes.map AV.z), .lst .u 4 (r.Fibers.map (e_TFiber .u))]) r) := by
  refine ok_of_body hmix m12 rfl ?_
  unfold M_laws_toNetwork at h
  simp only [A12, V12, body_eq]
  obtain ⟨rZ1, hrZ1, h⟩ := bind_s h
  simp only [VS1, VS2, VS3, VS4, VS5, VS6, VT1, VT2, finM_ret, finM_nrm, decide_true, decide_false, List.nodup_nil, List.nodup_cons, oks_p, oks_m, oks_h, ne_eq, not_false_eq_true, Int.reduceEq, Int.reduceNe, true_and, Nat.reduceSub, Nat.reduceMul, ↓reduceIte, reduceCtorEq, Nat.reduceEqDiff, Nat.reduceAdd, Nat.reduceLeDiff, Int.reduceLE]
  refine call_u (by simp only [VS1, VS2, VS3, VS4, VS5, VS6, VT1, VT2, finM_ret, finM_nrm, decide_true, decide_false, List.nodup_nil, List.nodup_cons, oks_p, oks_m, oks_h, ne_eq, not_false_eq_true, Int.reduceEq, Int.reduceNe, true_and, Nat.reduceSub, Nat.reduceMul, ↓reduceIte, reduceCtorEq, Nat.reduceEqDiff, Nat.reduceAdd, Nat.reduceLeDiff, Int.reduceLE]; exact w_laws_toStringS _ hrZ1 ) (by simp [AV.allU, allUL, allUL_iff, VT1, VT2]) (by simp only [VS1, VS2, VS3, VS4, VS5, VS6, VT1, VT2, finM_ret, finM_nrm, decide_true, decide_false, List.nodup_nil, List.nodup_cons, oks_p, oks_m, oks_h, ne_eq, not_false_eq_true, Int.reduceEq, Int.reduceNe, true_and, Nat.reduceSub, Nat.reduceMul, ↓reduceIte, reduceCtorEq, Nat.reduceEqDiff, Nat.reduceAdd, Nat.reduceLeDiff, Int.reduceLE, Nat.reduceLT]) ?_
  simp only [VA, VF1, ↓reduceIte, Nat.reduceEqDiff, Nat.reduceAdd, Nat.reduceMul, Nat.reduceSub, Nat.reduceLeDiff]
  obtain ⟨rZ2, hrZ2, h⟩ := bind_s h
  simp only [VS1, VS2, VS3, VS4, VS5, VS6, VT1, VT2, finM_ret, finM_nrm, decide_true, decide_false, List.nodup_nil, List.nodup_cons, oks_p, oks_m, oks_h, ne_eq, not_false_eq_true, Int.reduceEq, Int.reduceNe, true_and, Nat.reduceSub, Nat.reduceMul, ↓reduceIte, reduceCtorEq, Nat.reduceEqDiff, Nat.reduceAdd, Nat.reduceLeDiff, Int.reduceLE]
  refine call_u (by simp only [VS1, VS2, VS3, VS4, VS5, VS6, VT1, VT2, finM_ret, finM_nrm, decide_true, decide_false, List.nodup_nil, List.nodup_cons, oks_p, oks_m, oks_h, ne_eq, not_false_eq_true, Int.reduceEq, Int.reduceNe, true_and, Nat.reduceSub, Nat.reduceMul, ↓reduceIte, reduceCtorEq, Nat.reduceEqDiff, Nat.reduceAdd, Nat.reduceLeDiff, Int.reduceLE]; exact w_laws_toFiberS _ hrZ2 ) (by simp [AV.allU, allUL, allUL_iff, VT1, VT2]) (by simp only [VS1, VS2, VS3, VS4, VS5, VS6, VT1, VT2, finM_ret, finM_nrm, decide_true, decide_false, List.nodup_nil, List.nodup_cons, oks_p, oks_m, oks_h, ne_eq, not_false_eq_true, Int.reduceEq, Int.reduceNe, true_and, Nat.reduceSub, Nat.reduceMul, ↓reduceIte, reduceCtorEq, Nat.reduceEqDiff, Nat.reduceAdd, Nat.reduceLeDiff, Int.reduceLE, Nat.reduceLT]) ?_
  simp only [VA, VF1, ↓reduceIte, Nat.reduceEqDiff, Nat.reduceAdd, Nat.reduceMul, Nat.reduceSub, Nat.reduceLeDiff]
  cases h
  try simp only [VS1, VS2, VS3, VS4, VS5, VS6, VT1, VT2, finM_ret, finM_nrm, decide_true, decide_false, List.nodup_nil, List.nodup_cons, oks_p, oks_m, oks_h, ne_eq, not_false_eq_true, Int.reduceEq, Int.reduceNe, true_and, Nat.reduceSub, Nat.reduceMul, ↓reduceIte, reduceCtorEq, Nat.reduceEqDiff, Nat.reduceAdd, Nat.reduceLeDiff, Int.reduceLE]
  all_goals simp [qL, qJ, qJ0, qS, qX, qR, qM, Shp, sub, tupd, VS1, VS2, VS3, VS4, VS5, VS6, VT1, VT2, V12]
def S_laws_toIntSL1 (aZ0 : List Int) (v : Int × List Int) : St := ⟨[(0, .lst .o 1 (aZ0.map AV.i)), (3, .sl 3 0 v.2.length), (4, .i v.1)], [(3, .arr 1 (v.2.map AV.i))]⟩
def SX_laws_toIntSL1 (v : List Int) : St := ⟨[(3, .sl 3 0 v.length)], [(3, .arr 1 (v.map AV.i))]⟩
theorem w_laws_toIntSL1 (aZ0 : List Int) (sZ4 : Int × List Int) (o : (Int × List Int) ⊕ (List Int)) (h : M_laws_toIntSL1 aZ0 sZ4 = some o) : AWP (OkS Try.prog) A13L1 (qL [0, 3, 4] [3] (S_laws_toIntSL1 aZ0) (qX 0 [3] [3] (SX_laws_toIntSL1)) o) (S_laws_toIntSL1 aZ0 sZ4) := by
  unfold M_laws_toIntSL1 at h
  simp only [S_laws_toIntSL1, A13L1]
  refine Or.elim (bt (decide (sZ4.1 < (aZ0.length : Int)))) (fun cZ5 => ?_) (fun cZ5 => ?_)
  · replace h := cond_t cZ5 h
    obtain ⟨yZ6, hyZ6, h⟩ := bind_s h
    obtain ⟨hyZ6a, hyZ6b⟩ := geti_s hyZ6
    obtain ⟨kZ7, hkZ7, h⟩ := bind_s h
    obtain ⟨hkZ7a, hkZ7b⟩ := grd_s hkZ7
    obtain ⟨yZ8, hyZ8, h⟩ := bind_s h
    obtain ⟨lZ9, hlZ9, h⟩ := bnd_s h
    have eZ10 : (sZ4.2.map AV.i).set (Int.toNat sZ4.1) (.i yZ6) = lZ9.map AV.i := by rw [← hlZ9, List.map_set]
    cases h
    try simp only [VS1, VS2, VS3, VS4, VS5, VS6, VT1, VT2, finM_ret, finM_nrm, decide_true, decide_false, List.nodup_nil, List.nodup_cons, oks_p, oks_m, oks_h, ne_eq, not_false_eq_true, Int.reduceEq, Int.reduceNe, true_and, Nat.reduceSub, Nat.reduceMul, ↓reduceIte, reduceCtorEq, Nat.reduceEqDiff, Nat.reduceAdd, Nat.reduceLeDiff, Int.reduceLE, cZ5, hyZ6a, hyZ6b, hkZ7a, hkZ7b, hyZ8, eZ10]
    all_goals simp [qL, qJ, qJ0, qS, qX, qR, qM, Shp, sub, tupd, VS1, VS2, VS3, VS4, VS5, VS6, VT1, VT2, S_laws_toIntSL1, SX_laws_toIntSL1, ← hlZ9]
  · replace h := cond_f cZ5 h
    cases h
    try simp only [VS1, VS2, VS3, VS4, VS5, VS6, VT1, VT2, finM_ret, finM_nrm, decide_true, decide_false, List.nodup_nil, List.nodup_cons, oks_p, oks_m, oks_h, ne_eq, not_false_eq_true, Int.reduceEq, Int.reduceNe, true_and, Nat.reduceSub, Nat.reduceMul, ↓reduceIte, reduceCtorEq, Nat.reduceEqDiff, Nat.reduceAdd, Nat.reduceLeDiff, Int.reduceLE, cZ5]
    all_goals simp [qL, qJ, qJ0, qS, qX, qR, qM, Shp, sub, tupd, VS1, VS2, VS3, VS4, VS5, VS6, VT1, VT2, S_laws_toIntSL1, SX_laws_toIntSL1]
theorem w_laws_toIntS (aZ0 : List Int) {r : List Int} (h : M_laws_toIntS aZ0 = some r) : Ok Try.prog 13 [.lst .o 1 (aZ0.map AV.i)] ((fun r => .lst .u 1 (r.map AV.i)) r) := by
  refine ok_of_body hmix m13 rfl ?_
  unfold M_laws_toIntS at h
  simp only [A13, V13, body_eq]
  obtain ⟨uZ1, huZ1, h⟩ := bind_s h
  obtain ⟨huZ11, huZ12, huZ13, huZ14⟩ := grd_s huZ1
  obtain ⟨lZ2, hlZ2, h⟩ := bnd_s h
  have eZ3 : List.replicate (Int.toNat (aZ0.length : Int)) (.i 0 : AV) = lZ2.map AV.i := by rw [← hlZ2, List.map_replicate]
  obtain ⟨oZ11, hoZ11, h⟩ := bind_s h
  try simp only [VS1, VS2, VS3, VS4, VS5, VS6, VT1, VT2, finM_ret, finM_nrm, decide_true, decide_false, List.nodup_nil, List.nodup_cons, oks_p, oks_m, oks_h, ne_eq, not_false_eq_true, Int.reduceEq, Int.reduceNe, true_and, Nat.reduceSub, Nat.reduceMul, ↓reduceIte, reduceCtorEq, Nat.reduceEqDiff, Nat.reduceAdd, Nat.reduceLeDiff, Int.reduceLE, huZ11, huZ12, huZ13, huZ14, eZ3]
  refine join_rule0 (blk_rule0 (loop_rule (w_laws_toIntSL1 aZ0) hoZ11 ?_)) ?_
  · all_goals simp [qL, qJ, qJ0, qS, qX, qR, qM, Shp, sub, tupd, VS1, VS2, VS3, VS4, VS5, VS6, VT1, VT2, S_laws_toIntSL1, SX_laws_toIntSL1, ← hlZ2, List.length_replicate]
  · simp only [SX_laws_toIntSL1, A13R2]
    cases h
    try simp only [VS1, VS2, VS3, VS4, VS5, VS6, VT1, VT2, finM_ret, finM_nrm, decide_true, decide_false, List.nodup_nil, List.nodup_cons, oks_p, oks_m, oks_h, ne_eq, not_false_eq_true, Int.reduceEq, Int.reduceNe, true_and, Nat.reduceSub, Nat.reduceMul, ↓reduceIte, reduceCtorEq, Nat.reduceEqDiff, Nat.reduceAdd, Nat.reduceLeDiff, Int.reduceLE, huZ11, huZ12, huZ13, huZ14, eZ3]
    all_goals simp [qL, qJ, qJ0, qS, qX, qR, qM, Shp, sub, tupd, VS1, VS2, VS3, VS4, VS5, VS6, VT1, VT2, V13]
theorem w_spec_l1In (xZ0 : Int) (aZ0 : Int) (bZ0 : Int) {r : Bool} (h : M_spec_l1In xZ0 aZ0 bZ0 = some r) : Ok Try.prog 53 [.i xZ0, .i aZ0, .i bZ0] ((fun r => .b r) r) := by
  refine ok_of_body hmix m53 rfl ?_
  unfold M_spec_l1In at h
  simp only [A53, V53, body_eq]
  refine Or.elim (bt (decide (aZ0 ≤ xZ0))) (fun cZ1 => ?_) (fun cZ1 => ?_)
  · replace h := cond_t cZ1 h
    cases h
    try simp only [VS1, VS2, VS3, VS4, VS5, VS6, VT1, VT2, finM_ret, finM_nrm, decide_true, decide_false, List.nodup_nil, List.nodup_cons, oks_p, oks_m, oks_h, ne_eq, not_false_eq_true, Int.reduceEq, Int.reduceNe, true_and, Nat.reduceSub, Nat.reduceMul, ↓reduceIte, reduceCtorEq, Nat.reduceEqDiff, Nat.reduceAdd, Nat.reduceLeDiff, Int.reduceLE, cZ1]
    all_goals simp [qL, qJ, qJ0, qS, qX, qR, qM, Shp, sub, tupd, VS1, VS2, VS3, VS4, VS5, VS6, VT1, VT2, V53]
  · replace h := cond_f cZ1 h
    cases h
    try simp only [VS1, VS2, VS3, VS4, VS5, VS6, VT1, VT2, finM_ret, finM_nrm, decide_true, decide_false, List.nodup_nil, List.nodup_cons, oks_p, oks_m, oks_h, ne_eq, not_false_eq_true, Int.reduceEq, Int.reduceNe, true_and, Nat.reduceSub, Nat.reduceMul, ↓reduceIte, reduceCtorEq, Nat.reduceEqDiff, Nat.reduceAdd, Nat.reduceLeDiff, Int.reduceLE, cZ1]
    all_goals simp [qL, qJ, qJ0, qS, qX, qR, qM, Shp, sub, tupd, VS1, VS2, VS3, VS4, VS5, VS6, VT1, VT2, V53]
theorem w_spec_l2Sign (bZ0 : Int) {r : Bool} (h : M_spec_l2Sign bZ0 = some r) : Ok Try.prog 108 [.sc (.int .u8 bZ0)] ((fun r => .b r) r) := by
  refine ok_of_body hmix m108 rfl ?_
  unfold M_spec_l2Sign at h
  simp only [A108, V108, body_eq]
  refine Or.elim (bt (decide (97 ≤ bZ0))) (fun cZ1 => ?_) (fun cZ1 => ?_)
  · replace h := cond_t cZ1 h
    refine Or.elim (bt (decide (bZ0 ≤ 122))) (fun cZ2 => ?_) (fun cZ2 => ?_)
    · replace h := cond_t cZ2 h
      cases h
      try simp only [VS1, VS2, VS3, VS4, VS5, VS6, VT1, VT2, finM_ret, finM_nrm, decide_true, decide_false, List.nodup_nil, List.nodup_cons, oks_p, oks_m, oks_h, ne_eq, not_false_eq_true, Int.reduceEq, Int.reduceNe, true_and, Nat.reduceSub, Nat.reduceMul, ↓reduceIte, reduceCtorEq, Nat.reduceEqDiff, Nat.reduceAdd, Nat.reduceLeDiff, Int.reduceLE, cZ1, cZ2]
      all_goals simp [qL, qJ, qJ0, qS, qX, qR, qM, Shp, sub, tupd, VS1, VS2, VS3, VS4, VS5, VS6, VT1, VT2, V108]
    · replace h := cond_f cZ2 h
      refine Or.elim (bt (decide (48 ≤ bZ0))) (fun cZ3 => ?_) (fun cZ3 => ?_)
      · replace h := cond_t cZ3 h
        cases h
        try simp only [VS1, VS2, VS3, VS4, VS5, VS6, VT1, VT2, finM_ret, finM_nrm, decide_true, decide_false, List.nodup_nil, List.nodup_cons, oks_p, oks_m, oks_h, ne_eq, not_false_eq_true, Int.reduceEq, Int.reduceNe, true_and, Nat.reduceSub, Nat.reduceMul, ↓reduceIte, reduceCtorEq, Nat.reduceEqDiff, Nat.reduceAdd, Nat.reduceLeDiff, Int.reduceLE, cZ1, cZ2, cZ3]
        all_goals simp [qL, qJ, qJ0, qS, qX, qR, qM, Shp, sub, tupd, VS1, VS2, VS3, VS4, VS5, VS6, VT1, VT2, V108]
      · replace h := cond_f cZ3 h
        cases h
        try simp only [VS1, VS2, VS3, VS4, VS5, VS6, VT1, VT2, finM_ret, finM_nrm, decide_true, decide_false, List.nodup_nil, List.nodup_cons, oks_p, oks_m, oks_h, ne_eq, not_false_eq_true, Int.reduceEq, Int.reduceNe, true_and, Nat.reduceSub, Nat.reduceMul, ↓reduceIte, reduceCtorEq, Nat.reduceEqDiff, Nat.reduceAdd, Nat.reduceLeDiff, Int.reduceLE, cZ1, cZ2, cZ3]
        all_goals simp [qL, qJ, qJ0, qS, qX, qR, qM, Shp, sub, tupd, VS1, VS2, VS3, VS4, VS5, VS6, VT1, VT2, V108]
  · replace h := cond_f cZ1 h
    refine Or.elim (bt (decide (48 ≤ bZ0))) (fun cZ4 => ?_) (fun cZ4 => ?_)
    · replace h := cond_t cZ4 h
      cases h
      try simp only [VS1, VS2, VS3, VS4, VS5, VS6, VT1, VT2, finM_ret, finM_nrm, decide_true, decide_false, List.nodup_nil, List.nodup_cons, oks_p, oks_m, oks_h, ne_eq, not_false_eq_true, Int.reduceEq, Int.reduceNe, true_and, Nat.reduceSub, Nat.reduceMul, ↓reduceIte, reduceCtorEq, Nat.reduceEqDiff, Nat.reduceAdd, Nat.reduceLeDiff, Int.reduceLE, cZ1, cZ4]
      all_goals simp [qL, qJ, qJ0, qS, qX, qR, qM, Shp, sub, tupd, VS1, VS2, VS3, VS4, VS5, VS6, VT1, VT2, V108]
    · replace h := cond_f cZ4 h
      cases h
      try simp only [VS1, VS2, VS3, VS4, VS5, VS6, VT1, VT2, finM_ret, finM_nrm, decide_true, decide_false, List.nodup_nil, List.nodup_cons, oks_p, oks_m, oks_h, ne_eq, not_false_eq_true, Int.reduceEq, Int.reduceNe, true_and, Nat.reduceSub, Nat.reduceMul, ↓reduceIte, reduceCtorEq, Nat.reduceEqDiff, Nat.reduceAdd, Nat.reduceLeDiff, Int.reduceLE, cZ1, cZ4]
      all_goals simp [qL, qJ, qJ0, qS, qX, qR, qM, Shp, sub, tupd, VS1, VS2, VS3, VS4, VS5, VS6, VT1, VT2, V108]
def S_spec_l2NameL1 (sZ0 : ByteArray) (v : Int) : St := ⟨[(0, .z sZ0), (3, .i v)], []⟩
def SX_spec_l2NameL1 (v : Unit) : St := ⟨[], []⟩
theorem w_spec_l2NameL1 (sZ0 : ByteArray) (sZ7 : Int) (o : Int ⊕ (Unit ⊕ Bool)) (h : M_spec_l2NameL1 sZ0 sZ7 = some o) : AWP (OkS Try.prog) A72L2 (qL [0, 3] [] (S_spec_l2NameL1 sZ0) (qS (qX 0 [] [] (SX_spec_l2NameL1)) (qR V72 (fun r => .b r))) o) (S_spec_l2NameL1 sZ0 sZ7) := by
  unfold M_spec_l2NameL1 at h
  simp only [S_spec_l2NameL1, A72L2]
  refine Or.elim (bt (decide (sZ7 < (sZ0.size : Int)))) (fun cZ8 => ?_) (fun cZ8 => ?_)
  · replace h := cond_t cZ8 h
    obtain ⟨yZ9, hyZ9, h⟩ := bind_s h
    obtain ⟨hyZ9a, hyZ9b⟩ := getz_s hyZ9
    obtain ⟨rZ10, hrZ10, h⟩ := bind_s h
    simp only [VS1, VS2, VS3, VS4, VS5, VS6, VT1, VT2, finM_ret, finM_nrm, decide_true, decide_false, List.nodup_nil, List.nodup_cons, oks_p, oks_m, oks_h, ne_eq, not_false_eq_true, Int.reduceEq, Int.reduceNe, true_and, Nat.reduceSub, Nat.reduceMul, ↓reduceIte, reduceCtorEq, Nat.reduceEqDiff, Nat.reduceAdd, Nat.reduceLeDiff, Int.reduceLE, cZ8, hyZ9a, hyZ9b]
    refine call_s (by simp only [VS1, VS2, VS3, VS4, VS5, VS6, VT1, VT2, finM_ret, finM_nrm, decide_true, decide_false, List.nodup_nil, List.nodup_cons, oks_p, oks_m, oks_h, ne_eq, not_false_eq_true, Int.reduceEq, Int.reduceNe, true_and, Nat.reduceSub, Nat.reduceMul, ↓reduceIte, reduceCtorEq, Nat.reduceEqDiff, Nat.reduceAdd, Nat.reduceLeDiff, Int.reduceLE, cZ8, hyZ9a, hyZ9b]; exact w_spec_l2Sign _ hrZ10 ) ?_
    simp only [VA, VF1, ↓reduceIte, Nat.reduceEqDiff, Nat.reduceAdd, Nat.reduceMul, Nat.reduceSub, Nat.reduceLeDiff]
    refine Or.elim (bt (!rZ10)) (fun cZ11 => ?_) (fun cZ11 => ?_)
    · replace h := cond_t cZ11 h
      cases h
      try simp only [VS1, VS2, VS3, VS4, VS5, VS6, VT1, VT2, finM_ret, finM_nrm, decide_true, decide_false, List.nodup_nil, List.nodup_cons, oks_p, oks_m, oks_h, ne_eq, not_false_eq_true, Int.reduceEq, Int.reduceNe, true_and, Nat.reduceSub, Nat.reduceMul, ↓reduceIte, reduceCtorEq, Nat.reduceEqDiff, Nat.reduceAdd, Nat.reduceLeDiff, Int.reduceLE, cZ8, hyZ9a, hyZ9b, cZ11]
      all_goals simp [qL, qJ, qJ0, qS, qX, qR, qM, Shp, sub, tupd, VS1, VS2, VS3, VS4, VS5, VS6, VT1, VT2, V72]
    · replace h := cond_f cZ11 h
      cases h
      try simp only [VS1, VS2, VS3, VS4, VS5, VS6, VT1, VT2, finM_ret, finM_nrm, decide_true, decide_false, List.nodup_nil, List.nodup_cons, oks_p, oks_m, oks_h, ne_eq, not_false_eq_true, Int.reduceEq, Int.reduceNe, true_and, Nat.reduceSub, Nat.reduceMul, ↓reduceIte, reduceCtorEq, Nat.reduceEqDiff, Nat.reduceAdd, Nat.reduceLeDiff, Int.reduceLE, cZ8, hyZ9a, hyZ9b, cZ11]
      all_goals simp [qL, qJ, qJ0, qS, qX, qR, qM, Shp, sub, tupd, VS1, VS2, VS3, VS4, VS5, VS6, VT1, VT2, S_spec_l2NameL1, SX_spec_l2NameL1]
  · replace h := cond_f cZ8 h
    cases h
    try simp only [VS1, VS2, VS3, VS4, VS5, VS6, VT1, VT2, finM_ret, finM_nrm, decide_true, decide_false, List.nodup_nil, List.nodup_cons, oks_p, oks_m, oks_h, ne_eq, not_false_eq_true, Int.reduceEq, Int.reduceNe, true_and, Nat.reduceSub, Nat.reduceMul, ↓reduceIte, reduceCtorEq, Nat.reduceEqDiff, Nat.reduceAdd, Nat.reduceLeDiff, Int.reduceLE, cZ8]
    all_goals simp [qL, qJ, qJ0, qS, qX, qR, qM, Shp, sub, tupd, VS1, VS2, VS3, VS4, VS5, VS6, VT1, VT2, S_spec_l2NameL1, SX_spec_l2NameL1]
theorem w_spec_l2Name (sZ0 : ByteArray) {r : Bool} (h : M_spec_l2Name sZ0 = some r) : Ok Try.prog 72 [.z sZ0] ((fun r => .b r) r) := by
  refine ok_of_body hmix m72 rfl ?_
  unfold M_spec_l2Name at h
  simp only [A72, V72, body_eq]
  obtain ⟨oZ5, hoZ5, h⟩ := bind_s h
  try simp only [VS1, VS2, VS3, VS4, VS5, VS6, VT1, VT2, finM_ret, finM_nrm, decide_true, decide_false, List.nodup_nil, List.nodup_cons, oks_p, oks_m, oks_h, ne_eq, not_false_eq_true, Int.reduceEq, Int.reduceNe, true_and, Nat.reduceSub, Nat.reduceMul, ↓reduceIte, reduceCtorEq, Nat.reduceEqDiff, Nat.reduceAdd, Nat.reduceLeDiff, Int.reduceLE]
  refine join_rule0 (sh := (fun v => ⟨[(0, .z sZ0), (17, .b v)], []⟩)) (s := oZ5) ?_ ?_
  · replace h := hoZ5
    obtain ⟨rZ1, hrZ1, h⟩ := bind_s h
    simp only [VS1, VS2, VS3, VS4, VS5, VS6, VT1, VT2, finM_ret, finM_nrm, decide_true, decide_false, List.nodup_nil, List.nodup_cons, oks_p, oks_m, oks_h, ne_eq, not_false_eq_true, Int.reduceEq, Int.reduceNe, true_and, Nat.reduceSub, Nat.reduceMul, ↓reduceIte, reduceCtorEq, Nat.reduceEqDiff, Nat.reduceAdd, Nat.reduceLeDiff, Int.reduceLE]
    refine call_s (by simp only [VS1, VS2, VS3, VS4, VS5, VS6, VT1, VT2, finM_ret, finM_nrm, decide_true, decide_false, List.nodup_nil, List.nodup_cons, oks_p, oks_m, oks_h, ne_eq, not_false_eq_true, Int.reduceEq, Int.reduceNe, true_and, Nat.reduceSub, Nat.reduceMul, ↓reduceIte, reduceCtorEq, Nat.reduceEqDiff, Nat.reduceAdd, Nat.reduceLeDiff, Int.reduceLE]; exact w_spec_l1In _ _ _ hrZ1 ) ?_
    simp only [VA, VF1, ↓reduceIte, Nat.reduceEqDiff, Nat.reduceAdd, Nat.reduceMul, Nat.reduceSub, Nat.reduceLeDiff]
    refine Or.elim (bt (!rZ1)) (fun cZ2 => ?_) (fun cZ2 => ?_)
    · replace h := cond_t cZ2 h
      cases h
      try simp only [VS1, VS2, VS3, VS4, VS5, VS6, VT1, VT2, finM_ret, finM_nrm, decide_true, decide_false, List.nodup_nil, List.nodup_cons, oks_p, oks_m, oks_h, ne_eq, not_false_eq_true, Int.reduceEq, Int.reduceNe, true_and, Nat.reduceSub, Nat.reduceMul, ↓reduceIte, reduceCtorEq, Nat.reduceEqDiff, Nat.reduceAdd, Nat.reduceLeDiff, Int.reduceLE, cZ2]
      all_goals simp [qL, qJ, qJ0, qS, qX, qR, qM, Shp, sub, tupd, VS1, VS2, VS3, VS4, VS5, VS6, VT1, VT2]
    · replace h := cond_f cZ2 h
      obtain ⟨yZ3, hyZ3, h⟩ := bind_s h
      obtain ⟨hyZ3a, hyZ3b⟩ := getz_s hyZ3
      refine Or.elim (bt (decide ((yZ3.toNat : Int) < 97))) (fun cZ4 => ?_) (fun cZ4 => ?_)
      · replace h := cond_t cZ4 h
        cases h
        try simp only [VS1, VS2, VS3, VS4, VS5, VS6, VT1, VT2, finM_ret, finM_nrm, decide_true, decide_false, List.nodup_nil, List.nodup_cons, oks_p, oks_m, oks_h, ne_eq, not_false_eq_true, Int.reduceEq, Int.reduceNe, true_and, Nat.reduceSub, Nat.reduceMul, ↓reduceIte, reduceCtorEq, Nat.reduceEqDiff, Nat.reduceAdd, Nat.reduceLeDiff, Int.reduceLE, cZ2, hyZ3a, hyZ3b, cZ4]
        all_goals simp [qL, qJ, qJ0, qS, qX, qR, qM, Shp, sub, tupd, VS1, VS2, VS3, VS4, VS5, VS6, VT1, VT2]
      · replace h := cond_f cZ4 h
        cases h
        try simp only [VS1, VS2, VS3, VS4, VS5, VS6, VT1, VT2, finM_ret, finM_nrm, decide_true, decide_false, List.nodup_nil, List.nodup_cons, oks_p, oks_m, oks_h, ne_eq, not_false_eq_true, Int.reduceEq, Int.reduceNe, true_and, Nat.reduceSub, Nat.reduceMul, ↓reduceIte, reduceCtorEq, Nat.reduceEqDiff, Nat.reduceAdd, Nat.reduceLeDiff, Int.reduceLE, cZ2, hyZ3a, hyZ3b, cZ4]
        all_goals simp [qL, qJ, qJ0, qS, qX, qR, qM, Shp, sub, tupd, VS1, VS2, VS3, VS4, VS5, VS6, VT1, VT2]
  · simp only [A72R1]
    refine Or.elim (bt (oZ5)) (fun cZ6 => ?_) (fun cZ6 => ?_)
    · replace h := cond_t cZ6 h
      cases h
      try simp only [VS1, VS2, VS3, VS4, VS5, VS6, VT1, VT2, finM_ret, finM_nrm, decide_true, decide_false, List.nodup_nil, List.nodup_cons, oks_p, oks_m, oks_h, ne_eq, not_false_eq_true, Int.reduceEq, Int.reduceNe, true_and, Nat.reduceSub, Nat.reduceMul, ↓reduceIte, reduceCtorEq, Nat.reduceEqDiff, Nat.reduceAdd, Nat.reduceLeDiff, Int.reduceLE, cZ6]
      all_goals simp [qL, qJ, qJ0, qS, qX, qR, qM, Shp, sub, tupd, VS1, VS2, VS3, VS4, VS5, VS6, VT1, VT2, V72]
    · replace h := cond_f cZ6 h
      obtain ⟨oZ12, hoZ12, h⟩ := bind_s h
      try simp only [VS1, VS2, VS3, VS4, VS5, VS6, VT1, VT2, finM_ret, finM_nrm, decide_true, decide_false, List.nodup_nil, List.nodup_cons, oks_p, oks_m, oks_h, ne_eq, not_false_eq_true, Int.reduceEq, Int.reduceNe, true_and, Nat.reduceSub, Nat.reduceMul, ↓reduceIte, reduceCtorEq, Nat.reduceEqDiff, Nat.reduceAdd, Nat.reduceLeDiff, Int.reduceLE, cZ6]
      refine join_rule (o := oZ12) (blk_rule sideR (loop_rule (w_spec_l2NameL1 sZ0) hoZ12 ?_)) (fun vZ13 hv => ?_) (fun xZ14 hv e τ hne hq => ?_)
      · all_goals simp [qL, qJ, qJ0, qS, qX, qR, qM, Shp, sub, tupd, VS1, VS2, VS3, VS4, VS5, VS6, VT1, VT2, S_spec_l2NameL1, SX_spec_l2NameL1]
      · subst hv
        simp only [] at h
        simp only [SX_spec_l2NameL1, A72R3]
        cases h
        try simp only [VS1, VS2, VS3, VS4, VS5, VS6, VT1, VT2, finM_ret, finM_nrm, decide_true, decide_false, List.nodup_nil, List.nodup_cons, oks_p, oks_m, oks_h, ne_eq, not_false_eq_true, Int.reduceEq, Int.reduceNe, true_and, Nat.reduceSub, Nat.reduceMul, ↓reduceIte, reduceCtorEq, Nat.reduceEqDiff, Nat.reduceAdd, Nat.reduceLeDiff, Int.reduceLE, cZ6]
        all_goals simp [qL, qJ, qJ0, qS, qX, qR, qM, Shp, sub, tupd, VS1, VS2, VS3, VS4, VS5, VS6, VT1, VT2, V72]
      · subst hv
        simp only [] at h
        obtain ⟨rfl, qZ15⟩ := hq
        cases h
        exact qZ15
def S_spec_l2FindL1 (listZ0 : List ByteArray) (nameZ0 : ByteArray) (v : Int) : St := ⟨[(0, .lst .o 1 (listZ0.map AV.z)), (1, .z nameZ0), (5, .i v)], []⟩
def SX_spec_l2FindL1 (v : Unit) : St := ⟨[], []⟩
theorem w_spec_l2FindL1 (listZ0 : List ByteArray) (nameZ0 : ByteArray) (sZ1 : Int) (o : Int ⊕ (Unit ⊕ Int)) (h : M_spec_l2FindL1 listZ0 nameZ0 sZ1 = some o) : AWP (OkS Try.prog) A73L1 (qL [0, 1, 5] [] (S_spec_l2FindL1 listZ0 nameZ0) (qS (qX 0 [] [] (SX_spec_l2FindL1)) (qR V73 (fun r => .i r))) o) (S_spec_l2FindL1 listZ0 nameZ0 sZ1) := by
  unfold M_spec_l2FindL1 at h
  simp only [S_spec_l2FindL1, A73L1]
  refine Or.elim (bt (decide (sZ1 < (listZ0.length : Int)))) (fun cZ2 => ?_) (fun cZ2 => ?_)
  · replace h := cond_t cZ2 h
    obtain ⟨yZ3, hyZ3, h⟩ := bind_s h
    obtain ⟨hyZ3a, hyZ3b⟩ := geti_s hyZ3
    refine Or.elim (bt (yZ3.toList == nameZ0.toList)) (fun cZ4 => ?_) (fun cZ4 => ?_)
    · replace h := cond_t cZ4 h
      cases h
      try simp only [VS1, VS2, VS3, VS4, VS5, VS6, VT1, VT2, finM_ret, finM_nrm, decide_true, decide_false, List.nodup_nil, List.nodup_cons, oks_p, oks_m, oks_h, ne_eq, not_false_eq_true, Int.reduceEq, Int.reduceNe, true_and, Nat.reduceSub, Nat.reduceMul, ↓reduceIte, reduceCtorEq, Nat.reduceEqDiff, Nat.reduceAdd, Nat.reduceLeDiff, Int.reduceLE, cZ2, hyZ3a, hyZ3b, cZ4]
      all_goals simp [qL, qJ, qJ0, qS, qX, qR, qM, Shp, sub, tupd, VS1, VS2, VS3, VS4, VS5, VS6, VT1, VT2, V73]
    · replace h := cond_f cZ4 h
      cases h
      try simp only [VS1, VS2, VS3, VS4, VS5, VS6, VT1, VT2, finM_ret, finM_nrm, decide_true, decide_false, List.nodup_nil, List.nodup_cons, oks_p, oks_m, oks_h, ne_eq, not_false_eq_true, Int.reduceEq, Int.reduceNe, true_and, Nat.reduceSub, Nat.reduceMul, ↓reduceIte, reduceCtorEq, Nat.reduceEqDiff, Nat.reduceAdd, Nat.reduceLeDiff, Int.reduceLE, cZ2, hyZ3a, hyZ3b, cZ4]
      all_goals simp [qL, qJ, qJ0, qS, qX, qR, qM, Shp, sub, tupd, VS1, VS2, VS3, VS4, VS5, VS6, VT1, VT2, S_spec_l2FindL1, SX_spec_l2FindL1]
  · replace h := cond_f cZ2 h
    cases h
    try simp only [VS1, VS2, VS3, VS4, VS5, VS6, VT1, VT2, finM_ret, finM_nrm, decide_true, decide_false, List.nodup_nil, List.nodup_cons, oks_p, oks_m, oks_h, ne_eq, not_false_eq_true, Int.reduceEq, Int.reduceNe, true_and, Nat.reduceSub, Nat.reduceMul, ↓reduceIte, reduceCtorEq, Nat.reduceEqDiff, Nat.reduceAdd, Nat.reduceLeDiff, Int.reduceLE, cZ2]
    all_goals simp [qL, qJ, qJ0, qS, qX, qR, qM, Shp, sub, tupd, VS1, VS2, VS3, VS4, VS5, VS6, VT1, VT2, S_spec_l2FindL1, SX_spec_l2FindL1]
theorem w_spec_l2Find (listZ0 : List ByteArray) (nameZ0 : ByteArray) {r : Int} (h : M_spec_l2Find listZ0 nameZ0 = some r) : Ok Try.prog 73 [.lst .o 1 (listZ0.map AV.z), .z nameZ0] ((fun r => .i r) r) := by
  refine ok_of_body hmix m73 rfl ?_
  unfold M_spec_l2Find at h
  simp only [A73, V73, body_eq]
  obtain ⟨oZ5, hoZ5, h⟩ := bind_s h
  try simp only [VS1, VS2, VS3, VS4, VS5, VS6, VT1, VT2, finM_ret, finM_nrm, decide_true, decide_false, List.nodup_nil, List.nodup_cons, oks_p, oks_m, oks_h, ne_eq, not_false_eq_true, Int.reduceEq, Int.reduceNe, true_and, Nat.reduceSub, Nat.reduceMul, ↓reduceIte, reduceCtorEq, Nat.reduceEqDiff, Nat.reduceAdd, Nat.reduceLeDiff, Int.reduceLE]
  refine join_rule (o := oZ5) (blk_rule sideR (loop_rule (w_spec_l2FindL1 listZ0 nameZ0) hoZ5 ?_)) (fun vZ6 hv => ?_) (fun xZ7 hv e τ hne hq => ?_)
  · all_goals simp [qL, qJ, qJ0, qS, qX, qR, qM, Shp, sub, tupd, VS1, VS2, VS3, VS4, VS5, VS6, VT1, VT2, S_spec_l2FindL1, SX_spec_l2FindL1]
  · subst hv
    simp only [] at h
    simp only [SX_spec_l2FindL1, A73R2]
    cases h
    try simp only [VS1, VS2, VS3, VS4, VS5, VS6, VT1, VT2, finM_ret, finM_nrm, decide_true, decide_false, List.nodup_nil, List.nodup_cons, oks_p, oks_m, oks_h, ne_eq, not_false_eq_true, Int.reduceEq, Int.reduceNe, true_and, Nat.reduceSub, Nat.reduceMul, ↓reduceIte, reduceCtorEq, Nat.reduceEqDiff, Nat.reduceAdd, Nat.reduceLeDiff, Int.reduceLE]
    all_goals simp [qL, qJ, qJ0, qS, qX, qR, qM, Shp, sub, tupd, VS1, VS2, VS3, VS4, VS5, VS6, VT1, VT2, V73]
  · subst hv
    simp only [] at h
    obtain ⟨rfl, qZ8⟩ := hq
    cases h
    exact qZ8
theorem w_spec_l2Fiber (fZ0 : TFiber) (nodesZ0 : Int) {r : Bool} (h : M_spec_l2Fiber fZ0 nodesZ0 = some r) : Ok Try.prog 74 [.agg [.i fZ0.A, .i fZ0.B, .i fZ0.Length, .i fZ0.Risk], .i nodesZ0] ((fun r => .b r) r) := by
  refine ok_of_body hmix m74 rfl ?_
  unfold M_spec_l2Fiber at h
  simp only [A74, V74, body_eq]
  obtain ⟨rZ1, hrZ1, h⟩ := bind_s h
  simp only [VS1, VS2, VS3, VS4, VS5, VS6, VT1, VT2, finM_ret, finM_nrm, decide_true, decide_false, List.nodup_nil, List.nodup_cons, oks_p, oks_m, oks_h, ne_eq, not_false_eq_true, Int.reduceEq, Int.reduceNe, true_and, Nat.reduceSub, Nat.reduceMul, ↓reduceIte, reduceCtorEq, Nat.reduceEqDiff, Nat.reduceAdd, Nat.reduceLeDiff, Int.reduceLE]
  refine call_s (by simp only [VS1, VS2, VS3, VS4, VS5, VS6, VT1, VT2, finM_ret, finM_nrm, decide_true, decide_false, List.nodup_nil, List.nodup_cons, oks_p, oks_m, oks_h, ne_eq, not_false_eq_true, Int.reduceEq, Int.reduceNe, true_and, Nat.reduceSub, Nat.reduceMul, ↓reduceIte, reduceCtorEq, Nat.reduceEqDiff, Nat.reduceAdd, Nat.reduceLeDiff, Int.reduceLE]; exact w_spec_l1In _ _ _ hrZ1 ) ?_
  simp only [VA, VF1, ↓reduceIte, Nat.reduceEqDiff, Nat.reduceAdd, Nat.reduceMul, Nat.reduceSub, Nat.reduceLeDiff]
  refine Or.elim (bt (rZ1)) (fun cZ2 => ?_) (fun cZ2 => ?_)
  · replace h := cond_t cZ2 h
    obtain ⟨rZ3, hrZ3, h⟩ := bind_s h
    simp only [VS1, VS2, VS3, VS4, VS5, VS6, VT1, VT2, finM_ret, finM_nrm, decide_true, decide_false, List.nodup_nil, List.nodup_cons, oks_p, oks_m, oks_h, ne_eq, not_false_eq_true, Int.reduceEq, Int.reduceNe, true_and, Nat.reduceSub, Nat.reduceMul, ↓reduceIte, reduceCtorEq, Nat.reduceEqDiff, Nat.reduceAdd, Nat.reduceLeDiff, Int.reduceLE, cZ2]
    refine call_s (by simp only [VS1, VS2, VS3, VS4, VS5, VS6, VT1, VT2, finM_ret, finM_nrm, decide_true, decide_false, List.nodup_nil, List.nodup_cons, oks_p, oks_m, oks_h, ne_eq, not_false_eq_true, Int.reduceEq, Int.reduceNe, true_and, Nat.reduceSub, Nat.reduceMul, ↓reduceIte, reduceCtorEq, Nat.reduceEqDiff, Nat.reduceAdd, Nat.reduceLeDiff, Int.reduceLE, cZ2]; exact w_spec_l1In _ _ _ hrZ3 ) ?_
    simp only [VA, VF1, ↓reduceIte, Nat.reduceEqDiff, Nat.reduceAdd, Nat.reduceMul, Nat.reduceSub, Nat.reduceLeDiff]
    refine Or.elim (bt (rZ3)) (fun cZ4 => ?_) (fun cZ4 => ?_)
    · replace h := cond_t cZ4 h
      obtain ⟨rZ5, hrZ5, h⟩ := bind_s h
      simp only [VS1, VS2, VS3, VS4, VS5, VS6, VT1, VT2, finM_ret, finM_nrm, decide_true, decide_false, List.nodup_nil, List.nodup_cons, oks_p, oks_m, oks_h, ne_eq, not_false_eq_true, Int.reduceEq, Int.reduceNe, true_and, Nat.reduceSub, Nat.reduceMul, ↓reduceIte, reduceCtorEq, Nat.reduceEqDiff, Nat.reduceAdd, Nat.reduceLeDiff, Int.reduceLE, cZ2, cZ4]
      refine call_s (by simp only [VS1, VS2, VS3, VS4, VS5, VS6, VT1, VT2, finM_ret, finM_nrm, decide_true, decide_false, List.nodup_nil, List.nodup_cons, oks_p, oks_m, oks_h, ne_eq, not_false_eq_true, Int.reduceEq, Int.reduceNe, true_and, Nat.reduceSub, Nat.reduceMul, ↓reduceIte, reduceCtorEq, Nat.reduceEqDiff, Nat.reduceAdd, Nat.reduceLeDiff, Int.reduceLE, cZ2, cZ4]; exact w_spec_l1In _ _ _ hrZ5 ) ?_
      simp only [VA, VF1, ↓reduceIte, Nat.reduceEqDiff, Nat.reduceAdd, Nat.reduceMul, Nat.reduceSub, Nat.reduceLeDiff]
      refine Or.elim (bt (rZ5)) (fun cZ6 => ?_) (fun cZ6 => ?_)
      · replace h := cond_t cZ6 h
        obtain ⟨rZ7, hrZ7, h⟩ := bind_s h
        simp only [VS1, VS2, VS3, VS4, VS5, VS6, VT1, VT2, finM_ret, finM_nrm, decide_true, decide_false, List.nodup_nil, List.nodup_cons, oks_p, oks_m, oks_h, ne_eq, not_false_eq_true, Int.reduceEq, Int.reduceNe, true_and, Nat.reduceSub, Nat.reduceMul, ↓reduceIte, reduceCtorEq, Nat.reduceEqDiff, Nat.reduceAdd, Nat.reduceLeDiff, Int.reduceLE, cZ2, cZ4, cZ6]
        refine call_s (by simp only [VS1, VS2, VS3, VS4, VS5, VS6, VT1, VT2, finM_ret, finM_nrm, decide_true, decide_false, List.nodup_nil, List.nodup_cons, oks_p, oks_m, oks_h, ne_eq, not_false_eq_true, Int.reduceEq, Int.reduceNe, true_and, Nat.reduceSub, Nat.reduceMul, ↓reduceIte, reduceCtorEq, Nat.reduceEqDiff, Nat.reduceAdd, Nat.reduceLeDiff, Int.reduceLE, cZ2, cZ4, cZ6]; exact w_spec_l1In _ _ _ hrZ7 ) ?_
        simp only [VA, VF1, ↓reduceIte, Nat.reduceEqDiff, Nat.reduceAdd, Nat.reduceMul, Nat.reduceSub, Nat.reduceLeDiff]
        cases h
        try simp only [VS1, VS2, VS3, VS4, VS5, VS6, VT1, VT2, finM_ret, finM_nrm, decide_true, decide_false, List.nodup_nil, List.nodup_cons, oks_p, oks_m, oks_h, ne_eq, not_false_eq_true, Int.reduceEq, Int.reduceNe, true_and, Nat.reduceSub, Nat.reduceMul, ↓reduceIte, reduceCtorEq, Nat.reduceEqDiff, Nat.reduceAdd, Nat.reduceLeDiff, Int.reduceLE, cZ2, cZ4, cZ6]
        all_goals simp [qL, qJ, qJ0, qS, qX, qR, qM, Shp, sub, tupd, VS1, VS2, VS3, VS4, VS5, VS6, VT1, VT2, V74]
      · replace h := cond_f cZ6 h
        cases h
        try simp only [VS1, VS2, VS3, VS4, VS5, VS6, VT1, VT2, finM_ret, finM_nrm, decide_true, decide_false, List.nodup_nil, List.nodup_cons, oks_p, oks_m, oks_h, ne_eq, not_false_eq_true, Int.reduceEq, Int.reduceNe, true_and, Nat.reduceSub, Nat.reduceMul, ↓reduceIte, reduceCtorEq, Nat.reduceEqDiff, Nat.reduceAdd, Nat.reduceLeDiff, Int.reduceLE, cZ2, cZ4, cZ6]
        all_goals simp [qL, qJ, qJ0, qS, qX, qR, qM, Shp, sub, tupd, VS1, VS2, VS3, VS4, VS5, VS6, VT1, VT2, V74]
    · replace h := cond_f cZ4 h
      cases h
      try simp only [VS1, VS2, VS3, VS4, VS5, VS6, VT1, VT2, finM_ret, finM_nrm, decide_true, decide_false, List.nodup_nil, List.nodup_cons, oks_p, oks_m, oks_h, ne_eq, not_false_eq_true, Int.reduceEq, Int.reduceNe, true_and, Nat.reduceSub, Nat.reduceMul, ↓reduceIte, reduceCtorEq, Nat.reduceEqDiff, Nat.reduceAdd, Nat.reduceLeDiff, Int.reduceLE, cZ2, cZ4]
      all_goals simp [qL, qJ, qJ0, qS, qX, qR, qM, Shp, sub, tupd, VS1, VS2, VS3, VS4, VS5, VS6, VT1, VT2, V74]
  · replace h := cond_f cZ2 h
    cases h
    try simp only [VS1, VS2, VS3, VS4, VS5, VS6, VT1, VT2, finM_ret, finM_nrm, decide_true, decide_false, List.nodup_nil, List.nodup_cons, oks_p, oks_m, oks_h, ne_eq, not_false_eq_true, Int.reduceEq, Int.reduceNe, true_and, Nat.reduceSub, Nat.reduceMul, ↓reduceIte, reduceCtorEq, Nat.reduceEqDiff, Nat.reduceAdd, Nat.reduceLeDiff, Int.reduceLE, cZ2]
    all_goals simp [qL, qJ, qJ0, qS, qX, qR, qM, Shp, sub, tupd, VS1, VS2, VS3, VS4, VS5, VS6, VT1, VT2, V74]
theorem w_spec_l2Before (fZ0 : TFiber) (gZ0 : TFiber) {r : Int} (h : M_spec_l2Before fZ0 gZ0 = some r) : Ok Try.prog 75 [.agg [.i fZ0.A, .i fZ0.B, .i fZ0.Length, .i fZ0.Risk], .agg [.i gZ0.A, .i gZ0.B, .i gZ0.Length, .i gZ0.Risk]] ((fun r => .i r) r) := by
  refine ok_of_body hmix m75 rfl ?_
  unfold M_spec_l2Before at h
  simp only [A75, V75, body_eq]
  refine Or.elim (bt (fZ0.A != gZ0.A)) (fun cZ1 => ?_) (fun cZ1 => ?_)
  · replace h := cond_t cZ1 h
    cases h
    try simp only [VS1, VS2, VS3, VS4, VS5, VS6, VT1, VT2, finM_ret, finM_nrm, decide_true, decide_false, List.nodup_nil, List.nodup_cons, oks_p, oks_m, oks_h, ne_eq, not_false_eq_true, Int.reduceEq, Int.reduceNe, true_and, Nat.reduceSub, Nat.reduceMul, ↓reduceIte, reduceCtorEq, Nat.reduceEqDiff, Nat.reduceAdd, Nat.reduceLeDiff, Int.reduceLE, cZ1]
    all_goals simp [qL, qJ, qJ0, qS, qX, qR, qM, Shp, sub, tupd, VS1, VS2, VS3, VS4, VS5, VS6, VT1, VT2, V75]
  · replace h := cond_f cZ1 h
    refine Or.elim (bt (fZ0.B != gZ0.B)) (fun cZ2 => ?_) (fun cZ2 => ?_)
    · replace h := cond_t cZ2 h
      cases h
      try simp only [VS1, VS2, VS3, VS4, VS5, VS6, VT1, VT2, finM_ret, finM_nrm, decide_true, decide_false, List.nodup_nil, List.nodup_cons, oks_p, oks_m, oks_h, ne_eq, not_false_eq_true, Int.reduceEq, Int.reduceNe, true_and, Nat.reduceSub, Nat.reduceMul, ↓reduceIte, reduceCtorEq, Nat.reduceEqDiff, Nat.reduceAdd, Nat.reduceLeDiff, Int.reduceLE, cZ1, cZ2]
      all_goals simp [qL, qJ, qJ0, qS, qX, qR, qM, Shp, sub, tupd, VS1, VS2, VS3, VS4, VS5, VS6, VT1, VT2, V75]
    · replace h := cond_f cZ2 h
      refine Or.elim (bt (fZ0.Length != gZ0.Length)) (fun cZ3 => ?_) (fun cZ3 => ?_)
      · replace h := cond_t cZ3 h
        cases h
        try simp only [VS1, VS2, VS3, VS4, VS5, VS6, VT1, VT2, finM_ret, finM_nrm, decide_true, decide_false, List.nodup_nil, List.nodup_cons, oks_p, oks_m, oks_h, ne_eq, not_false_eq_true, Int.reduceEq, Int.reduceNe, true_and, Nat.reduceSub, Nat.reduceMul, ↓reduceIte, reduceCtorEq, Nat.reduceEqDiff, Nat.reduceAdd, Nat.reduceLeDiff, Int.reduceLE, cZ1, cZ2, cZ3]
        all_goals simp [qL, qJ, qJ0, qS, qX, qR, qM, Shp, sub, tupd, VS1, VS2, VS3, VS4, VS5, VS6, VT1, VT2, V75]
      · replace h := cond_f cZ3 h
        cases h
        try simp only [VS1, VS2, VS3, VS4, VS5, VS6, VT1, VT2, finM_ret, finM_nrm, decide_true, decide_false, List.nodup_nil, List.nodup_cons, oks_p, oks_m, oks_h, ne_eq, not_false_eq_true, Int.reduceEq, Int.reduceNe, true_and, Nat.reduceSub, Nat.reduceMul, ↓reduceIte, reduceCtorEq, Nat.reduceEqDiff, Nat.reduceAdd, Nat.reduceLeDiff, Int.reduceLE, cZ1, cZ2, cZ3]
        all_goals simp [qL, qJ, qJ0, qS, qX, qR, qM, Shp, sub, tupd, VS1, VS2, VS3, VS4, VS5, VS6, VT1, VT2, V75]
def S_spec_l2GoodL1 (nZ0 : TNetwork) (v : Int) : St := ⟨[(1, .pt 1 0 0), (3, .i v)], [(1, .var (.agg [.lst .o 1 (nZ0.Nodes.map AV.z), .lst .o 4 (nZ0.Fibers.map (e_TFiber .o))]))]⟩
def SX_spec_l2GoodL1 (nZ0 : TNetwork) (v : Unit) : St := ⟨[(1, .pt 1 0 0)], [(1, .var (.agg [.lst .o 1 (nZ0.Nodes.map AV.z), .lst .o 4 (nZ0.Fibers.map (e_TFiber .o))]))]⟩
theorem w_spec_l2GoodL1 (nZ0 : TNetwork) (sZ5 : Int) (o : Int ⊕ (Unit ⊕ Bool)) (h : M_spec_l2GoodL1 nZ0 sZ5 = some o) : AWP (OkS Try.prog) A40L3 (qL [1, 3] [1] (S_spec_l2GoodL1 nZ0) (qS (qX 0 [1] [1] (SX_spec_l2GoodL1 nZ0)) (qR V40 (fun r => .b r))) o) (S_spec_l2GoodL1 nZ0 sZ5) := by
  unfold M_spec_l2GoodL1 at h
  simp only [S_spec_l2GoodL1, A40L3]
  refine Or.elim (bt (decide (sZ5 < (nZ0.Nodes.length : Int)))) (fun cZ6 => ?_) (fun cZ6 => ?_)
  · replace h := cond_t cZ6 h
    obtain ⟨oZ11, hoZ11, h⟩ := bind_s h
    try simp only [VS1, VS2, VS3, VS4, VS5, VS6, VT1, VT2, finM_ret, finM_nrm, decide_true, decide_false, List.nodup_nil, List.nodup_cons, oks_p, oks_m, oks_h, ne_eq, not_false_eq_true, Int.reduceEq, Int.reduceNe, true_and, Nat.reduceSub, Nat.reduceMul, ↓reduceIte, reduceCtorEq, Nat.reduceEqDiff, Nat.reduceAdd, Nat.reduceLeDiff, Int.reduceLE, cZ6]
    refine join_rule0 (sh := (fun v => ⟨[(1, .pt 1 0 0), (3, .i sZ5), (41, .b v)], [(1, .var (.agg [.lst .o 1 (nZ0.Nodes.map AV.z), .lst .o 4 (nZ0.Fibers.map (e_TFiber .o))]))]⟩)) (s := oZ11) ?_ ?_
    · replace h := hoZ11
      obtain ⟨yZ7, hyZ7, h⟩ := bind_s h
      obtain ⟨hyZ7a, hyZ7b⟩ := geti_s hyZ7
      obtain ⟨rZ8, hrZ8, h⟩ := bind_s h
      simp only [VS1, VS2, VS3, VS4, VS5, VS6, VT1, VT2, finM_ret, finM_nrm, decide_true, decide_false, List.nodup_nil, List.nodup_cons, oks_p, oks_m, oks_h, ne_eq, not_false_eq_true, Int.reduceEq, Int.reduceNe, true_and, Nat.reduceSub, Nat.reduceMul, ↓reduceIte, reduceCtorEq, Nat.reduceEqDiff, Nat.reduceAdd, Nat.reduceLeDiff, Int.reduceLE, cZ6, hyZ7a, hyZ7b]
      refine call_s (by simp only [VS1, VS2, VS3, VS4, VS5, VS6, VT1, VT2, finM_ret, finM_nrm, decide_true, decide_false, List.nodup_nil, List.nodup_cons, oks_p, oks_m, oks_h, ne_eq, not_false_eq_true, Int.reduceEq, Int.reduceNe, true_and, Nat.reduceSub, Nat.reduceMul, ↓reduceIte, reduceCtorEq, Nat.reduceEqDiff, Nat.reduceAdd, Nat.reduceLeDiff, Int.reduceLE, cZ6, hyZ7a, hyZ7b]; exact w_spec_l2Name _ hrZ8 ) ?_
      simp only [VA, VF1, ↓reduceIte, Nat.reduceEqDiff, Nat.reduceAdd, Nat.reduceMul, Nat.reduceSub, Nat.reduceLeDiff]
      refine Or.elim (bt (!rZ8)) (fun cZ9 => ?_) (fun cZ9 => ?_)
      · replace h := cond_t cZ9 h
        cases h
        try simp only [VS1, VS2, VS3, VS4, VS5, VS6, VT1, VT2, finM_ret, finM_nrm, decide_true, decide_false, List.nodup_nil, List.nodup_cons, oks_p, oks_m, oks_h, ne_eq, not_false_eq_true, Int.reduceEq, Int.reduceNe, true_and, Nat.reduceSub, Nat.reduceMul, ↓reduceIte, reduceCtorEq, Nat.reduceEqDiff, Nat.reduceAdd, Nat.reduceLeDiff, Int.reduceLE, cZ6, hyZ7a, hyZ7b, cZ9]
        all_goals simp [qL, qJ, qJ0, qS, qX, qR, qM, Shp, sub, tupd, VS1, VS2, VS3, VS4, VS5, VS6, VT1, VT2]
      · replace h := cond_f cZ9 h
        obtain ⟨rZ10, hrZ10, h⟩ := bind_s h
        simp only [VS1, VS2, VS3, VS4, VS5, VS6, VT1, VT2, finM_ret, finM_nrm, decide_true, decide_false, List.nodup_nil, List.nodup_cons, oks_p, oks_m, oks_h, ne_eq, not_false_eq_true, Int.reduceEq, Int.reduceNe, true_and, Nat.reduceSub, Nat.reduceMul, ↓reduceIte, reduceCtorEq, Nat.reduceEqDiff, Nat.reduceAdd, Nat.reduceLeDiff, Int.reduceLE, cZ6, hyZ7a, hyZ7b, cZ9]
        refine call_s (by simp only [VS1, VS2, VS3, VS4, VS5, VS6, VT1, VT2, finM_ret, finM_nrm, decide_true, decide_false, List.nodup_nil, List.nodup_cons, oks_p, oks_m, oks_h, ne_eq, not_false_eq_true, Int.reduceEq, Int.reduceNe, true_and, Nat.reduceSub, Nat.reduceMul, ↓reduceIte, reduceCtorEq, Nat.reduceEqDiff, Nat.reduceAdd, Nat.reduceLeDiff, Int.reduceLE, cZ6, hyZ7a, hyZ7b, cZ9]; exact w_spec_l2Find _ _ hrZ10 ) ?_
        simp only [VA, VF1, ↓reduceIte, Nat.reduceEqDiff, Nat.reduceAdd, Nat.reduceMul, Nat.reduceSub, Nat.reduceLeDiff]
        cases h
        try simp only [VS1, VS2, VS3, VS4, VS5, VS6, VT1, VT2, finM_ret, finM_nrm, decide_true, decide_false, List.nodup_nil, List.nodup_cons, oks_p, oks_m, oks_h, ne_eq, not_false_eq_true, Int.reduceEq, Int.reduceNe, true_and, Nat.reduceSub, Nat.reduceMul, ↓reduceIte, reduceCtorEq, Nat.reduceEqDiff, Nat.reduceAdd, Nat.reduceLeDiff, Int.reduceLE, cZ6, hyZ7a, hyZ7b, cZ9]
        all_goals simp [qL, qJ, qJ0, qS, qX, qR, qM, Shp, sub, tupd, VS1, VS2, VS3, VS4, VS5, VS6, VT1, VT2]
    · simp only [A40R2]
      refine Or.elim (bt (oZ11)) (fun cZ12 => ?_) (fun cZ12 => ?_)
      · replace h := cond_t cZ12 h
        cases h
        try simp only [VS1, VS2, VS3, VS4, VS5, VS6, VT1, VT2, finM_ret, finM_nrm, decide_true, decide_false, List.nodup_nil, List.nodup_cons, oks_p, oks_m, oks_h, ne_eq, not_false_eq_true, Int.reduceEq, Int.reduceNe, true_and, Nat.reduceSub, Nat.reduceMul, ↓reduceIte, reduceCtorEq, Nat.reduceEqDiff, Nat.reduceAdd, Nat.reduceLeDiff, Int.reduceLE, cZ6, cZ12]
        all_goals simp [qL, qJ, qJ0, qS, qX, qR, qM, Shp, sub, tupd, VS1, VS2, VS3, VS4, VS5, VS6, VT1, VT2, V40]
      · replace h := cond_f cZ12 h
        cases h
        try simp only [VS1, VS2, VS3, VS4, VS5, VS6, VT1, VT2, finM_ret, finM_nrm, decide_true, decide_false, List.nodup_nil, List.nodup_cons, oks_p, oks_m, oks_h, ne_eq, not_false_eq_true, Int.reduceEq, Int.reduceNe, true_and, Nat.reduceSub, Nat.reduceMul, ↓reduceIte, reduceCtorEq, Nat.reduceEqDiff, Nat.reduceAdd, Nat.reduceLeDiff, Int.reduceLE, cZ6, cZ12]
        all_goals simp [qL, qJ, qJ0, qS, qX, qR, qM, Shp, sub, tupd, VS1, VS2, VS3, VS4, VS5, VS6, VT1, VT2, S_spec_l2GoodL1, SX_spec_l2GoodL1]
  · replace h := cond_f cZ6 h
    cases h
    try simp only [VS1, VS2, VS3, VS4, VS5, VS6, VT1, VT2, finM_ret, finM_nrm, decide_true, decide_false, List.nodup_nil, List.nodup_cons, oks_p, oks_m, oks_h, ne_eq, not_false_eq_true, Int.reduceEq, Int.reduceNe, true_and, Nat.reduceSub, Nat.reduceMul, ↓reduceIte, reduceCtorEq, Nat.reduceEqDiff, Nat.reduceAdd, Nat.reduceLeDiff, Int.reduceLE, cZ6]
    all_goals simp [qL, qJ, qJ0, qS, qX, qR, qM, Shp, sub, tupd, VS1, VS2, VS3, VS4, VS5, VS6, VT1, VT2, S_spec_l2GoodL1, SX_spec_l2GoodL1]
def S_spec_l2GoodL2 (nZ0 : TNetwork) (v : Int) : St := ⟨[(1, .pt 1 0 0), (4, .i v)], [(1, .var (.agg [.lst .o 1 (nZ0.Nodes.map AV.z), .lst .o 4 (nZ0.Fibers.map (e_TFiber .o))]))]⟩
def SX_spec_l2GoodL2 (v : Unit) : St := ⟨[], []⟩
theorem w_spec_l2GoodL2 (nZ0 : TNetwork) (sZ16 : Int) (o : Int ⊕ (Unit ⊕ Bool)) (h : M_spec_l2GoodL2 nZ0 sZ16 = some o) : AWP (OkS Try.prog) A40L6 (qL [1, 4] [1] (S_spec_l2GoodL2 nZ0) (qS (qX 2 [] [] (SX_spec_l2GoodL2)) (qR V40 (fun r => .b r))) o) (S_spec_l2GoodL2 nZ0 sZ16) := by
  unfold M_spec_l2GoodL2 at h
  simp only [S_spec_l2GoodL2, A40L6]
  refine Or.elim (bt (decide (sZ16 < (nZ0.Fibers.length : Int)))) (fun cZ17 => ?_) (fun cZ17 => ?_)
  · replace h := cond_t cZ17 h
    obtain ⟨oZ24, hoZ24, h⟩ := bind_s h
    try simp only [VS1, VS2, VS3, VS4, VS5, VS6, VT1, VT2, finM_ret, finM_nrm, decide_true, decide_false, List.nodup_nil, List.nodup_cons, oks_p, oks_m, oks_h, ne_eq, not_false_eq_true, Int.reduceEq, Int.reduceNe, true_and, Nat.reduceSub, Nat.reduceMul, ↓reduceIte, reduceCtorEq, Nat.reduceEqDiff, Nat.reduceAdd, Nat.reduceLeDiff, Int.reduceLE, cZ17]
    refine join_rule0 (sh := (fun v => ⟨[(1, .pt 1 0 0), (4, .i sZ16), (77, .b v)], [(1, .var (.agg [.lst .o 1 (nZ0.Nodes.map AV.z), .lst .o 4 (nZ0.Fibers.map (e_TFiber .o))]))]⟩)) (s := oZ24) ?_ ?_
    · replace h := hoZ24
      obtain ⟨yZ18, hyZ18, h⟩ := bind_s h
      obtain ⟨hyZ18a, hyZ18b⟩ := geti_s hyZ18
      obtain ⟨rZ19, hrZ19, h⟩ := bind_s h
      simp only [VS1, VS2, VS3, VS4, VS5, VS6, VT1, VT2, finM_ret, finM_nrm, decide_true, decide_false, List.nodup_nil, List.nodup_cons, oks_p, oks_m, oks_h, ne_eq, not_false_eq_true, Int.reduceEq, Int.reduceNe, true_and, Nat.reduceSub, Nat.reduceMul, ↓reduceIte, reduceCtorEq, Nat.reduceEqDiff, Nat.reduceAdd, Nat.reduceLeDiff, Int.reduceLE, cZ17, hyZ18a, hyZ18b]
      refine call_s (by simp only [VS1, VS2, VS3, VS4, VS5, VS6, VT1, VT2, finM_ret, finM_nrm, decide_true, decide_false, List.nodup_nil, List.nodup_cons, oks_p, oks_m, oks_h, ne_eq, not_false_eq_true, Int.reduceEq, Int.reduceNe, true_and, Nat.reduceSub, Nat.reduceMul, ↓reduceIte, reduceCtorEq, Nat.reduceEqDiff, Nat.reduceAdd, Nat.reduceLeDiff, Int.reduceLE, cZ17, hyZ18a, hyZ18b]; exact w_spec_l2Fiber _ _ hrZ19 ) ?_
      simp only [VA, VF1, ↓reduceIte, Nat.reduceEqDiff, Nat.reduceAdd, Nat.reduceMul, Nat.reduceSub, Nat.reduceLeDiff]
      refine Or.elim (bt (!rZ19)) (fun cZ20 => ?_) (fun cZ20 => ?_)
      · replace h := cond_t cZ20 h
        cases h
        try simp only [VS1, VS2, VS3, VS4, VS5, VS6, VT1, VT2, finM_ret, finM_nrm, decide_true, decide_false, List.nodup_nil, List.nodup_cons, oks_p, oks_m, oks_h, ne_eq, not_false_eq_true, Int.reduceEq, Int.reduceNe, true_and, Nat.reduceSub, Nat.reduceMul, ↓reduceIte, reduceCtorEq, Nat.reduceEqDiff, Nat.reduceAdd, Nat.reduceLeDiff, Int.reduceLE, cZ17, hyZ18a, hyZ18b, cZ20]
        all_goals simp [qL, qJ, qJ0, qS, qX, qR, qM, Shp, sub, tupd, VS1, VS2, VS3, VS4, VS5, VS6, VT1, VT2]
      · replace h := cond_f cZ20 h
        refine Or.elim (bt (decide (0 < sZ16))) (fun cZ21 => ?_) (fun cZ21 => ?_)
        · replace h := cond_t cZ21 h
          obtain ⟨yZ22, hyZ22, h⟩ := bind_s h
          obtain ⟨hyZ22a, hyZ22b⟩ := geti_s hyZ22
          obtain ⟨rZ23, hrZ23, h⟩ := bind_s h
          simp only [VS1, VS2, VS3, VS4, VS5, VS6, VT1, VT2, finM_ret, finM_nrm, decide_true, decide_false, List.nodup_nil, List.nodup_cons, oks_p, oks_m, oks_h, ne_eq, not_false_eq_true, Int.reduceEq, Int.reduceNe, true_and, Nat.reduceSub, Nat.reduceMul, ↓reduceIte, reduceCtorEq, Nat.reduceEqDiff, Nat.reduceAdd, Nat.reduceLeDiff, Int.reduceLE, cZ17, hyZ18a, hyZ18b, cZ20, cZ21, hyZ22a, hyZ22b]
          refine call_s (by simp only [VS1, VS2, VS3, VS4, VS5, VS6, VT1, VT2, finM_ret, finM_nrm, decide_true, decide_false, List.nodup_nil, List.nodup_cons, oks_p, oks_m, oks_h, ne_eq, not_false_eq_true, Int.reduceEq, Int.reduceNe, true_and, Nat.reduceSub, Nat.reduceMul, ↓reduceIte, reduceCtorEq, Nat.reduceEqDiff, Nat.reduceAdd, Nat.reduceLeDiff, Int.reduceLE, cZ17, hyZ18a, hyZ18b, cZ20, cZ21, hyZ22a, hyZ22b]; exact w_spec_l2Before _ _ hrZ23 ) ?_
          simp only [VA, VF1, ↓reduceIte, Nat.reduceEqDiff, Nat.reduceAdd, Nat.reduceMul, Nat.reduceSub, Nat.reduceLeDiff]
          cases h
          try simp only [VS1, VS2, VS3, VS4, VS5, VS6, VT1, VT2, finM_ret, finM_nrm, decide_true, decide_false, List.nodup_nil, List.nodup_cons, oks_p, oks_m, oks_h, ne_eq, not_false_eq_true, Int.reduceEq, Int.reduceNe, true_and, Nat.reduceSub, Nat.reduceMul, ↓reduceIte, reduceCtorEq, Nat.reduceEqDiff, Nat.reduceAdd, Nat.reduceLeDiff, Int.reduceLE, cZ17, hyZ18a, hyZ18b, cZ20, cZ21, hyZ22a, hyZ22b]
          all_goals simp [qL, qJ, qJ0, qS, qX, qR, qM, Shp, sub, tupd, VS1, VS2, VS3, VS4, VS5, VS6, VT1, VT2]
        · replace h := cond_f cZ21 h
          cases h
          try simp only [VS1, VS2, VS3, VS4, VS5, VS6, VT1, VT2, finM_ret, finM_nrm, decide_true, decide_false, List.nodup_nil, List.nodup_cons, oks_p, oks_m, oks_h, ne_eq, not_false_eq_true, Int.reduceEq, Int.reduceNe, true_and, Nat.reduceSub, Nat.reduceMul, ↓reduceIte, reduceCtorEq, Nat.reduceEqDiff, Nat.reduceAdd, Nat.reduceLeDiff, Int.reduceLE, cZ17, hyZ18a, hyZ18b, cZ20, cZ21]
          all_goals simp [qL, qJ, qJ0, qS, qX, qR, qM, Shp, sub, tupd, VS1, VS2, VS3, VS4, VS5, VS6, VT1, VT2]
    · simp only [A40R5]
      refine Or.elim (bt (oZ24)) (fun cZ25 => ?_) (fun cZ25 => ?_)
      · replace h := cond_t cZ25 h
        cases h
        try simp only [VS1, VS2, VS3, VS4, VS5, VS6, VT1, VT2, finM_ret, finM_nrm, decide_true, decide_false, List.nodup_nil, List.nodup_cons, oks_p, oks_m, oks_h, ne_eq, not_false_eq_true, Int.reduceEq, Int.reduceNe, true_and, Nat.reduceSub, Nat.reduceMul, ↓reduceIte, reduceCtorEq, Nat.reduceEqDiff, Nat.reduceAdd, Nat.reduceLeDiff, Int.reduceLE, cZ17, cZ25]
        all_goals simp [qL, qJ, qJ0, qS, qX, qR, qM, Shp, sub, tupd, VS1, VS2, VS3, VS4, VS5, VS6, VT1, VT2, V40]
      · replace h := cond_f cZ25 h
        cases h
        try simp only [VS1, VS2, VS3, VS4, VS5, VS6, VT1, VT2, finM_ret, finM_nrm, decide_true, decide_false, List.nodup_nil, List.nodup_cons, oks_p, oks_m, oks_h, ne_eq, not_false_eq_true, Int.reduceEq, Int.reduceNe, true_and, Nat.reduceSub, Nat.reduceMul, ↓reduceIte, reduceCtorEq, Nat.reduceEqDiff, Nat.reduceAdd, Nat.reduceLeDiff, Int.reduceLE, cZ17, cZ25]
        all_goals simp [qL, qJ, qJ0, qS, qX, qR, qM, Shp, sub, tupd, VS1, VS2, VS3, VS4, VS5, VS6, VT1, VT2, S_spec_l2GoodL2, SX_spec_l2GoodL2]
  · replace h := cond_f cZ17 h
    cases h
    try simp only [VS1, VS2, VS3, VS4, VS5, VS6, VT1, VT2, finM_ret, finM_nrm, decide_true, decide_false, List.nodup_nil, List.nodup_cons, oks_p, oks_m, oks_h, ne_eq, not_false_eq_true, Int.reduceEq, Int.reduceNe, true_and, Nat.reduceSub, Nat.reduceMul, ↓reduceIte, reduceCtorEq, Nat.reduceEqDiff, Nat.reduceAdd, Nat.reduceLeDiff, Int.reduceLE, cZ17]
    all_goals simp [qL, qJ, qJ0, qS, qX, qR, qM, Shp, sub, tupd, VS1, VS2, VS3, VS4, VS5, VS6, VT1, VT2, S_spec_l2GoodL2, SX_spec_l2GoodL2]
theorem w_spec_l2Good (nZ0 : TNetwork) {r : Bool} (h : M_spec_l2Good nZ0 = some r) : Ok Try.prog 40 [.agg [.lst .o 1 (nZ0.Nodes.map AV.z), .lst .o 4 (nZ0.Fibers.map (e_TFiber .o))]] ((fun r => .b r) r) := by
  refine ok_of_body hmix m40 rfl ?_
  unfold M_spec_l2Good at h
  simp only [A40, V40, body_eq]
  obtain ⟨oZ3, hoZ3, h⟩ := bind_s h
  try simp only [VS1, VS2, VS3, VS4, VS5, VS6, VT1, VT2, finM_ret, finM_nrm, decide_true, decide_false, List.nodup_nil, List.nodup_cons, oks_p, oks_m, oks_h, ne_eq, not_false_eq_true, Int.reduceEq, Int.reduceNe, true_and, Nat.reduceSub, Nat.reduceMul, ↓reduceIte, reduceCtorEq, Nat.reduceEqDiff, Nat.reduceAdd, Nat.reduceLeDiff, Int.reduceLE]
  refine join_rule0 (sh := (fun v => ⟨[(1, .pt 1 0 0), (15, .b v)], [(1, .var (.agg [.lst .o 1 (nZ0.Nodes.map AV.z), .lst .o 4 (nZ0.Fibers.map (e_TFiber .o))]))]⟩)) (s := oZ3) ?_ ?_
  · replace h := hoZ3
    obtain ⟨rZ1, hrZ1, h⟩ := bind_s h
    simp only [VS1, VS2, VS3, VS4, VS5, VS6, VT1, VT2, finM_ret, finM_nrm, decide_true, decide_false, List.nodup_nil, List.nodup_cons, oks_p, oks_m, oks_h, ne_eq, not_false_eq_true, Int.reduceEq, Int.reduceNe, true_and, Nat.reduceSub, Nat.reduceMul, ↓reduceIte, reduceCtorEq, Nat.reduceEqDiff, Nat.reduceAdd, Nat.reduceLeDiff, Int.reduceLE]
    refine call_s (by simp only [VS1, VS2, VS3, VS4, VS5, VS6, VT1, VT2, finM_ret, finM_nrm, decide_true, decide_false, List.nodup_nil, List.nodup_cons, oks_p, oks_m, oks_h, ne_eq, not_false_eq_true, Int.reduceEq, Int.reduceNe, true_and, Nat.reduceSub, Nat.reduceMul, ↓reduceIte, reduceCtorEq, Nat.reduceEqDiff, Nat.reduceAdd, Nat.reduceLeDiff, Int.reduceLE]; exact w_spec_l1In _ _ _ hrZ1 ) ?_
    simp only [VA, VF1, ↓reduceIte, Nat.reduceEqDiff, Nat.reduceAdd, Nat.reduceMul, Nat.reduceSub, Nat.reduceLeDiff]
    refine Or.elim (bt (!rZ1)) (fun cZ2 => ?_) (fun cZ2 => ?_)
    · replace h := cond_t cZ2 h
      cases h
      try simp only [VS1, VS2, VS3, VS4, VS5, VS6, VT1, VT2, finM_ret, finM_nrm, decide_true, decide_false, List.nodup_nil, List.nodup_cons, oks_p, oks_m, oks_h, ne_eq, not_false_eq_true, Int.reduceEq, Int.reduceNe, true_and, Nat.reduceSub, Nat.reduceMul, ↓reduceIte, reduceCtorEq, Nat.reduceEqDiff, Nat.reduceAdd, Nat.reduceLeDiff, Int.reduceLE, cZ2]
      all_goals simp [qL, qJ, qJ0, qS, qX, qR, qM, Shp, sub, tupd, VS1, VS2, VS3, VS4, VS5, VS6, VT1, VT2]
    · replace h := cond_f cZ2 h
      cases h
      try simp only [VS1, VS2, VS3, VS4, VS5, VS6, VT1, VT2, finM_ret, finM_nrm, decide_true, decide_false, List.nodup_nil, List.nodup_cons, oks_p, oks_m, oks_h, ne_eq, not_false_eq_true, Int.reduceEq, Int.reduceNe, true_and, Nat.reduceSub, Nat.reduceMul, ↓reduceIte, reduceCtorEq, Nat.reduceEqDiff, Nat.reduceAdd, Nat.reduceLeDiff, Int.reduceLE, cZ2]
      all_goals simp [qL, qJ, qJ0, qS, qX, qR, qM, Shp, sub, tupd, VS1, VS2, VS3, VS4, VS5, VS6, VT1, VT2]
  · simp only [A40R1]
    refine Or.elim (bt (oZ3)) (fun cZ4 => ?_) (fun cZ4 => ?_)
    · replace h := cond_t cZ4 h
      cases h
      try simp only [VS1, VS2, VS3, VS4, VS5, VS6, VT1, VT2, finM_ret, finM_nrm, decide_true, decide_false, List.nodup_nil, List.nodup_cons, oks_p, oks_m, oks_h, ne_eq, not_false_eq_true, Int.reduceEq, Int.reduceNe, true_and, Nat.reduceSub, Nat.reduceMul, ↓reduceIte, reduceCtorEq, Nat.reduceEqDiff, Nat.reduceAdd, Nat.reduceLeDiff, Int.reduceLE, cZ4]
      all_goals simp [qL, qJ, qJ0, qS, qX, qR, qM, Shp, sub, tupd, VS1, VS2, VS3, VS4, VS5, VS6, VT1, VT2, V40]
    · replace h := cond_f cZ4 h
      obtain ⟨oZ13, hoZ13, h⟩ := bind_s h
      try simp only [VS1, VS2, VS3, VS4, VS5, VS6, VT1, VT2, finM_ret, finM_nrm, decide_true, decide_false, List.nodup_nil, List.nodup_cons, oks_p, oks_m, oks_h, ne_eq, not_false_eq_true, Int.reduceEq, Int.reduceNe, true_and, Nat.reduceSub, Nat.reduceMul, ↓reduceIte, reduceCtorEq, Nat.reduceEqDiff, Nat.reduceAdd, Nat.reduceLeDiff, Int.reduceLE, cZ4]
      refine join_rule (o := oZ13) (blk_rule sideR (loop_rule (w_spec_l2GoodL1 nZ0) hoZ13 ?_)) (fun vZ14 hv => ?_) (fun xZ15 hv e τ hne hq => ?_)
      · all_goals simp [qL, qJ, qJ0, qS, qX, qR, qM, Shp, sub, tupd, VS1, VS2, VS3, VS4, VS5, VS6, VT1, VT2, S_spec_l2GoodL1, SX_spec_l2GoodL1]
      · subst hv
        simp only [] at h
        simp only [SX_spec_l2GoodL1, A40R4]
        obtain ⟨oZ26, hoZ26, h⟩ := bind_s h
        try simp only [VS1, VS2, VS3, VS4, VS5, VS6, VT1, VT2, finM_ret, finM_nrm, decide_true, decide_false, List.nodup_nil, List.nodup_cons, oks_p, oks_m, oks_h, ne_eq, not_false_eq_true, Int.reduceEq, Int.reduceNe, true_and, Nat.reduceSub, Nat.reduceMul, ↓reduceIte, reduceCtorEq, Nat.reduceEqDiff, Nat.reduceAdd, Nat.reduceLeDiff, Int.reduceLE, cZ4]
        refine join_rule (o := oZ26) (blk_rule sideR (loop_rule (w_spec_l2GoodL2 nZ0) hoZ26 ?_)) (fun vZ27 hv => ?_) (fun xZ28 hv e τ hne hq => ?_)
        · all_goals simp [qL, qJ, qJ0, qS, qX, qR, qM, Shp, sub, tupd, VS1, VS2, VS3, VS4, VS5, VS6, VT1, VT2, S_spec_l2GoodL2, SX_spec_l2GoodL2]
        · subst hv
          simp only [] at h
          simp only [SX_spec_l2GoodL2, A40R7]
          cases h
          try simp only [VS1, VS2, VS3, VS4, VS5, VS6, VT1, VT2, finM_ret, finM_nrm, decide_true, decide_false, List.nodup_nil, List.nodup_cons, oks_p, oks_m, oks_h, ne_eq, not_false_eq_true, Int.reduceEq, Int.reduceNe, true_and, Nat.reduceSub, Nat.reduceMul, ↓reduceIte, reduceCtorEq, Nat.reduceEqDiff, Nat.reduceAdd, Nat.reduceLeDiff, Int.reduceLE, cZ4]
          all_goals simp [qL, qJ, qJ0, qS, qX, qR, qM, Shp, sub, tupd, VS1, VS2, VS3, VS4, VS5, VS6, VT1, VT2, V40]
        · subst hv
          simp only [] at h
          obtain ⟨rfl, qZ29⟩ := hq
          cases h
          exact qZ29
      · subst hv
        simp only [] at h
        obtain ⟨rfl, qZ30⟩ := hq
        cases h
        exact qZ30
def S_spec_l1HasL1 (lZ0 : List Int) (nZ0 : Int) (v : Int) : St := ⟨[(0, .lst .o 1 (lZ0.map AV.i)), (1, .i nZ0), (5, .i v)], []⟩
def SX_spec_l1HasL1 (v : Unit) : St := ⟨[], []⟩
theorem w_spec_l1HasL1 (lZ0 : List Int) (nZ0 : Int) (sZ1 : Int) (o : Int ⊕ (Unit ⊕ Bool)) (h : M_spec_l1HasL1 lZ0 nZ0 sZ1 = some o) : AWP (OkS Try.prog) A60L1 (qL [0, 1, 5] [] (S_spec_l1HasL1 lZ0 nZ0) (qS (qX 0 [] [] (SX_spec_l1HasL1)) (qR V60 (fun r => .b r))) o) (S_spec_l1HasL1 lZ0 nZ0 sZ1) := by
  unfold M_spec_l1HasL1 at h
  simp only [S_spec_l1HasL1, A60L1]
  refine Or.elim (bt (decide (sZ1 < (lZ0.length : Int)))) (fun cZ2 => ?_) (fun cZ2 => ?_)
  · replace h := cond_t cZ2 h
    obtain ⟨yZ3, hyZ3, h⟩ := bind_s h
    obtain ⟨hyZ3a, hyZ3b⟩ := geti_s hyZ3
    refine Or.elim (bt (yZ3 == nZ0)) (fun cZ4 => ?_) (fun cZ4 => ?_)
    · replace h := cond_t cZ4 h
      cases h
      try simp only [VS1, VS2, VS3, VS4, VS5, VS6, VT1, VT2, finM_ret, finM_nrm, decide_true, decide_false, List.nodup_nil, List.nodup_cons, oks_p, oks_m, oks_h, ne_eq, not_false_eq_true, Int.reduceEq, Int.reduceNe, true_and, Nat.reduceSub, Nat.reduceMul, ↓reduceIte, reduceCtorEq, Nat.reduceEqDiff, Nat.reduceAdd, Nat.reduceLeDiff, Int.reduceLE, cZ2, hyZ3a, hyZ3b, cZ4]
      all_goals simp [qL, qJ, qJ0, qS, qX, qR, qM, Shp, sub, tupd, VS1, VS2, VS3, VS4, VS5, VS6, VT1, VT2, V60]
    · replace h := cond_f cZ4 h
      cases h
      try simp only [VS1, VS2, VS3, VS4, VS5, VS6, VT1, VT2, finM_ret, finM_nrm, decide_true, decide_false, List.nodup_nil, List.nodup_cons, oks_p, oks_m, oks_h, ne_eq, not_false_eq_true, Int.reduceEq, Int.reduceNe, true_and, Nat.reduceSub, Nat.reduceMul, ↓reduceIte, reduceCtorEq, Nat.reduceEqDiff, Nat.reduceAdd, Nat.reduceLeDiff, Int.reduceLE, cZ2, hyZ3a, hyZ3b, cZ4]
      all_goals simp [qL, qJ, qJ0, qS, qX, qR, qM, Shp, sub, tupd, VS1, VS2, VS3, VS4, VS5, VS6, VT1, VT2, S_spec_l1HasL1, SX_spec_l1HasL1]
  · replace h := cond_f cZ2 h
    cases h
    try simp only [VS1, VS2, VS3, VS4, VS5, VS6, VT1, VT2, finM_ret, finM_nrm, decide_true, decide_false, List.nodup_nil, List.nodup_cons, oks_p, oks_m, oks_h, ne_eq, not_false_eq_true, Int.reduceEq, Int.reduceNe, true_and, Nat.reduceSub, Nat.reduceMul, ↓reduceIte, reduceCtorEq, Nat.reduceEqDiff, Nat.reduceAdd, Nat.reduceLeDiff, Int.reduceLE, cZ2]
    all_goals simp [qL, qJ, qJ0, qS, qX, qR, qM, Shp, sub, tupd, VS1, VS2, VS3, VS4, VS5, VS6, VT1, VT2, S_spec_l1HasL1, SX_spec_l1HasL1]
theorem w_spec_l1Has (lZ0 : List Int) (nZ0 : Int) {r : Bool} (h : M_spec_l1Has lZ0 nZ0 = some r) : Ok Try.prog 60 [.lst .o 1 (lZ0.map AV.i), .i nZ0] ((fun r => .b r) r) := by
  refine ok_of_body hmix m60 rfl ?_
  unfold M_spec_l1Has at h
  simp only [A60, V60, body_eq]
  obtain ⟨oZ5, hoZ5, h⟩ := bind_s h
  try simp only [VS1, VS2, VS3, VS4, VS5, VS6, VT1, VT2, finM_ret, finM_nrm, decide_true, decide_false, List.nodup_nil, List.nodup_cons, oks_p, oks_m, oks_h, ne_eq, not_false_eq_true, Int.reduceEq, Int.reduceNe, true_and, Nat.reduceSub, Nat.reduceMul, ↓reduceIte, reduceCtorEq, Nat.reduceEqDiff, Nat.reduceAdd, Nat.reduceLeDiff, Int.reduceLE]
  refine join_rule (o := oZ5) (blk_rule sideR (loop_rule (w_spec_l1HasL1 lZ0 nZ0) hoZ5 ?_)) (fun vZ6 hv => ?_) (fun xZ7 hv e τ hne hq => ?_)
  · all_goals simp [qL, qJ, qJ0, qS, qX, qR, qM, Shp, sub, tupd, VS1, VS2, VS3, VS4, VS5, VS6, VT1, VT2, S_spec_l1HasL1, SX_spec_l1HasL1]
  · subst hv
    simp only [] at h
    simp only [SX_spec_l1HasL1, A60R2]
    cases h
    try simp only [VS1, VS2, VS3, VS4, VS5, VS6, VT1, VT2, finM_ret, finM_nrm, decide_true, decide_false, List.nodup_nil, List.nodup_cons, oks_p, oks_m, oks_h, ne_eq, not_false_eq_true, Int.reduceEq, Int.reduceNe, true_and, Nat.reduceSub, Nat.reduceMul, ↓reduceIte, reduceCtorEq, Nat.reduceEqDiff, Nat.reduceAdd, Nat.reduceLeDiff, Int.reduceLE]
    all_goals simp [qL, qJ, qJ0, qS, qX, qR, qM, Shp, sub, tupd, VS1, VS2, VS3, VS4, VS5, VS6, VT1, VT2, V60]
  · subst hv
    simp only [] at h
    obtain ⟨rfl, qZ8⟩ := hq
    cases h
    exact qZ8
theorem w_spec_l2Other (nZ0 : TNetwork) (fiberZ0 : Int) (nodeZ0 : Int) {r : Int} (h : M_spec_l2Other nZ0 fiberZ0 nodeZ0 = some r) : Ok Try.prog 99 [.agg [.lst .o 1 (nZ0.Nodes.map AV.z), .lst .o 4 (nZ0.Fibers.map (e_TFiber .o))], .i fiberZ0, .i nodeZ0] ((fun r => .i r) r) := by
  refine ok_of_body hmix m99 rfl ?_
  unfold M_spec_l2Other at h
  simp only [A99, V99, body_eq]
  obtain ⟨yZ1, hyZ1, h⟩ := bind_s h
  obtain ⟨hyZ1a, hyZ1b⟩ := geti_s hyZ1
  refine Or.elim (bt (nodeZ0 == yZ1.A)) (fun cZ2 => ?_) (fun cZ2 => ?_)
  · replace h := cond_t cZ2 h
    cases h
    try simp only [VS1, VS2, VS3, VS4, VS5, VS6, VT1, VT2, finM_ret, finM_nrm, decide_true, decide_false, List.nodup_nil, List.nodup_cons, oks_p, oks_m, oks_h, ne_eq, not_false_eq_true, Int.reduceEq, Int.reduceNe, true_and, Nat.reduceSub, Nat.reduceMul, ↓reduceIte, reduceCtorEq, Nat.reduceEqDiff, Nat.reduceAdd, Nat.reduceLeDiff, Int.reduceLE, hyZ1a, hyZ1b, cZ2]
    all_goals simp [qL, qJ, qJ0, qS, qX, qR, qM, Shp, sub, tupd, VS1, VS2, VS3, VS4, VS5, VS6, VT1, VT2, V99]
  · replace h := cond_f cZ2 h
    refine Or.elim (bt (nodeZ0 == yZ1.B)) (fun cZ3 => ?_) (fun cZ3 => ?_)
    · replace h := cond_t cZ3 h
      cases h
      try simp only [VS1, VS2, VS3, VS4, VS5, VS6, VT1, VT2, finM_ret, finM_nrm, decide_true, decide_false, List.nodup_nil, List.nodup_cons, oks_p, oks_m, oks_h, ne_eq, not_false_eq_true, Int.reduceEq, Int.reduceNe, true_and, Nat.reduceSub, Nat.reduceMul, ↓reduceIte, reduceCtorEq, Nat.reduceEqDiff, Nat.reduceAdd, Nat.reduceLeDiff, Int.reduceLE, hyZ1a, hyZ1b, cZ2, cZ3]
      all_goals simp [qL, qJ, qJ0, qS, qX, qR, qM, Shp, sub, tupd, VS1, VS2, VS3, VS4, VS5, VS6, VT1, VT2, V99]
    · replace h := cond_f cZ3 h
      cases h
      try simp only [VS1, VS2, VS3, VS4, VS5, VS6, VT1, VT2, finM_ret, finM_nrm, decide_true, decide_false, List.nodup_nil, List.nodup_cons, oks_p, oks_m, oks_h, ne_eq, not_false_eq_true, Int.reduceEq, Int.reduceNe, true_and, Nat.reduceSub, Nat.reduceMul, ↓reduceIte, reduceCtorEq, Nat.reduceEqDiff, Nat.reduceAdd, Nat.reduceLeDiff, Int.reduceLE, hyZ1a, hyZ1b, cZ2, cZ3]
      all_goals simp [qL, qJ, qJ0, qS, qX, qR, qM, Shp, sub, tupd, VS1, VS2, VS3, VS4, VS5, VS6, VT1, VT2, V99]
def S_spec_l17WalkL1 (nZ0 : TNetwork) (ringZ0 : List Int) (fromZ0 : Int) (v : Int × Int × List Int) : St := ⟨[(1, .lst .o 1 (ringZ0.map AV.i)), (2, .i fromZ0), (3, .pt 3 0 0), (8, .sl 8 0 v.2.2.length), (9, .i v.1), (10, .i v.2.1)], [(3, .var (.agg [.lst .o 1 (nZ0.Nodes.map AV.z), .lst .o 4 (nZ0.Fibers.map (e_TFiber .o))])), (8, .arr 1 (v.2.2.map AV.i))]⟩
def SX_spec_l17WalkL1 (ringZ0 : List Int) (fromZ0 : Int) (v : Int × List Int) : St := ⟨[(1, .lst .o 1 (ringZ0.map AV.i)), (2, .i fromZ0), (8, .sl 8 0 v.2.length), (9, .i v.1)], [(8, .arr 1 (v.2.map AV.i))]⟩
theorem w_spec_l17WalkL1 (nZ0 : TNetwork) (ringZ0 : List Int) (fromZ0 : Int) (sZ1 : Int × Int × List Int) (o : (Int × Int × List Int) ⊕ ((Int × List Int) ⊕ (List Int × Bool))) (h : M_spec_l17WalkL1 nZ0 ringZ0 sZ1 = some o) : AWP (OkS Try.prog) A76L2 (qL [1, 2, 3, 8, 9, 10] [3, 8] (S_spec_l17WalkL1 nZ0 ringZ0 fromZ0) (qS (qX 0 [1, 2, 8, 9] [8] (SX_spec_l17WalkL1 ringZ0 fromZ0)) (qR V76 (fun r => .tup [.lst .u 1 (r.1.map AV.i), .b r.2]))) o) (S_spec_l17WalkL1 nZ0 ringZ0 fromZ0 sZ1) := by
  unfold M_spec_l17WalkL1 at h
  simp only [S_spec_l17WalkL1, A76L2]
  refine Or.elim (bt (decide (sZ1.2.1 < (ringZ0.length : Int)))) (fun cZ2 => ?_) (fun cZ2 => ?_)
  · replace h := cond_t cZ2 h
    obtain ⟨oZ10, hoZ10, h⟩ := bind_s h
    try simp only [VS1, VS2, VS3, VS4, VS5, VS6, VT1, VT2, finM_ret, finM_nrm, decide_true, decide_false, List.nodup_nil, List.nodup_cons, oks_p, oks_m, oks_h, ne_eq, not_false_eq_true, Int.reduceEq, Int.reduceNe, true_and, Nat.reduceSub, Nat.reduceMul, ↓reduceIte, reduceCtorEq, Nat.reduceEqDiff, Nat.reduceAdd, Nat.reduceLeDiff, Int.reduceLE, cZ2]
    refine join_rule0 (sh := (fun v => ⟨[(1, .lst .o 1 (ringZ0.map AV.i)), (2, .i fromZ0), (3, .pt 3 0 0), (8, .sl 8 0 sZ1.2.2.length), (9, .i sZ1.1), (10, .i sZ1.2.1), (43, .b v)], [(3, .var (.agg [.lst .o 1 (nZ0.Nodes.map AV.z), .lst .o 4 (nZ0.Fibers.map (e_TFiber .o))])), (8, .arr 1 (sZ1.2.2.map AV.i))]⟩)) (s := oZ10) ?_ ?_
    · replace h := hoZ10
      obtain ⟨yZ3, hyZ3, h⟩ := bind_s h
      obtain ⟨hyZ3a, hyZ3b⟩ := geti_s hyZ3
      obtain ⟨rZ4, hrZ4, h⟩ := bind_s h
      simp only [VS1, VS2, VS3, VS4, VS5, VS6, VT1, VT2, finM_ret, finM_nrm, decide_true, decide_false, List.nodup_nil, List.nodup_cons, oks_p, oks_m, oks_h, ne_eq, not_false_eq_true, Int.reduceEq, Int.reduceNe, true_and, Nat.reduceSub, Nat.reduceMul, ↓reduceIte, reduceCtorEq, Nat.reduceEqDiff, Nat.reduceAdd, Nat.reduceLeDiff, Int.reduceLE, cZ2, hyZ3a, hyZ3b]
      refine call_s (by simp only [VS1, VS2, VS3, VS4, VS5, VS6, VT1, VT2, finM_ret, finM_nrm, decide_true, decide_false, List.nodup_nil, List.nodup_cons, oks_p, oks_m, oks_h, ne_eq, not_false_eq_true, Int.reduceEq, Int.reduceNe, true_and, Nat.reduceSub, Nat.reduceMul, ↓reduceIte, reduceCtorEq, Nat.reduceEqDiff, Nat.reduceAdd, Nat.reduceLeDiff, Int.reduceLE, cZ2, hyZ3a, hyZ3b]; exact w_spec_l1In _ _ _ hrZ4 ) ?_
      simp only [VA, VF1, ↓reduceIte, Nat.reduceEqDiff, Nat.reduceAdd, Nat.reduceMul, Nat.reduceSub, Nat.reduceLeDiff]
      refine Or.elim (bt (!rZ4)) (fun cZ5 => ?_) (fun cZ5 => ?_)
      · replace h := cond_t cZ5 h
        cases h
        try simp only [VS1, VS2, VS3, VS4, VS5, VS6, VT1, VT2, finM_ret, finM_nrm, decide_true, decide_false, List.nodup_nil, List.nodup_cons, oks_p, oks_m, oks_h, ne_eq, not_false_eq_true, Int.reduceEq, Int.reduceNe, true_and, Nat.reduceSub, Nat.reduceMul, ↓reduceIte, reduceCtorEq, Nat.reduceEqDiff, Nat.reduceAdd, Nat.reduceLeDiff, Int.reduceLE, cZ2, hyZ3a, hyZ3b, cZ5]
        all_goals simp [qL, qJ, qJ0, qS, qX, qR, qM, Shp, sub, tupd, VS1, VS2, VS3, VS4, VS5, VS6, VT1, VT2]
      · replace h := cond_f cZ5 h
        obtain ⟨lZ6, hlZ6, h⟩ := bind_s h
        obtain ⟨hlZ6a, hlZ6b, hlZ6c, hlZ6d, hlZ6e⟩ := slT_s AV.i hlZ6
        obtain ⟨rZ7, hrZ7, h⟩ := bind_s h
        simp only [VS1, VS2, VS3, VS4, VS5, VS6, VT1, VT2, finM_ret, finM_nrm, decide_true, decide_false, List.nodup_nil, List.nodup_cons, oks_p, oks_m, oks_h, ne_eq, not_false_eq_true, Int.reduceEq, Int.reduceNe, true_and, Nat.reduceSub, Nat.reduceMul, ↓reduceIte, reduceCtorEq, Nat.reduceEqDiff, Nat.reduceAdd, Nat.reduceLeDiff, Int.reduceLE, cZ2, hyZ3a, hyZ3b, cZ5, hlZ6a, hlZ6b, hlZ6c, hlZ6d, hlZ6e]
        refine call_s (by simp only [VS1, VS2, VS3, VS4, VS5, VS6, VT1, VT2, finM_ret, finM_nrm, decide_true, decide_false, List.nodup_nil, List.nodup_cons, oks_p, oks_m, oks_h, ne_eq, not_false_eq_true, Int.reduceEq, Int.reduceNe, true_and, Nat.reduceSub, Nat.reduceMul, ↓reduceIte, reduceCtorEq, Nat.reduceEqDiff, Nat.reduceAdd, Nat.reduceLeDiff, Int.reduceLE, cZ2, hyZ3a, hyZ3b, cZ5, hlZ6a, hlZ6b, hlZ6c, hlZ6d, hlZ6e]; exact w_spec_l1Has _ _ hrZ7 ) ?_
        simp only [VA, VF1, ↓reduceIte, Nat.reduceEqDiff, Nat.reduceAdd, Nat.reduceMul, Nat.reduceSub, Nat.reduceLeDiff]
        refine Or.elim (bt (rZ7)) (fun cZ8 => ?_) (fun cZ8 => ?_)
        · replace h := cond_t cZ8 h
          cases h
          try simp only [VS1, VS2, VS3, VS4, VS5, VS6, VT1, VT2, finM_ret, finM_nrm, decide_true, decide_false, List.nodup_nil, List.nodup_cons, oks_p, oks_m, oks_h, ne_eq, not_false_eq_true, Int.reduceEq, Int.reduceNe, true_and, Nat.reduceSub, Nat.reduceMul, ↓reduceIte, reduceCtorEq, Nat.reduceEqDiff, Nat.reduceAdd, Nat.reduceLeDiff, Int.reduceLE, cZ2, hyZ3a, hyZ3b, cZ5, hlZ6a, hlZ6b, hlZ6c, hlZ6d, hlZ6e, cZ8]
          all_goals simp [qL, qJ, qJ0, qS, qX, qR, qM, Shp, sub, tupd, VS1, VS2, VS3, VS4, VS5, VS6, VT1, VT2]
        · replace h := cond_f cZ8 h
          obtain ⟨rZ9, hrZ9, h⟩ := bind_s h
          simp only [VS1, VS2, VS3, VS4, VS5, VS6, VT1, VT2, finM_ret, finM_nrm, decide_true, decide_false, List.nodup_nil, List.nodup_cons, oks_p, oks_m, oks_h, ne_eq, not_false_eq_true, Int.reduceEq, Int.reduceNe, true_and, Nat.reduceSub, Nat.reduceMul, ↓reduceIte, reduceCtorEq, Nat.reduceEqDiff, Nat.reduceAdd, Nat.reduceLeDiff, Int.reduceLE, cZ2, hyZ3a, hyZ3b, cZ5, hlZ6a, hlZ6b, hlZ6c, hlZ6d, hlZ6e, cZ8]
          refine call_s (by simp only [VS1, VS2, VS3, VS4, VS5, VS6, VT1, VT2, finM_ret, finM_nrm, decide_true, decide_false, List.nodup_nil, List.nodup_cons, oks_p, oks_m, oks_h, ne_eq, not_false_eq_true, Int.reduceEq, Int.reduceNe, true_and, Nat.reduceSub, Nat.reduceMul, ↓reduceIte, reduceCtorEq, Nat.reduceEqDiff, Nat.reduceAdd, Nat.reduceLeDiff, Int.reduceLE, cZ2, hyZ3a, hyZ3b, cZ5, hlZ6a, hlZ6b, hlZ6c, hlZ6d, hlZ6e, cZ8]; exact w_spec_l1Has _ _ hrZ9 ) ?_
          simp only [VA, VF1, ↓reduceIte, Nat.reduceEqDiff, Nat.reduceAdd, Nat.reduceMul, Nat.reduceSub, Nat.reduceLeDiff]
          cases h
          try simp only [VS1, VS2, VS3, VS4, VS5, VS6, VT1, VT2, finM_ret, finM_nrm, decide_true, decide_false, List.nodup_nil, List.nodup_cons, oks_p, oks_m, oks_h, ne_eq, not_false_eq_true, Int.reduceEq, Int.reduceNe, true_and, Nat.reduceSub, Nat.reduceMul, ↓reduceIte, reduceCtorEq, Nat.reduceEqDiff, Nat.reduceAdd, Nat.reduceLeDiff, Int.reduceLE, cZ2, hyZ3a, hyZ3b, cZ5, hlZ6a, hlZ6b, hlZ6c, hlZ6d, hlZ6e, cZ8]
          all_goals simp [qL, qJ, qJ0, qS, qX, qR, qM, Shp, sub, tupd, VS1, VS2, VS3, VS4, VS5, VS6, VT1, VT2]
    · simp only [A76R1]
      refine Or.elim (bt (oZ10)) (fun cZ11 => ?_) (fun cZ11 => ?_)
      · replace h := cond_t cZ11 h
        cases h
        try simp only [VS1, VS2, VS3, VS4, VS5, VS6, VT1, VT2, finM_ret, finM_nrm, decide_true, decide_false, List.nodup_nil, List.nodup_cons, oks_p, oks_m, oks_h, ne_eq, not_false_eq_true, Int.reduceEq, Int.reduceNe, true_and, Nat.reduceSub, Nat.reduceMul, ↓reduceIte, reduceCtorEq, Nat.reduceEqDiff, Nat.reduceAdd, Nat.reduceLeDiff, Int.reduceLE, cZ2, cZ11]
        all_goals simp [qL, qJ, qJ0, qS, qX, qR, qM, Shp, sub, tupd, VS1, VS2, VS3, VS4, VS5, VS6, VT1, VT2, V76]
      · replace h := cond_f cZ11 h
        obtain ⟨lZ12, hlZ12, h⟩ := bnd_s h
        have eZ13 : Row.arr 1 [(.i sZ1.1 : AV)] = Row.arr 1 (lZ12.map AV.i) := by rw [← hlZ12]; rfl
        have eZ14 : lZ12.length = 1 := by rw [← hlZ12]; rfl
        obtain ⟨uZ15, huZ15, h⟩ := bind_s h
        have huZ15g := grd_s huZ15
        obtain ⟨lZ16, hlZ16, h⟩ := bnd_s h
        have eZ17 : sZ1.2.2.map AV.i ++ lZ12.map AV.i = lZ16.map AV.i := by rw [← hlZ16, List.map_append]
        have eZ18 : sZ1.2.2.length + 1 = lZ16.length := by simp [← hlZ12, ← hlZ16] <;> omega
        rw [eZ18] at huZ15g
        obtain ⟨yZ19, hyZ19, h⟩ := bind_s h
        obtain ⟨hyZ19a, hyZ19b⟩ := geti_s hyZ19
        obtain ⟨rZ20, hrZ20, h⟩ := bind_s h
        simp only [VS1, VS2, VS3, VS4, VS5, VS6, VT1, VT2, finM_ret, finM_nrm, decide_true, decide_false, List.nodup_nil, List.nodup_cons, oks_p, oks_m, oks_h, ne_eq, not_false_eq_true, Int.reduceEq, Int.reduceNe, true_and, Nat.reduceSub, Nat.reduceMul, ↓reduceIte, reduceCtorEq, Nat.reduceEqDiff, Nat.reduceAdd, Nat.reduceLeDiff, Int.reduceLE, cZ2, cZ11, eZ13, eZ14, huZ15g, eZ17, eZ18, hyZ19a, hyZ19b]
        refine call_s (by simp only [VS1, VS2, VS3, VS4, VS5, VS6, VT1, VT2, finM_ret, finM_nrm, decide_true, decide_false, List.nodup_nil, List.nodup_cons, oks_p, oks_m, oks_h, ne_eq, not_false_eq_true, Int.reduceEq, Int.reduceNe, true_and, Nat.reduceSub, Nat.reduceMul, ↓reduceIte, reduceCtorEq, Nat.reduceEqDiff, Nat.reduceAdd, Nat.reduceLeDiff, Int.reduceLE, cZ2, cZ11, eZ13, eZ14, huZ15g, eZ17, eZ18, hyZ19a, hyZ19b]; exact w_spec_l2Other _ _ _ hrZ20 ) ?_
        simp only [VA, VF1, ↓reduceIte, Nat.reduceEqDiff, Nat.reduceAdd, Nat.reduceMul, Nat.reduceSub, Nat.reduceLeDiff]
        refine Or.elim (bt (decide (rZ20 < 0))) (fun cZ21 => ?_) (fun cZ21 => ?_)
        · replace h := cond_t cZ21 h
          cases h
          try simp only [VS1, VS2, VS3, VS4, VS5, VS6, VT1, VT2, finM_ret, finM_nrm, decide_true, decide_false, List.nodup_nil, List.nodup_cons, oks_p, oks_m, oks_h, ne_eq, not_false_eq_true, Int.reduceEq, Int.reduceNe, true_and, Nat.reduceSub, Nat.reduceMul, ↓reduceIte, reduceCtorEq, Nat.reduceEqDiff, Nat.reduceAdd, Nat.reduceLeDiff, Int.reduceLE, cZ2, cZ11, eZ13, eZ14, huZ15g, eZ17, eZ18, hyZ19a, hyZ19b, cZ21]
          all_goals simp [qL, qJ, qJ0, qS, qX, qR, qM, Shp, sub, tupd, VS1, VS2, VS3, VS4, VS5, VS6, VT1, VT2, V76, ← hlZ12, ← hlZ16]
        · replace h := cond_f cZ21 h
          cases h
          try simp only [VS1, VS2, VS3, VS4, VS5, VS6, VT1, VT2, finM_ret, finM_nrm, decide_true, decide_false, List.nodup_nil, List.nodup_cons, oks_p, oks_m, oks_h, ne_eq, not_false_eq_true, Int.reduceEq, Int.reduceNe, true_and, Nat.reduceSub, Nat.reduceMul, ↓reduceIte, reduceCtorEq, Nat.reduceEqDiff, Nat.reduceAdd, Nat.reduceLeDiff, Int.reduceLE, cZ2, cZ11, eZ13, eZ14, huZ15g, eZ17, eZ18, hyZ19a, hyZ19b, cZ21]
          all_goals simp [qL, qJ, qJ0, qS, qX, qR, qM, Shp, sub, tupd, VS1, VS2, VS3, VS4, VS5, VS6, VT1, VT2, S_spec_l17WalkL1, SX_spec_l17WalkL1, ← hlZ12, ← hlZ16]
  · replace h := cond_f cZ2 h
    cases h
    try simp only [VS1, VS2, VS3, VS4, VS5, VS6, VT1, VT2, finM_ret, finM_nrm, decide_true, decide_false, List.nodup_nil, List.nodup_cons, oks_p, oks_m, oks_h, ne_eq, not_false_eq_true, Int.reduceEq, Int.reduceNe, true_and, Nat.reduceSub, Nat.reduceMul, ↓reduceIte, reduceCtorEq, Nat.reduceEqDiff, Nat.reduceAdd, Nat.reduceLeDiff, Int.reduceLE, cZ2]
    all_goals simp [qL, qJ, qJ0, qS, qX, qR, qM, Shp, sub, tupd, VS1, VS2, VS3, VS4, VS5, VS6, VT1, VT2, S_spec_l17WalkL1, SX_spec_l17WalkL1]
theorem w_spec_l17Walk (nZ0 : TNetwork) (ringZ0 : List Int) (fromZ0 : Int) {r : List Int × Bool} (h : M_spec_l17Walk nZ0 ringZ0 fromZ0 = some r) : Ok Try.prog 76 [.agg [.lst .o 1 (nZ0.Nodes.map AV.z), .lst .o 4 (nZ0.Fibers.map (e_TFiber .o))], .lst .o 1 (ringZ0.map AV.i), .i fromZ0] ((fun r => .tup [.lst .u 1 (r.1.map AV.i), .b r.2]) r) := by
  refine ok_of_body hmix m76 rfl ?_
  unfold M_spec_l17Walk at h
  simp only [A76, V76, body_eq]
  obtain ⟨oZ22, hoZ22, h⟩ := bind_s h
  try simp only [VS1, VS2, VS3, VS4, VS5, VS6, VT1, VT2, finM_ret, finM_nrm, decide_true, decide_false, List.nodup_nil, List.nodup_cons, oks_p, oks_m, oks_h, ne_eq, not_false_eq_true, Int.reduceEq, Int.reduceNe, true_and, Nat.reduceSub, Nat.reduceMul, ↓reduceIte, reduceCtorEq, Nat.reduceEqDiff, Nat.reduceAdd, Nat.reduceLeDiff, Int.reduceLE]
  refine join_rule (o := oZ22) (blk_rule sideR (loop_rule (w_spec_l17WalkL1 nZ0 ringZ0 fromZ0) hoZ22 ?_)) (fun vZ23 hv => ?_) (fun xZ24 hv e τ hne hq => ?_)
  · all_goals simp [qL, qJ, qJ0, qS, qX, qR, qM, Shp, sub, tupd, VS1, VS2, VS3, VS4, VS5, VS6, VT1, VT2, S_spec_l17WalkL1, SX_spec_l17WalkL1]
  · subst hv
    simp only [] at h
    simp only [SX_spec_l17WalkL1, A76R3]
    refine Or.elim (bt (vZ23.1 == fromZ0)) (fun cZ25 => ?_) (fun cZ25 => ?_)
    · replace h := cond_t cZ25 h
      cases h
      try simp only [VS1, VS2, VS3, VS4, VS5, VS6, VT1, VT2, finM_ret, finM_nrm, decide_true, decide_false, List.nodup_nil, List.nodup_cons, oks_p, oks_m, oks_h, ne_eq, not_false_eq_true, Int.reduceEq, Int.reduceNe, true_and, Nat.reduceSub, Nat.reduceMul, ↓reduceIte, reduceCtorEq, Nat.reduceEqDiff, Nat.reduceAdd, Nat.reduceLeDiff, Int.reduceLE, cZ25]
      all_goals simp [qL, qJ, qJ0, qS, qX, qR, qM, Shp, sub, tupd, VS1, VS2, VS3, VS4, VS5, VS6, VT1, VT2, V76]
    · replace h := cond_f cZ25 h
      cases h
      try simp only [VS1, VS2, VS3, VS4, VS5, VS6, VT1, VT2, finM_ret, finM_nrm, decide_true, decide_false, List.nodup_nil, List.nodup_cons, oks_p, oks_m, oks_h, ne_eq, not_false_eq_true, Int.reduceEq, Int.reduceNe, true_and, Nat.reduceSub, Nat.reduceMul, ↓reduceIte, reduceCtorEq, Nat.reduceEqDiff, Nat.reduceAdd, Nat.reduceLeDiff, Int.reduceLE, cZ25]
      all_goals simp [qL, qJ, qJ0, qS, qX, qR, qM, Shp, sub, tupd, VS1, VS2, VS3, VS4, VS5, VS6, VT1, VT2, V76]
  · subst hv
    simp only [] at h
    obtain ⟨rfl, qZ26⟩ := hq
    cases h
    exact qZ26
def S_spec_l17BackL1 (ringZ0 : List Int) (v : Int × List Int) : St := ⟨[(0, .lst .o 1 (ringZ0.map AV.i)), (3, .sl 3 0 v.2.length), (4, .i v.1)], [(3, .arr 1 (v.2.map AV.i))]⟩
def SX_spec_l17BackL1 (v : List Int) : St := ⟨[(3, .sl 3 0 v.length)], [(3, .arr 1 (v.map AV.i))]⟩
theorem w_spec_l17BackL1 (ringZ0 : List Int) (sZ1 : Int × List Int) (o : (Int × List Int) ⊕ (List Int)) (h : M_spec_l17BackL1 ringZ0 sZ1 = some o) : AWP (OkS Try.prog) A78L1 (qL [0, 3, 4] [3] (S_spec_l17BackL1 ringZ0) (qX 0 [3] [3] (SX_spec_l17BackL1)) o) (S_spec_l17BackL1 ringZ0 sZ1) := by
  unfold M_spec_l17BackL1 at h
  simp only [S_spec_l17BackL1, A78L1]
  refine Or.elim (bt (decide (0 ≤ sZ1.1))) (fun cZ2 => ?_) (fun cZ2 => ?_)
  · replace h := cond_t cZ2 h
    obtain ⟨yZ3, hyZ3, h⟩ := bind_s h
    obtain ⟨hyZ3a, hyZ3b⟩ := geti_s hyZ3
    obtain ⟨lZ4, hlZ4, h⟩ := bnd_s h
    have eZ5 : Row.arr 1 [(.i yZ3 : AV)] = Row.arr 1 (lZ4.map AV.i) := by rw [← hlZ4]; rfl
    have eZ6 : lZ4.length = 1 := by rw [← hlZ4]; rfl
    obtain ⟨uZ7, huZ7, h⟩ := bind_s h
    have huZ7g := grd_s huZ7
    obtain ⟨lZ8, hlZ8, h⟩ := bnd_s h
    have eZ9 : sZ1.2.map AV.i ++ lZ4.map AV.i = lZ8.map AV.i := by rw [← hlZ8, List.map_append]
    have eZ10 : sZ1.2.length + 1 = lZ8.length := by simp [← hlZ4, ← hlZ8] <;> omega
    rw [eZ10] at huZ7g
    cases h
    try simp only [VS1, VS2, VS3, VS4, VS5, VS6, VT1, VT2, finM_ret, finM_nrm, decide_true, decide_false, List.nodup_nil, List.nodup_cons, oks_p, oks_m, oks_h, ne_eq, not_false_eq_true, Int.reduceEq, Int.reduceNe, true_and, Nat.reduceSub, Nat.reduceMul, ↓reduceIte, reduceCtorEq, Nat.reduceEqDiff, Nat.reduceAdd, Nat.reduceLeDiff, Int.reduceLE, cZ2, hyZ3a, hyZ3b, eZ5, eZ6, huZ7g, eZ9, eZ10]
    all_goals simp [qL, qJ, qJ0, qS, qX, qR, qM, Shp, sub, tupd, VS1, VS2, VS3, VS4, VS5, VS6, VT1, VT2, S_spec_l17BackL1, SX_spec_l17BackL1, ← hlZ4, ← hlZ8]
  · replace h := cond_f cZ2 h
    cases h
    try simp only [VS1, VS2, VS3, VS4, VS5, VS6, VT1, VT2, finM_ret, finM_nrm, decide_true, decide_false, List.nodup_nil, List.nodup_cons, oks_p, oks_m, oks_h, ne_eq, not_false_eq_true, Int.reduceEq, Int.reduceNe, true_and, Nat.reduceSub, Nat.reduceMul, ↓reduceIte, reduceCtorEq, Nat.reduceEqDiff, Nat.reduceAdd, Nat.reduceLeDiff, Int.reduceLE, cZ2]
    all_goals simp [qL, qJ, qJ0, qS, qX, qR, qM, Shp, sub, tupd, VS1, VS2, VS3, VS4, VS5, VS6, VT1, VT2, S_spec_l17BackL1, SX_spec_l17BackL1]
theorem w_spec_l17Back (ringZ0 : List Int) {r : List Int} (h : M_spec_l17Back ringZ0 = some r) : Ok Try.prog 78 [.lst .o 1 (ringZ0.map AV.i)] ((fun r => .lst .u 1 (r.map AV.i)) r) := by
  refine ok_of_body hmix m78 rfl ?_
  unfold M_spec_l17Back at h
  simp only [A78, V78, body_eq]
  obtain ⟨oZ11, hoZ11, h⟩ := bind_s h
  try simp only [VS1, VS2, VS3, VS4, VS5, VS6, VT1, VT2, finM_ret, finM_nrm, decide_true, decide_false, List.nodup_nil, List.nodup_cons, oks_p, oks_m, oks_h, ne_eq, not_false_eq_true, Int.reduceEq, Int.reduceNe, true_and, Nat.reduceSub, Nat.reduceMul, ↓reduceIte, reduceCtorEq, Nat.reduceEqDiff, Nat.reduceAdd, Nat.reduceLeDiff, Int.reduceLE]
  refine join_rule0 (blk_rule0 (loop_rule (w_spec_l17BackL1 ringZ0) hoZ11 ?_)) ?_
  · all_goals simp [qL, qJ, qJ0, qS, qX, qR, qM, Shp, sub, tupd, VS1, VS2, VS3, VS4, VS5, VS6, VT1, VT2, S_spec_l17BackL1, SX_spec_l17BackL1]
  · simp only [SX_spec_l17BackL1, A78R2]
    cases h
    try simp only [VS1, VS2, VS3, VS4, VS5, VS6, VT1, VT2, finM_ret, finM_nrm, decide_true, decide_false, List.nodup_nil, List.nodup_cons, oks_p, oks_m, oks_h, ne_eq, not_false_eq_true, Int.reduceEq, Int.reduceNe, true_and, Nat.reduceSub, Nat.reduceMul, ↓reduceIte, reduceCtorEq, Nat.reduceEqDiff, Nat.reduceAdd, Nat.reduceLeDiff, Int.reduceLE]
    all_goals simp [qL, qJ, qJ0, qS, qX, qR, qM, Shp, sub, tupd, VS1, VS2, VS3, VS4, VS5, VS6, VT1, VT2, V78]
def S_spec_l17LessL1 (aZ0 : List Int) (bZ0 : List Int) (v : Int) : St := ⟨[(0, .lst .o 1 (aZ0.map AV.i)), (1, .lst .o 1 (bZ0.map AV.i)), (5, .i v)], []⟩
def SX_spec_l17LessL1 (v : Unit) : St := ⟨[], []⟩
theorem w_spec_l17LessL1 (aZ0 : List Int) (bZ0 : List Int) (sZ2 : Int) (o : Int ⊕ (Unit ⊕ Bool)) (h : M_spec_l17LessL1 aZ0 bZ0 sZ2 = some o) : AWP (OkS Try.prog) A77L1 (qL [0, 1, 5] [] (S_spec_l17LessL1 aZ0 bZ0) (qS (qX 0 [] [] (SX_spec_l17LessL1)) (qR V77 (fun r => .b r))) o) (S_spec_l17LessL1 aZ0 bZ0 sZ2) := by
  unfold M_spec_l17LessL1 at h
  simp only [S_spec_l17LessL1, A77L1]
  refine Or.elim (bt (decide (sZ2 < (aZ0.length : Int)))) (fun cZ3 => ?_) (fun cZ3 => ?_)
  · replace h := cond_t cZ3 h
    obtain ⟨yZ4, hyZ4, h⟩ := bind_s h
    obtain ⟨hyZ4a, hyZ4b⟩ := geti_s hyZ4
    obtain ⟨yZ5, hyZ5, h⟩ := bind_s h
    obtain ⟨hyZ5a, hyZ5b⟩ := geti_s hyZ5
    refine Or.elim (bt (yZ4 != yZ5)) (fun cZ6 => ?_) (fun cZ6 => ?_)
    · replace h := cond_t cZ6 h
      cases h
      try simp only [VS1, VS2, VS3, VS4, VS5, VS6, VT1, VT2, finM_ret, finM_nrm, decide_true, decide_false, List.nodup_nil, List.nodup_cons, oks_p, oks_m, oks_h, ne_eq, not_false_eq_true, Int.reduceEq, Int.reduceNe, true_and, Nat.reduceSub, Nat.reduceMul, ↓reduceIte, reduceCtorEq, Nat.reduceEqDiff, Nat.reduceAdd, Nat.reduceLeDiff, Int.reduceLE, cZ3, hyZ4a, hyZ4b, hyZ5a, hyZ5b, cZ6]
      all_goals simp [qL, qJ, qJ0, qS, qX, qR, qM, Shp, sub, tupd, VS1, VS2, VS3, VS4, VS5, VS6, VT1, VT2, V77]
    · replace h := cond_f cZ6 h
      cases h
      try simp only [VS1, VS2, VS3, VS4, VS5, VS6, VT1, VT2, finM_ret, finM_nrm, decide_true, decide_false, List.nodup_nil, List.nodup_cons, oks_p, oks_m, oks_h, ne_eq, not_false_eq_true, Int.reduceEq, Int.reduceNe, true_and, Nat.reduceSub, Nat.reduceMul, ↓reduceIte, reduceCtorEq, Nat.reduceEqDiff, Nat.reduceAdd, Nat.reduceLeDiff, Int.reduceLE, cZ3, hyZ4a, hyZ4b, hyZ5a, hyZ5b, cZ6]
      all_goals simp [qL, qJ, qJ0, qS, qX, qR, qM, Shp, sub, tupd, VS1, VS2, VS3, VS4, VS5, VS6, VT1, VT2, S_spec_l17LessL1, SX_spec_l17LessL1]
  · replace h := cond_f cZ3 h
    cases h
    try simp only [VS1, VS2, VS3, VS4, VS5, VS6, VT1, VT2, finM_ret, finM_nrm, decide_true, decide_false, List.nodup_nil, List.nodup_cons, oks_p, oks_m, oks_h, ne_eq, not_false_eq_true, Int.reduceEq, Int.reduceNe, true_and, Nat.reduceSub, Nat.reduceMul, ↓reduceIte, reduceCtorEq, Nat.reduceEqDiff, Nat.reduceAdd, Nat.reduceLeDiff, Int.reduceLE, cZ3]
    all_goals simp [qL, qJ, qJ0, qS, qX, qR, qM, Shp, sub, tupd, VS1, VS2, VS3, VS4, VS5, VS6, VT1, VT2, S_spec_l17LessL1, SX_spec_l17LessL1]
theorem w_spec_l17Less (aZ0 : List Int) (bZ0 : List Int) {r : Bool} (h : M_spec_l17Less aZ0 bZ0 = some r) : Ok Try.prog 77 [.lst .o 1 (aZ0.map AV.i), .lst .o 1 (bZ0.map AV.i)] ((fun r => .b r) r) := by
  refine ok_of_body hmix m77 rfl ?_
  unfold M_spec_l17Less at h
  simp only [A77, V77, body_eq]
  refine Or.elim (bt ((aZ0.length : Int) != (bZ0.length : Int))) (fun cZ1 => ?_) (fun cZ1 => ?_)
  · replace h := cond_t cZ1 h
    cases h
    try simp only [VS1, VS2, VS3, VS4, VS5, VS6, VT1, VT2, finM_ret, finM_nrm, decide_true, decide_false, List.nodup_nil, List.nodup_cons, oks_p, oks_m, oks_h, ne_eq, not_false_eq_true, Int.reduceEq, Int.reduceNe, true_and, Nat.reduceSub, Nat.reduceMul, ↓reduceIte, reduceCtorEq, Nat.reduceEqDiff, Nat.reduceAdd, Nat.reduceLeDiff, Int.reduceLE, cZ1]
    all_goals simp [qL, qJ, qJ0, qS, qX, qR, qM, Shp, sub, tupd, VS1, VS2, VS3, VS4, VS5, VS6, VT1, VT2, V77]
  · replace h := cond_f cZ1 h
    obtain ⟨oZ7, hoZ7, h⟩ := bind_s h
    try simp only [VS1, VS2, VS3, VS4, VS5, VS6, VT1, VT2, finM_ret, finM_nrm, decide_true, decide_false, List.nodup_nil, List.nodup_cons, oks_p, oks_m, oks_h, ne_eq, not_false_eq_true, Int.reduceEq, Int.reduceNe, true_and, Nat.reduceSub, Nat.reduceMul, ↓reduceIte, reduceCtorEq, Nat.reduceEqDiff, Nat.reduceAdd, Nat.reduceLeDiff, Int.reduceLE, cZ1]
    refine join_rule (o := oZ7) (blk_rule sideR (loop_rule (w_spec_l17LessL1 aZ0 bZ0) hoZ7 ?_)) (fun vZ8 hv => ?_) (fun xZ9 hv e τ hne hq => ?_)
    · all_goals simp [qL, qJ, qJ0, qS, qX, qR, qM, Shp, sub, tupd, VS1, VS2, VS3, VS4, VS5, VS6, VT1, VT2, S_spec_l17LessL1, SX_spec_l17LessL1]
    · subst hv
      simp only [] at h
      simp only [SX_spec_l17LessL1, A77R2]
      cases h
      try simp only [VS1, VS2, VS3, VS4, VS5, VS6, VT1, VT2, finM_ret, finM_nrm, decide_true, decide_false, List.nodup_nil, List.nodup_cons, oks_p, oks_m, oks_h, ne_eq, not_false_eq_true, Int.reduceEq, Int.reduceNe, true_and, Nat.reduceSub, Nat.reduceMul, ↓reduceIte, reduceCtorEq, Nat.reduceEqDiff, Nat.reduceAdd, Nat.reduceLeDiff, Int.reduceLE, cZ1]
      all_goals simp [qL, qJ, qJ0, qS, qX, qR, qM, Shp, sub, tupd, VS1, VS2, VS3, VS4, VS5, VS6, VT1, VT2, V77]
    · subst hv
      simp only [] at h
      obtain ⟨rfl, qZ10⟩ := hq
      cases h
      exact qZ10
def S_spec_l17GoodL2 (ringZ0 : List Int) (sZ1 : Int) (rZ3 : List Int × Bool) (v : Bool × Int) : St := ⟨[(1, .lst .o 1 (ringZ0.map AV.i)), (5, .i sZ1), (6, .sl 6 0 rZ3.1.length), (8, .b v.1), (9, .i v.2)], [(6, .arr 1 (rZ3.1.map AV.i))]⟩
def SX_spec_l17GoodL2 (ringZ0 : List Int) (v : Bool) : St := ⟨[(1, .lst .o 1 (ringZ0.map AV.i)), (8, .b v)], []⟩
theorem w_spec_l17GoodL2 (ringZ0 : List Int) (sZ1 : Int) (rZ3 : List Int × Bool) (sZ5 : Bool × Int) (o : (Bool × Int) ⊕ Bool) (h : M_spec_l17GoodL2 sZ1 rZ3 sZ5 = some o) : AWP (OkS Try.prog) A41L1 (qL [1, 5, 6, 8, 9] [6] (S_spec_l17GoodL2 ringZ0 sZ1 rZ3) (qX 2 [1, 8] [] (SX_spec_l17GoodL2 ringZ0)) o) (S_spec_l17GoodL2 ringZ0 sZ1 rZ3 sZ5) := by
  unfold M_spec_l17GoodL2 at h
  simp only [S_spec_l17GoodL2, A41L1]
  refine Or.elim (bt (decide (sZ5.2 < (rZ3.1.length : Int)))) (fun cZ6 => ?_) (fun cZ6 => ?_)
  · replace h := cond_t cZ6 h
    refine Or.elim (bt (sZ5.1)) (fun cZ7 => ?_) (fun cZ7 => ?_)
    · replace h := cond_t cZ7 h
      obtain ⟨kZ8, hkZ8, h⟩ := bind_s h
      obtain ⟨hkZ8a, hkZ8b⟩ := grd_s hkZ8
      obtain ⟨yZ9, hyZ9, h⟩ := bind_s h
      cases h
      try simp only [VS1, VS2, VS3, VS4, VS5, VS6, VT1, VT2, finM_ret, finM_nrm, decide_true, decide_false, List.nodup_nil, List.nodup_cons, oks_p, oks_m, oks_h, ne_eq, not_false_eq_true, Int.reduceEq, Int.reduceNe, true_and, Nat.reduceSub, Nat.reduceMul, ↓reduceIte, reduceCtorEq, Nat.reduceEqDiff, Nat.reduceAdd, Nat.reduceLeDiff, Int.reduceLE, cZ6, cZ7, hkZ8a, hkZ8b, hyZ9]
      all_goals simp [qL, qJ, qJ0, qS, qX, qR, qM, Shp, sub, tupd, VS1, VS2, VS3, VS4, VS5, VS6, VT1, VT2, S_spec_l17GoodL2, SX_spec_l17GoodL2]
    · replace h := cond_f cZ7 h
      cases h
      try simp only [VS1, VS2, VS3, VS4, VS5, VS6, VT1, VT2, finM_ret, finM_nrm, decide_true, decide_false, List.nodup_nil, List.nodup_cons, oks_p, oks_m, oks_h, ne_eq, not_false_eq_true, Int.reduceEq, Int.reduceNe, true_and, Nat.reduceSub, Nat.reduceMul, ↓reduceIte, reduceCtorEq, Nat.reduceEqDiff, Nat.reduceAdd, Nat.reduceLeDiff, Int.reduceLE, cZ6, cZ7]
      all_goals simp [qL, qJ, qJ0, qS, qX, qR, qM, Shp, sub, tupd, VS1, VS2, VS3, VS4, VS5, VS6, VT1, VT2, S_spec_l17GoodL2, SX_spec_l17GoodL2]
  · replace h := cond_f cZ6 h
    cases h
    try simp only [VS1, VS2, VS3, VS4, VS5, VS6, VT1, VT2, finM_ret, finM_nrm, decide_true, decide_false, List.nodup_nil, List.nodup_cons, oks_p, oks_m, oks_h, ne_eq, not_false_eq_true, Int.reduceEq, Int.reduceNe, true_and, Nat.reduceSub, Nat.reduceMul, ↓reduceIte, reduceCtorEq, Nat.reduceEqDiff, Nat.reduceAdd, Nat.reduceLeDiff, Int.reduceLE, cZ6]
    all_goals simp [qL, qJ, qJ0, qS, qX, qR, qM, Shp, sub, tupd, VS1, VS2, VS3, VS4, VS5, VS6, VT1, VT2, S_spec_l17GoodL2, SX_spec_l17GoodL2]
def S_spec_l17GoodL1 (nZ0 : TNetwork) (ringZ0 : List Int) (v : Int) : St := ⟨[(1, .lst .o 1 (ringZ0.map AV.i)), (2, .pt 2 0 0), (5, .i v)], [(2, .var (.agg [.lst .o 1 (nZ0.Nodes.map AV.z), .lst .o 4 (nZ0.Fibers.map (e_TFiber .o))]))]⟩
def SX_spec_l17GoodL1 (v : Unit) : St := ⟨[], []⟩
theorem w_spec_l17GoodL1 (nZ0 : TNetwork) (ringZ0 : List Int) (sZ1 : Int) (o : Int ⊕ (Unit ⊕ Bool)) (h : M_spec_l17GoodL1 nZ0 ringZ0 sZ1 = some o) : AWP (OkS Try.prog) A41L3 (qL [1, 2, 5] [2] (S_spec_l17GoodL1 nZ0 ringZ0) (qS (qX 0 [] [] (SX_spec_l17GoodL1)) (qR V41 (fun r => .b r))) o) (S_spec_l17GoodL1 nZ0 ringZ0 sZ1) := by
  unfold M_spec_l17GoodL1 at h
  simp only [S_spec_l17GoodL1, A41L3]
  refine Or.elim (bt (decide (sZ1 < (nZ0.Nodes.length : Int)))) (fun cZ2 => ?_) (fun cZ2 => ?_)
  · replace h := cond_t cZ2 h
    obtain ⟨rZ3, hrZ3, h⟩ := bind_s h
    simp only [VS1, VS2, VS3, VS4, VS5, VS6, VT1, VT2, finM_ret, finM_nrm, decide_true, decide_false, List.nodup_nil, List.nodup_cons, oks_p, oks_m, oks_h, ne_eq, not_false_eq_true, Int.reduceEq, Int.reduceNe, true_and, Nat.reduceSub, Nat.reduceMul, ↓reduceIte, reduceCtorEq, Nat.reduceEqDiff, Nat.reduceAdd, Nat.reduceLeDiff, Int.reduceLE, cZ2]
    refine call_u (by simp only [VS1, VS2, VS3, VS4, VS5, VS6, VT1, VT2, finM_ret, finM_nrm, decide_true, decide_false, List.nodup_nil, List.nodup_cons, oks_p, oks_m, oks_h, ne_eq, not_false_eq_true, Int.reduceEq, Int.reduceNe, true_and, Nat.reduceSub, Nat.reduceMul, ↓reduceIte, reduceCtorEq, Nat.reduceEqDiff, Nat.reduceAdd, Nat.reduceLeDiff, Int.reduceLE, cZ2]; exact w_spec_l17Walk _ _ _ hrZ3 ) (by simp [AV.allU, allUL, allUL_iff, VT1, VT2]) (by simp only [VS1, VS2, VS3, VS4, VS5, VS6, VT1, VT2, finM_ret, finM_nrm, decide_true, decide_false, List.nodup_nil, List.nodup_cons, oks_p, oks_m, oks_h, ne_eq, not_false_eq_true, Int.reduceEq, Int.reduceNe, true_and, Nat.reduceSub, Nat.reduceMul, ↓reduceIte, reduceCtorEq, Nat.reduceEqDiff, Nat.reduceAdd, Nat.reduceLeDiff, Int.reduceLE, Nat.reduceLT]) ?_
    simp only [VA, VF1, ↓reduceIte, Nat.reduceEqDiff, Nat.reduceAdd, Nat.reduceMul, Nat.reduceSub, Nat.reduceLeDiff]
    refine Or.elim (bt (!rZ3.2)) (fun cZ4 => ?_) (fun cZ4 => ?_)
    · replace h := cond_t cZ4 h
      cases h
      try simp only [VS1, VS2, VS3, VS4, VS5, VS6, VT1, VT2, finM_ret, finM_nrm, decide_true, decide_false, List.nodup_nil, List.nodup_cons, oks_p, oks_m, oks_h, ne_eq, not_false_eq_true, Int.reduceEq, Int.reduceNe, true_and, Nat.reduceSub, Nat.reduceMul, ↓reduceIte, reduceCtorEq, Nat.reduceEqDiff, Nat.reduceAdd, Nat.reduceLeDiff, Int.reduceLE, cZ2, cZ4]
      all_goals simp [qL, qJ, qJ0, qS, qX, qR, qM, Shp, sub, tupd, VS1, VS2, VS3, VS4, VS5, VS6, VT1, VT2, S_spec_l17GoodL1, SX_spec_l17GoodL1]
    · replace h := cond_f cZ4 h
      obtain ⟨oZ10, hoZ10, h⟩ := bind_s h
      try simp only [VS1, VS2, VS3, VS4, VS5, VS6, VT1, VT2, finM_ret, finM_nrm, decide_true, decide_false, List.nodup_nil, List.nodup_cons, oks_p, oks_m, oks_h, ne_eq, not_false_eq_true, Int.reduceEq, Int.reduceNe, true_and, Nat.reduceSub, Nat.reduceMul, ↓reduceIte, reduceCtorEq, Nat.reduceEqDiff, Nat.reduceAdd, Nat.reduceLeDiff, Int.reduceLE, cZ2, cZ4]
      refine join_rule0 (blk_rule0 (loop_rule (w_spec_l17GoodL2 ringZ0 sZ1 rZ3) hoZ10 ?_)) ?_
      · all_goals simp [qL, qJ, qJ0, qS, qX, qR, qM, Shp, sub, tupd, VS1, VS2, VS3, VS4, VS5, VS6, VT1, VT2, S_spec_l17GoodL2, SX_spec_l17GoodL2]
      · simp only [SX_spec_l17GoodL2, A41R2]
        refine Or.elim (bt (oZ10)) (fun cZ11 => ?_) (fun cZ11 => ?_)
        · replace h := cond_t cZ11 h
          obtain ⟨rZ12, hrZ12, h⟩ := bind_s h
          simp only [VS1, VS2, VS3, VS4, VS5, VS6, VT1, VT2, finM_ret, finM_nrm, decide_true, decide_false, List.nodup_nil, List.nodup_cons, oks_p, oks_m, oks_h, ne_eq, not_false_eq_true, Int.reduceEq, Int.reduceNe, true_and, Nat.reduceSub, Nat.reduceMul, ↓reduceIte, reduceCtorEq, Nat.reduceEqDiff, Nat.reduceAdd, Nat.reduceLeDiff, Int.reduceLE, cZ2, cZ4, cZ11]
          refine call_u (by simp only [VS1, VS2, VS3, VS4, VS5, VS6, VT1, VT2, finM_ret, finM_nrm, decide_true, decide_false, List.nodup_nil, List.nodup_cons, oks_p, oks_m, oks_h, ne_eq, not_false_eq_true, Int.reduceEq, Int.reduceNe, true_and, Nat.reduceSub, Nat.reduceMul, ↓reduceIte, reduceCtorEq, Nat.reduceEqDiff, Nat.reduceAdd, Nat.reduceLeDiff, Int.reduceLE, cZ2, cZ4, cZ11]; exact w_spec_l17Back _ hrZ12 ) (by simp [AV.allU, allUL, allUL_iff, VT1, VT2]) (by simp only [VS1, VS2, VS3, VS4, VS5, VS6, VT1, VT2, finM_ret, finM_nrm, decide_true, decide_false, List.nodup_nil, List.nodup_cons, oks_p, oks_m, oks_h, ne_eq, not_false_eq_true, Int.reduceEq, Int.reduceNe, true_and, Nat.reduceSub, Nat.reduceMul, ↓reduceIte, reduceCtorEq, Nat.reduceEqDiff, Nat.reduceAdd, Nat.reduceLeDiff, Int.reduceLE, Nat.reduceLT]) ?_
          simp only [VA, VF1, ↓reduceIte, Nat.reduceEqDiff, Nat.reduceAdd, Nat.reduceMul, Nat.reduceSub, Nat.reduceLeDiff]
          obtain ⟨rZ13, hrZ13, h⟩ := bind_s h
          simp only [VS1, VS2, VS3, VS4, VS5, VS6, VT1, VT2, finM_ret, finM_nrm, decide_true, decide_false, List.nodup_nil, List.nodup_cons, oks_p, oks_m, oks_h, ne_eq, not_false_eq_true, Int.reduceEq, Int.reduceNe, true_and, Nat.reduceSub, Nat.reduceMul, ↓reduceIte, reduceCtorEq, Nat.reduceEqDiff, Nat.reduceAdd, Nat.reduceLeDiff, Int.reduceLE, cZ2, cZ4, cZ11]
          refine call_s (by simp only [VS1, VS2, VS3, VS4, VS5, VS6, VT1, VT2, finM_ret, finM_nrm, decide_true, decide_false, List.nodup_nil, List.nodup_cons, oks_p, oks_m, oks_h, ne_eq, not_false_eq_true, Int.reduceEq, Int.reduceNe, true_and, Nat.reduceSub, Nat.reduceMul, ↓reduceIte, reduceCtorEq, Nat.reduceEqDiff, Nat.reduceAdd, Nat.reduceLeDiff, Int.reduceLE, cZ2, cZ4, cZ11]; exact w_spec_l17Less _ _ hrZ13 ) ?_
          simp only [VA, VF1, ↓reduceIte, Nat.reduceEqDiff, Nat.reduceAdd, Nat.reduceMul, Nat.reduceSub, Nat.reduceLeDiff]
          cases h
          try simp only [VS1, VS2, VS3, VS4, VS5, VS6, VT1, VT2, finM_ret, finM_nrm, decide_true, decide_false, List.nodup_nil, List.nodup_cons, oks_p, oks_m, oks_h, ne_eq, not_false_eq_true, Int.reduceEq, Int.reduceNe, true_and, Nat.reduceSub, Nat.reduceMul, ↓reduceIte, reduceCtorEq, Nat.reduceEqDiff, Nat.reduceAdd, Nat.reduceLeDiff, Int.reduceLE, cZ2, cZ4, cZ11]
          all_goals simp [qL, qJ, qJ0, qS, qX, qR, qM, Shp, sub, tupd, VS1, VS2, VS3, VS4, VS5, VS6, VT1, VT2, V41]
        · replace h := cond_f cZ11 h
          cases h
          try simp only [VS1, VS2, VS3, VS4, VS5, VS6, VT1, VT2, finM_ret, finM_nrm, decide_true, decide_false, List.nodup_nil, List.nodup_cons, oks_p, oks_m, oks_h, ne_eq, not_false_eq_true, Int.reduceEq, Int.reduceNe, true_and, Nat.reduceSub, Nat.reduceMul, ↓reduceIte, reduceCtorEq, Nat.reduceEqDiff, Nat.reduceAdd, Nat.reduceLeDiff, Int.reduceLE, cZ2, cZ4, cZ11]
          all_goals simp [qL, qJ, qJ0, qS, qX, qR, qM, Shp, sub, tupd, VS1, VS2, VS3, VS4, VS5, VS6, VT1, VT2, V41]
  · replace h := cond_f cZ2 h
    cases h
    try simp only [VS1, VS2, VS3, VS4, VS5, VS6, VT1, VT2, finM_ret, finM_nrm, decide_true, decide_false, List.nodup_nil, List.nodup_cons, oks_p, oks_m, oks_h, ne_eq, not_false_eq_true, Int.reduceEq, Int.reduceNe, true_and, Nat.reduceSub, Nat.reduceMul, ↓reduceIte, reduceCtorEq, Nat.reduceEqDiff, Nat.reduceAdd, Nat.reduceLeDiff, Int.reduceLE, cZ2]
    all_goals simp [qL, qJ, qJ0, qS, qX, qR, qM, Shp, sub, tupd, VS1, VS2, VS3, VS4, VS5, VS6, VT1, VT2, S_spec_l17GoodL1, SX_spec_l17GoodL1]
theorem w_spec_l17Good (nZ0 : TNetwork) (ringZ0 : List Int) {r : Bool} (h : M_spec_l17Good nZ0 ringZ0 = some r) : Ok Try.prog 41 [.agg [.lst .o 1 (nZ0.Nodes.map AV.z), .lst .o 4 (nZ0.Fibers.map (e_TFiber .o))], .lst .o 1 (ringZ0.map AV.i)] ((fun r => .b r) r) := by
  refine ok_of_body hmix m41 rfl ?_
  unfold M_spec_l17Good at h
  simp only [A41, V41, body_eq]
  obtain ⟨oZ14, hoZ14, h⟩ := bind_s h
  try simp only [VS1, VS2, VS3, VS4, VS5, VS6, VT1, VT2, finM_ret, finM_nrm, decide_true, decide_false, List.nodup_nil, List.nodup_cons, oks_p, oks_m, oks_h, ne_eq, not_false_eq_true, Int.reduceEq, Int.reduceNe, true_and, Nat.reduceSub, Nat.reduceMul, ↓reduceIte, reduceCtorEq, Nat.reduceEqDiff, Nat.reduceAdd, Nat.reduceLeDiff, Int.reduceLE]
  refine join_rule (o := oZ14) (blk_rule sideR (loop_rule (w_spec_l17GoodL1 nZ0 ringZ0) hoZ14 ?_)) (fun vZ15 hv => ?_) (fun xZ16 hv e τ hne hq => ?_)
  · all_goals simp [qL, qJ, qJ0, qS, qX, qR, qM, Shp, sub, tupd, VS1, VS2, VS3, VS4, VS5, VS6, VT1, VT2, S_spec_l17GoodL1, SX_spec_l17GoodL1]
  · subst hv
    simp only [] at h
    simp only [SX_spec_l17GoodL1, A41R4]
    cases h
    try simp only [VS1, VS2, VS3, VS4, VS5, VS6, VT1, VT2, finM_ret, finM_nrm, decide_true, decide_false, List.nodup_nil, List.nodup_cons, oks_p, oks_m, oks_h, ne_eq, not_false_eq_true, Int.reduceEq, Int.reduceNe, true_and, Nat.reduceSub, Nat.reduceMul, ↓reduceIte, reduceCtorEq, Nat.reduceEqDiff, Nat.reduceAdd, Nat.reduceLeDiff, Int.reduceLE]
    all_goals simp [qL, qJ, qJ0, qS, qX, qR, qM, Shp, sub, tupd, VS1, VS2, VS3, VS4, VS5, VS6, VT1, VT2, V41]
  · subst hv
    simp only [] at h
    obtain ⟨rfl, qZ17⟩ := hq
    cases h
    exact qZ17
theorem w_spec_IsRing (nZ0 : TNetwork) (ringZ0 : List Int) {r : Bool} (h : M_spec_IsRing nZ0 ringZ0 = some r) : Ok Try.prog 11 [.agg [.lst .o 1 (nZ0.Nodes.map AV.z), .lst .o 4 (nZ0.Fibers.map (e_TFiber .o))], .lst .o 1 (ringZ0.map AV.i)] ((fun r => .b r) r) := by
  refine ok_of_body hmix m11 rfl ?_
  unfold M_spec_IsRing at h
  simp only [A11, V11, body_eq]
  obtain ⟨rZ1, hrZ1, h⟩ := bind_s h
  simp only [VS1, VS2, VS3, VS4, VS5, VS6, VT1, VT2, finM_ret, finM_nrm, decide_true, decide_false, List.nodup_nil, List.nodup_cons, oks_p, oks_m, oks_h, ne_eq, not_false_eq_true, Int.reduceEq, Int.reduceNe, true_and, Nat.reduceSub, Nat.reduceMul, ↓reduceIte, reduceCtorEq, Nat.reduceEqDiff, Nat.reduceAdd, Nat.reduceLeDiff, Int.reduceLE]
  refine call_s (by simp only [VS1, VS2, VS3, VS4, VS5, VS6, VT1, VT2, finM_ret, finM_nrm, decide_true, decide_false, List.nodup_nil, List.nodup_cons, oks_p, oks_m, oks_h, ne_eq, not_false_eq_true, Int.reduceEq, Int.reduceNe, true_and, Nat.reduceSub, Nat.reduceMul, ↓reduceIte, reduceCtorEq, Nat.reduceEqDiff, Nat.reduceAdd, Nat.reduceLeDiff, Int.reduceLE]; exact w_spec_l2Good _ hrZ1 ) ?_
  simp only [VA, VF1, ↓reduceIte, Nat.reduceEqDiff, Nat.reduceAdd, Nat.reduceMul, Nat.reduceSub, Nat.reduceLeDiff]
  refine Or.elim (bt (rZ1)) (fun cZ2 => ?_) (fun cZ2 => ?_)
  · replace h := cond_t cZ2 h
    obtain ⟨rZ3, hrZ3, h⟩ := bind_s h
    simp only [VS1, VS2, VS3, VS4, VS5, VS6, VT1, VT2, finM_ret, finM_nrm, decide_true, decide_false, List.nodup_nil, List.nodup_cons, oks_p, oks_m, oks_h, ne_eq, not_false_eq_true, Int.reduceEq, Int.reduceNe, true_and, Nat.reduceSub, Nat.reduceMul, ↓reduceIte, reduceCtorEq, Nat.reduceEqDiff, Nat.reduceAdd, Nat.reduceLeDiff, Int.reduceLE, cZ2]
    refine call_s (by simp only [VS1, VS2, VS3, VS4, VS5, VS6, VT1, VT2, finM_ret, finM_nrm, decide_true, decide_false, List.nodup_nil, List.nodup_cons, oks_p, oks_m, oks_h, ne_eq, not_false_eq_true, Int.reduceEq, Int.reduceNe, true_and, Nat.reduceSub, Nat.reduceMul, ↓reduceIte, reduceCtorEq, Nat.reduceEqDiff, Nat.reduceAdd, Nat.reduceLeDiff, Int.reduceLE, cZ2]; exact w_spec_l17Good _ _ hrZ3 ) ?_
    simp only [VA, VF1, ↓reduceIte, Nat.reduceEqDiff, Nat.reduceAdd, Nat.reduceMul, Nat.reduceSub, Nat.reduceLeDiff]
    cases h
    try simp only [VS1, VS2, VS3, VS4, VS5, VS6, VT1, VT2, finM_ret, finM_nrm, decide_true, decide_false, List.nodup_nil, List.nodup_cons, oks_p, oks_m, oks_h, ne_eq, not_false_eq_true, Int.reduceEq, Int.reduceNe, true_and, Nat.reduceSub, Nat.reduceMul, ↓reduceIte, reduceCtorEq, Nat.reduceEqDiff, Nat.reduceAdd, Nat.reduceLeDiff, Int.reduceLE, cZ2]
    all_goals simp [qL, qJ, qJ0, qS, qX, qR, qM, Shp, sub, tupd, VS1, VS2, VS3, VS4, VS5, VS6, VT1, VT2, V11]
  · replace h := cond_f cZ2 h
    cases h
    try simp only [VS1, VS2, VS3, VS4, VS5, VS6, VT1, VT2, finM_ret, finM_nrm, decide_true, decide_false, List.nodup_nil, List.nodup_cons, oks_p, oks_m, oks_h, ne_eq, not_false_eq_true, Int.reduceEq, Int.reduceNe, true_and, Nat.reduceSub, Nat.reduceMul, ↓reduceIte, reduceCtorEq, Nat.reduceEqDiff, Nat.reduceAdd, Nat.reduceLeDiff, Int.reduceLE, cZ2]
    all_goals simp [qL, qJ, qJ0, qS, qX, qR, qM, Shp, sub, tupd, VS1, VS2, VS3, VS4, VS5, VS6, VT1, VT2, V11]
theorem w_impl_within (nZ0 : Int) (lowZ0 : Int) (highZ0 : Int) {r : Bool} (h : M_impl_within nZ0 lowZ0 highZ0 = some r) : Ok Try.prog 57 [.i nZ0, .i lowZ0, .i highZ0] ((fun r => .b r) r) := by
  refine ok_of_body hmix m57 rfl ?_
  unfold M_impl_within at h
  simp only [A57, V57, body_eq]
  refine Or.elim (bt (decide (lowZ0 ≤ nZ0))) (fun cZ1 => ?_) (fun cZ1 => ?_)
  · replace h := cond_t cZ1 h
    cases h
    try simp only [VS1, VS2, VS3, VS4, VS5, VS6, VT1, VT2, finM_ret, finM_nrm, decide_true, decide_false, List.nodup_nil, List.nodup_cons, oks_p, oks_m, oks_h, ne_eq, not_false_eq_true, Int.reduceEq, Int.reduceNe, true_and, Nat.reduceSub, Nat.reduceMul, ↓reduceIte, reduceCtorEq, Nat.reduceEqDiff, Nat.reduceAdd, Nat.reduceLeDiff, Int.reduceLE, cZ1]
    all_goals simp [qL, qJ, qJ0, qS, qX, qR, qM, Shp, sub, tupd, VS1, VS2, VS3, VS4, VS5, VS6, VT1, VT2, V57]
  · replace h := cond_f cZ1 h
    cases h
    try simp only [VS1, VS2, VS3, VS4, VS5, VS6, VT1, VT2, finM_ret, finM_nrm, decide_true, decide_false, List.nodup_nil, List.nodup_cons, oks_p, oks_m, oks_h, ne_eq, not_false_eq_true, Int.reduceEq, Int.reduceNe, true_and, Nat.reduceSub, Nat.reduceMul, ↓reduceIte, reduceCtorEq, Nat.reduceEqDiff, Nat.reduceAdd, Nat.reduceLeDiff, Int.reduceLE, cZ1]
    all_goals simp [qL, qJ, qJ0, qS, qX, qR, qM, Shp, sub, tupd, VS1, VS2, VS3, VS4, VS5, VS6, VT1, VT2, V57]
def S_impl_isNameL1 (sZ0 : ByteArray) (v : Int) : St := ⟨[(0, .z sZ0), (7, .i (sZ0.size : Int)), (8, .i v)], []⟩
def SX_impl_isNameL1 (sZ0 : ByteArray) (v : Unit) : St := ⟨[(0, .z sZ0)], []⟩
theorem w_impl_isNameL1 (sZ0 : ByteArray) (sZ1 : Int) (o : Int ⊕ (Unit ⊕ Bool)) (h : M_impl_isNameL1 sZ0 sZ1 = some o) : AWP (OkS Try.prog) A81L2 (qL [0, 7, 8] [] (S_impl_isNameL1 sZ0) (qS (qX 0 [0] [] (SX_impl_isNameL1 sZ0)) (qR V81 (fun r => .b r))) o) (S_impl_isNameL1 sZ0 sZ1) := by
  unfold M_impl_isNameL1 at h
  simp only [S_impl_isNameL1, A81L2]
  refine Or.elim (bt (decide (sZ1 < (sZ0.size : Int)))) (fun cZ2 => ?_) (fun cZ2 => ?_)
  · replace h := cond_t cZ2 h
    obtain ⟨oZ7, hoZ7, h⟩ := bind_s h
    try simp only [VS1, VS2, VS3, VS4, VS5, VS6, VT1, VT2, finM_ret, finM_nrm, decide_true, decide_false, List.nodup_nil, List.nodup_cons, oks_p, oks_m, oks_h, ne_eq, not_false_eq_true, Int.reduceEq, Int.reduceNe, true_and, Nat.reduceSub, Nat.reduceMul, ↓reduceIte, reduceCtorEq, Nat.reduceEqDiff, Nat.reduceAdd, Nat.reduceLeDiff, Int.reduceLE, cZ2]
    refine join_rule0 (sh := (fun v => ⟨[(0, .z sZ0), (3, .i sZ1), (4, .b v.1), (5, .b v.2), (7, .i (sZ0.size : Int)), (8, .i sZ1)], []⟩)) (s := oZ7) ?_ ?_
    · replace h := hoZ7
      obtain ⟨yZ3, hyZ3, h⟩ := bind_s h
      obtain ⟨hyZ3a, hyZ3b⟩ := getz_s hyZ3
      refine Or.elim (bt (decide (97 ≤ (yZ3.toNat : Int)))) (fun cZ4 => ?_) (fun cZ4 => ?_)
      · replace h := cond_t cZ4 h
        refine Or.elim (bt (decide (48 ≤ (yZ3.toNat : Int)))) (fun cZ5 => ?_) (fun cZ5 => ?_)
        · replace h := cond_t cZ5 h
          cases h
          try simp only [VS1, VS2, VS3, VS4, VS5, VS6, VT1, VT2, finM_ret, finM_nrm, decide_true, decide_false, List.nodup_nil, List.nodup_cons, oks_p, oks_m, oks_h, ne_eq, not_false_eq_true, Int.reduceEq, Int.reduceNe, true_and, Nat.reduceSub, Nat.reduceMul, ↓reduceIte, reduceCtorEq, Nat.reduceEqDiff, Nat.reduceAdd, Nat.reduceLeDiff, Int.reduceLE, cZ2, hyZ3a, hyZ3b, cZ4, cZ5]
          all_goals simp [qL, qJ, qJ0, qS, qX, qR, qM, Shp, sub, tupd, VS1, VS2, VS3, VS4, VS5, VS6, VT1, VT2]
        · replace h := cond_f cZ5 h
          cases h
          try simp only [VS1, VS2, VS3, VS4, VS5, VS6, VT1, VT2, finM_ret, finM_nrm, decide_true, decide_false, List.nodup_nil, List.nodup_cons, oks_p, oks_m, oks_h, ne_eq, not_false_eq_true, Int.reduceEq, Int.reduceNe, true_and, Nat.reduceSub, Nat.reduceMul, ↓reduceIte, reduceCtorEq, Nat.reduceEqDiff, Nat.reduceAdd, Nat.reduceLeDiff, Int.reduceLE, cZ2, hyZ3a, hyZ3b, cZ4, cZ5]
          all_goals simp [qL, qJ, qJ0, qS, qX, qR, qM, Shp, sub, tupd, VS1, VS2, VS3, VS4, VS5, VS6, VT1, VT2]
      · replace h := cond_f cZ4 h
        refine Or.elim (bt (decide (48 ≤ (yZ3.toNat : Int)))) (fun cZ6 => ?_) (fun cZ6 => ?_)
        · replace h := cond_t cZ6 h
          cases h
          try simp only [VS1, VS2, VS3, VS4, VS5, VS6, VT1, VT2, finM_ret, finM_nrm, decide_true, decide_false, List.nodup_nil, List.nodup_cons, oks_p, oks_m, oks_h, ne_eq, not_false_eq_true, Int.reduceEq, Int.reduceNe, true_and, Nat.reduceSub, Nat.reduceMul, ↓reduceIte, reduceCtorEq, Nat.reduceEqDiff, Nat.reduceAdd, Nat.reduceLeDiff, Int.reduceLE, cZ2, hyZ3a, hyZ3b, cZ4, cZ6]
          all_goals simp [qL, qJ, qJ0, qS, qX, qR, qM, Shp, sub, tupd, VS1, VS2, VS3, VS4, VS5, VS6, VT1, VT2]
        · replace h := cond_f cZ6 h
          cases h
          try simp only [VS1, VS2, VS3, VS4, VS5, VS6, VT1, VT2, finM_ret, finM_nrm, decide_true, decide_false, List.nodup_nil, List.nodup_cons, oks_p, oks_m, oks_h, ne_eq, not_false_eq_true, Int.reduceEq, Int.reduceNe, true_and, Nat.reduceSub, Nat.reduceMul, ↓reduceIte, reduceCtorEq, Nat.reduceEqDiff, Nat.reduceAdd, Nat.reduceLeDiff, Int.reduceLE, cZ2, hyZ3a, hyZ3b, cZ4, cZ6]
          all_goals simp [qL, qJ, qJ0, qS, qX, qR, qM, Shp, sub, tupd, VS1, VS2, VS3, VS4, VS5, VS6, VT1, VT2]
    · simp only [A81R1]
      refine Or.elim (bt (!oZ7.1)) (fun cZ8 => ?_) (fun cZ8 => ?_)
      · replace h := cond_t cZ8 h
        refine Or.elim (bt (!oZ7.2)) (fun cZ9 => ?_) (fun cZ9 => ?_)
        · replace h := cond_t cZ9 h
          cases h
          try simp only [VS1, VS2, VS3, VS4, VS5, VS6, VT1, VT2, finM_ret, finM_nrm, decide_true, decide_false, List.nodup_nil, List.nodup_cons, oks_p, oks_m, oks_h, ne_eq, not_false_eq_true, Int.reduceEq, Int.reduceNe, true_and, Nat.reduceSub, Nat.reduceMul, ↓reduceIte, reduceCtorEq, Nat.reduceEqDiff, Nat.reduceAdd, Nat.reduceLeDiff, Int.reduceLE, cZ2, cZ8, cZ9]
          all_goals simp [qL, qJ, qJ0, qS, qX, qR, qM, Shp, sub, tupd, VS1, VS2, VS3, VS4, VS5, VS6, VT1, VT2, V81]
        · replace h := cond_f cZ9 h
          refine Or.elim (bt (sZ1 == 0)) (fun cZ10 => ?_) (fun cZ10 => ?_)
          · replace h := cond_t cZ10 h
            cases h
            try simp only [VS1, VS2, VS3, VS4, VS5, VS6, VT1, VT2, finM_ret, finM_nrm, decide_true, decide_false, List.nodup_nil, List.nodup_cons, oks_p, oks_m, oks_h, ne_eq, not_false_eq_true, Int.reduceEq, Int.reduceNe, true_and, Nat.reduceSub, Nat.reduceMul, ↓reduceIte, reduceCtorEq, Nat.reduceEqDiff, Nat.reduceAdd, Nat.reduceLeDiff, Int.reduceLE, cZ2, cZ8, cZ9, cZ10]
            all_goals simp [qL, qJ, qJ0, qS, qX, qR, qM, Shp, sub, tupd, VS1, VS2, VS3, VS4, VS5, VS6, VT1, VT2, V81]
          · replace h := cond_f cZ10 h
            cases h
            try simp only [VS1, VS2, VS3, VS4, VS5, VS6, VT1, VT2, finM_ret, finM_nrm, decide_true, decide_false, List.nodup_nil, List.nodup_cons, oks_p, oks_m, oks_h, ne_eq, not_false_eq_true, Int.reduceEq, Int.reduceNe, true_and, Nat.reduceSub, Nat.reduceMul, ↓reduceIte, reduceCtorEq, Nat.reduceEqDiff, Nat.reduceAdd, Nat.reduceLeDiff, Int.reduceLE, cZ2, cZ8, cZ9, cZ10]
            all_goals simp [qL, qJ, qJ0, qS, qX, qR, qM, Shp, sub, tupd, VS1, VS2, VS3, VS4, VS5, VS6, VT1, VT2, S_impl_isNameL1, SX_impl_isNameL1]
      · replace h := cond_f cZ8 h
        cases h
        try simp only [VS1, VS2, VS3, VS4, VS5, VS6, VT1, VT2, finM_ret, finM_nrm, decide_true, decide_false, List.nodup_nil, List.nodup_cons, oks_p, oks_m, oks_h, ne_eq, not_false_eq_true, Int.reduceEq, Int.reduceNe, true_and, Nat.reduceSub, Nat.reduceMul, ↓reduceIte, reduceCtorEq, Nat.reduceEqDiff, Nat.reduceAdd, Nat.reduceLeDiff, Int.reduceLE, cZ2, cZ8]
        all_goals simp [qL, qJ, qJ0, qS, qX, qR, qM, Shp, sub, tupd, VS1, VS2, VS3, VS4, VS5, VS6, VT1, VT2, S_impl_isNameL1, SX_impl_isNameL1]
  · replace h := cond_f cZ2 h
    cases h
    try simp only [VS1, VS2, VS3, VS4, VS5, VS6, VT1, VT2, finM_ret, finM_nrm, decide_true, decide_false, List.nodup_nil, List.nodup_cons, oks_p, oks_m, oks_h, ne_eq, not_false_eq_true, Int.reduceEq, Int.reduceNe, true_and, Nat.reduceSub, Nat.reduceMul, ↓reduceIte, reduceCtorEq, Nat.reduceEqDiff, Nat.reduceAdd, Nat.reduceLeDiff, Int.reduceLE, cZ2]
    all_goals simp [qL, qJ, qJ0, qS, qX, qR, qM, Shp, sub, tupd, VS1, VS2, VS3, VS4, VS5, VS6, VT1, VT2, S_impl_isNameL1, SX_impl_isNameL1]
theorem w_impl_isName (sZ0 : ByteArray) {r : Bool} (h : M_impl_isName sZ0 = some r) : Ok Try.prog 81 [.z sZ0] ((fun r => .b r) r) := by
  refine ok_of_body hmix m81 rfl ?_
  unfold M_impl_isName at h
  simp only [A81, V81, body_eq]
  obtain ⟨oZ11, hoZ11, h⟩ := bind_s h
  try simp only [VS1, VS2, VS3, VS4, VS5, VS6, VT1, VT2, finM_ret, finM_nrm, decide_true, decide_false, List.nodup_nil, List.nodup_cons, oks_p, oks_m, oks_h, ne_eq, not_false_eq_true, Int.reduceEq, Int.reduceNe, true_and, Nat.reduceSub, Nat.reduceMul, ↓reduceIte, reduceCtorEq, Nat.reduceEqDiff, Nat.reduceAdd, Nat.reduceLeDiff, Int.reduceLE]
  refine join_rule (o := oZ11) (blk_rule sideR (loop_rule (w_impl_isNameL1 sZ0) hoZ11 ?_)) (fun vZ12 hv => ?_) (fun xZ13 hv e τ hne hq => ?_)
  · all_goals simp [qL, qJ, qJ0, qS, qX, qR, qM, Shp, sub, tupd, VS1, VS2, VS3, VS4, VS5, VS6, VT1, VT2, S_impl_isNameL1, SX_impl_isNameL1]
  · subst hv
    simp only [] at h
    simp only [SX_impl_isNameL1, A81R3]
    obtain ⟨rZ14, hrZ14, h⟩ := bind_s h
    simp only [VS1, VS2, VS3, VS4, VS5, VS6, VT1, VT2, finM_ret, finM_nrm, decide_true, decide_false, List.nodup_nil, List.nodup_cons, oks_p, oks_m, oks_h, ne_eq, not_false_eq_true, Int.reduceEq, Int.reduceNe, true_and, Nat.reduceSub, Nat.reduceMul, ↓reduceIte, reduceCtorEq, Nat.reduceEqDiff, Nat.reduceAdd, Nat.reduceLeDiff, Int.reduceLE]
    refine call_s (by simp only [VS1, VS2, VS3, VS4, VS5, VS6, VT1, VT2, finM_ret, finM_nrm, decide_true, decide_false, List.nodup_nil, List.nodup_cons, oks_p, oks_m, oks_h, ne_eq, not_false_eq_true, Int.reduceEq, Int.reduceNe, true_and, Nat.reduceSub, Nat.reduceMul, ↓reduceIte, reduceCtorEq, Nat.reduceEqDiff, Nat.reduceAdd, Nat.reduceLeDiff, Int.reduceLE]; exact w_impl_within _ _ _ hrZ14 ) ?_
    simp only [VA, VF1, ↓reduceIte, Nat.reduceEqDiff, Nat.reduceAdd, Nat.reduceMul, Nat.reduceSub, Nat.reduceLeDiff]
    cases h
    try simp only [VS1, VS2, VS3, VS4, VS5, VS6, VT1, VT2, finM_ret, finM_nrm, decide_true, decide_false, List.nodup_nil, List.nodup_cons, oks_p, oks_m, oks_h, ne_eq, not_false_eq_true, Int.reduceEq, Int.reduceNe, true_and, Nat.reduceSub, Nat.reduceMul, ↓reduceIte, reduceCtorEq, Nat.reduceEqDiff, Nat.reduceAdd, Nat.reduceLeDiff, Int.reduceLE]
    all_goals simp [qL, qJ, qJ0, qS, qX, qR, qM, Shp, sub, tupd, VS1, VS2, VS3, VS4, VS5, VS6, VT1, VT2, V81]
  · subst hv
    simp only [] at h
    obtain ⟨rfl, qZ15⟩ := hq
    cases h
    exact qZ15
def S_slices_Index_Lstring_stringL1 (sZ0 : List ByteArray) (vZ0 : ByteArray) (v : Int) : St := ⟨[(0, .lst .o 1 (sZ0.map AV.z)), (1, .z vZ0), (7, .i (sZ0.length : Int)), (8, .i v)], []⟩
def SX_slices_Index_Lstring_stringL1 (v : Unit) : St := ⟨[], []⟩
theorem w_slices_Index_Lstring_stringL1 (sZ0 : List ByteArray) (vZ0 : ByteArray) (sZ1 : Int) (o : Int ⊕ (Unit ⊕ Int)) (h : M_slices_Index_Lstring_stringL1 sZ0 vZ0 sZ1 = some o) : AWP (OkS Try.prog) A109L1 (qL [0, 1, 7, 8] [] (S_slices_Index_Lstring_stringL1 sZ0 vZ0) (qS (qX 0 [] [] (SX_slices_Index_Lstring_stringL1)) (qR V109 (fun r => .i r))) o) (S_slices_Index_Lstring_stringL1 sZ0 vZ0 sZ1) := by
  unfold M_slices_Index_Lstring_stringL1 at h
  simp only [S_slices_Index_Lstring_stringL1, A109L1]
  refine Or.elim (bt (decide (sZ1 < (sZ0.length : Int)))) (fun cZ2 => ?_) (fun cZ2 => ?_)
  · replace h := cond_t cZ2 h
    obtain ⟨yZ3, hyZ3, h⟩ := bind_s h
    obtain ⟨hyZ3a, hyZ3b⟩ := geti_s hyZ3
    refine Or.elim (bt (vZ0.toList == yZ3.toList)) (fun cZ4 => ?_) (fun cZ4 => ?_)
    · replace h := cond_t cZ4 h
      cases h
      try simp only [VS1, VS2, VS3, VS4, VS5, VS6, VT1, VT2, finM_ret, finM_nrm, decide_true, decide_false, List.nodup_nil, List.nodup_cons, oks_p, oks_m, oks_h, ne_eq, not_false_eq_true, Int.reduceEq, Int.reduceNe, true_and, Nat.reduceSub, Nat.reduceMul, ↓reduceIte, reduceCtorEq, Nat.reduceEqDiff, Nat.reduceAdd, Nat.reduceLeDiff, Int.reduceLE, cZ2, hyZ3a, hyZ3b, cZ4]
      all_goals simp [qL, qJ, qJ0, qS, qX, qR, qM, Shp, sub, tupd, VS1, VS2, VS3, VS4, VS5, VS6, VT1, VT2, V109]
    · replace h := cond_f cZ4 h
      cases h
      try simp only [VS1, VS2, VS3, VS4, VS5, VS6, VT1, VT2, finM_ret, finM_nrm, decide_true, decide_false, List.nodup_nil, List.nodup_cons, oks_p, oks_m, oks_h, ne_eq, not_false_eq_true, Int.reduceEq, Int.reduceNe, true_and, Nat.reduceSub, Nat.reduceMul, ↓reduceIte, reduceCtorEq, Nat.reduceEqDiff, Nat.reduceAdd, Nat.reduceLeDiff, Int.reduceLE, cZ2, hyZ3a, hyZ3b, cZ4]
      all_goals simp [qL, qJ, qJ0, qS, qX, qR, qM, Shp, sub, tupd, VS1, VS2, VS3, VS4, VS5, VS6, VT1, VT2, S_slices_Index_Lstring_stringL1, SX_slices_Index_Lstring_stringL1]
  · replace h := cond_f cZ2 h
    cases h
    try simp only [VS1, VS2, VS3, VS4, VS5, VS6, VT1, VT2, finM_ret, finM_nrm, decide_true, decide_false, List.nodup_nil, List.nodup_cons, oks_p, oks_m, oks_h, ne_eq, not_false_eq_true, Int.reduceEq, Int.reduceNe, true_and, Nat.reduceSub, Nat.reduceMul, ↓reduceIte, reduceCtorEq, Nat.reduceEqDiff, Nat.reduceAdd, Nat.reduceLeDiff, Int.reduceLE, cZ2]
    all_goals simp [qL, qJ, qJ0, qS, qX, qR, qM, Shp, sub, tupd, VS1, VS2, VS3, VS4, VS5, VS6, VT1, VT2, S_slices_Index_Lstring_stringL1, SX_slices_Index_Lstring_stringL1]
theorem w_slices_Index_Lstring_string (sZ0 : List ByteArray) (vZ0 : ByteArray) {r : Int} (h : M_slices_Index_Lstring_string sZ0 vZ0 = some r) : Ok Try.prog 109 [.lst .o 1 (sZ0.map AV.z), .z vZ0] ((fun r => .i r) r) := by
  refine ok_of_body hmix m109 rfl ?_
  unfold M_slices_Index_Lstring_string at h
  simp only [A109, V109, body_eq]
  obtain ⟨oZ5, hoZ5, h⟩ := bind_s h
  try simp only [VS1, VS2, VS3, VS4, VS5, VS6, VT1, VT2, finM_ret, finM_nrm, decide_true, decide_false, List.nodup_nil, List.nodup_cons, oks_p, oks_m, oks_h, ne_eq, not_false_eq_true, Int.reduceEq, Int.reduceNe, true_and, Nat.reduceSub, Nat.reduceMul, ↓reduceIte, reduceCtorEq, Nat.reduceEqDiff, Nat.reduceAdd, Nat.reduceLeDiff, Int.reduceLE]
  refine join_rule (o := oZ5) (blk_rule sideR (loop_rule (w_slices_Index_Lstring_stringL1 sZ0 vZ0) hoZ5 ?_)) (fun vZ6 hv => ?_) (fun xZ7 hv e τ hne hq => ?_)
  · all_goals simp [qL, qJ, qJ0, qS, qX, qR, qM, Shp, sub, tupd, VS1, VS2, VS3, VS4, VS5, VS6, VT1, VT2, S_slices_Index_Lstring_stringL1, SX_slices_Index_Lstring_stringL1]
  · subst hv
    simp only [] at h
    simp only [SX_slices_Index_Lstring_stringL1, A109R2]
    cases h
    try simp only [VS1, VS2, VS3, VS4, VS5, VS6, VT1, VT2, finM_ret, finM_nrm, decide_true, decide_false, List.nodup_nil, List.nodup_cons, oks_p, oks_m, oks_h, ne_eq, not_false_eq_true, Int.reduceEq, Int.reduceNe, true_and, Nat.reduceSub, Nat.reduceMul, ↓reduceIte, reduceCtorEq, Nat.reduceEqDiff, Nat.reduceAdd, Nat.reduceLeDiff, Int.reduceLE]
    all_goals simp [qL, qJ, qJ0, qS, qX, qR, qM, Shp, sub, tupd, VS1, VS2, VS3, VS4, VS5, VS6, VT1, VT2, V109]
  · subst hv
    simp only [] at h
    obtain ⟨rfl, qZ8⟩ := hq
    cases h
    exact qZ8
theorem w_slices_Contains_Lstring_string (sZ0 : List ByteArray) (vZ0 : ByteArray) {r : Bool} (h : M_slices_Contains_Lstring_string sZ0 vZ0 = some r) : Ok Try.prog 82 [.lst .o 1 (sZ0.map AV.z), .z vZ0] ((fun r => .b r) r) := by
  refine ok_of_body hmix m82 rfl ?_
  unfold M_slices_Contains_Lstring_string at h
  simp only [A82, V82, body_eq]
  obtain ⟨rZ1, hrZ1, h⟩ := bind_s h
  simp only [VS1, VS2, VS3, VS4, VS5, VS6, VT1, VT2, finM_ret, finM_nrm, decide_true, decide_false, List.nodup_nil, List.nodup_cons, oks_p, oks_m, oks_h, ne_eq, not_false_eq_true, Int.reduceEq, Int.reduceNe, true_and, Nat.reduceSub, Nat.reduceMul, ↓reduceIte, reduceCtorEq, Nat.reduceEqDiff, Nat.reduceAdd, Nat.reduceLeDiff, Int.reduceLE]
  refine call_s (by simp only [VS1, VS2, VS3, VS4, VS5, VS6, VT1, VT2, finM_ret, finM_nrm, decide_true, decide_false, List.nodup_nil, List.nodup_cons, oks_p, oks_m, oks_h, ne_eq, not_false_eq_true, Int.reduceEq, Int.reduceNe, true_and, Nat.reduceSub, Nat.reduceMul, ↓reduceIte, reduceCtorEq, Nat.reduceEqDiff, Nat.reduceAdd, Nat.reduceLeDiff, Int.reduceLE]; exact w_slices_Index_Lstring_string _ _ hrZ1 ) ?_
  simp only [VA, VF1, ↓reduceIte, Nat.reduceEqDiff, Nat.reduceAdd, Nat.reduceMul, Nat.reduceSub, Nat.reduceLeDiff]
  cases h
  try simp only [VS1, VS2, VS3, VS4, VS5, VS6, VT1, VT2, finM_ret, finM_nrm, decide_true, decide_false, List.nodup_nil, List.nodup_cons, oks_p, oks_m, oks_h, ne_eq, not_false_eq_true, Int.reduceEq, Int.reduceNe, true_and, Nat.reduceSub, Nat.reduceMul, ↓reduceIte, reduceCtorEq, Nat.reduceEqDiff, Nat.reduceAdd, Nat.reduceLeDiff, Int.reduceLE]
  all_goals simp [qL, qJ, qJ0, qS, qX, qR, qM, Shp, sub, tupd, VS1, VS2, VS3, VS4, VS5, VS6, VT1, VT2, V82]
theorem w_cmp_isNaN_int (xZ0 : Int) {r : Bool} (h : M_cmp_isNaN_int xZ0 = some r) : Ok Try.prog 114 [.i xZ0] ((fun r => .b r) r) := by
  refine ok_of_body hmix m114 rfl ?_
  unfold M_cmp_isNaN_int at h
  simp only [A114, V114, body_eq]
  cases h
  try simp only [VS1, VS2, VS3, VS4, VS5, VS6, VT1, VT2, finM_ret, finM_nrm, decide_true, decide_false, List.nodup_nil, List.nodup_cons, oks_p, oks_m, oks_h, ne_eq, not_false_eq_true, Int.reduceEq, Int.reduceNe, true_and, Nat.reduceSub, Nat.reduceMul, ↓reduceIte, reduceCtorEq, Nat.reduceEqDiff, Nat.reduceAdd, Nat.reduceLeDiff, Int.reduceLE]
  all_goals simp [qL, qJ, qJ0, qS, qX, qR, qM, Shp, sub, tupd, VS1, VS2, VS3, VS4, VS5, VS6, VT1, VT2, V114]
theorem w_cmp_Compare_int (xZ0 : Int) (yZ0 : Int) {r : Int} (h : M_cmp_Compare_int xZ0 yZ0 = some r) : Ok Try.prog 98 [.i xZ0, .i yZ0] ((fun r => .i r) r) := by
  refine ok_of_body hmix m98 rfl ?_
  unfold M_cmp_Compare_int at h
  simp only [A98, V98, body_eq]
  obtain ⟨rZ1, hrZ1, h⟩ := bind_s h
  simp only [VS1, VS2, VS3, VS4, VS5, VS6, VT1, VT2, finM_ret, finM_nrm, decide_true, decide_false, List.nodup_nil, List.nodup_cons, oks_p, oks_m, oks_h, ne_eq, not_false_eq_true, Int.reduceEq, Int.reduceNe, true_and, Nat.reduceSub, Nat.reduceMul, ↓reduceIte, reduceCtorEq, Nat.reduceEqDiff, Nat.reduceAdd, Nat.reduceLeDiff, Int.reduceLE]
  refine call_s (by simp only [VS1, VS2, VS3, VS4, VS5, VS6, VT1, VT2, finM_ret, finM_nrm, decide_true, decide_false, List.nodup_nil, List.nodup_cons, oks_p, oks_m, oks_h, ne_eq, not_false_eq_true, Int.reduceEq, Int.reduceNe, true_and, Nat.reduceSub, Nat.reduceMul, ↓reduceIte, reduceCtorEq, Nat.reduceEqDiff, Nat.reduceAdd, Nat.reduceLeDiff, Int.reduceLE]; exact w_cmp_isNaN_int _ hrZ1 ) ?_
  simp only [VA, VF1, ↓reduceIte, Nat.reduceEqDiff, Nat.reduceAdd, Nat.reduceMul, Nat.reduceSub, Nat.reduceLeDiff]
  obtain ⟨rZ2, hrZ2, h⟩ := bind_s h
  simp only [VS1, VS2, VS3, VS4, VS5, VS6, VT1, VT2, finM_ret, finM_nrm, decide_true, decide_false, List.nodup_nil, List.nodup_cons, oks_p, oks_m, oks_h, ne_eq, not_false_eq_true, Int.reduceEq, Int.reduceNe, true_and, Nat.reduceSub, Nat.reduceMul, ↓reduceIte, reduceCtorEq, Nat.reduceEqDiff, Nat.reduceAdd, Nat.reduceLeDiff, Int.reduceLE]
  refine call_s (by simp only [VS1, VS2, VS3, VS4, VS5, VS6, VT1, VT2, finM_ret, finM_nrm, decide_true, decide_false, List.nodup_nil, List.nodup_cons, oks_p, oks_m, oks_h, ne_eq, not_false_eq_true, Int.reduceEq, Int.reduceNe, true_and, Nat.reduceSub, Nat.reduceMul, ↓reduceIte, reduceCtorEq, Nat.reduceEqDiff, Nat.reduceAdd, Nat.reduceLeDiff, Int.reduceLE]; exact w_cmp_isNaN_int _ hrZ2 ) ?_
  simp only [VA, VF1, ↓reduceIte, Nat.reduceEqDiff, Nat.reduceAdd, Nat.reduceMul, Nat.reduceSub, Nat.reduceLeDiff]
  refine Or.elim (bt (rZ1)) (fun cZ3 => ?_) (fun cZ3 => ?_)
  · replace h := cond_t cZ3 h
    refine Or.elim (bt (rZ2)) (fun cZ4 => ?_) (fun cZ4 => ?_)
    · replace h := cond_t cZ4 h
      cases h
      try simp only [VS1, VS2, VS3, VS4, VS5, VS6, VT1, VT2, finM_ret, finM_nrm, decide_true, decide_false, List.nodup_nil, List.nodup_cons, oks_p, oks_m, oks_h, ne_eq, not_false_eq_true, Int.reduceEq, Int.reduceNe, true_and, Nat.reduceSub, Nat.reduceMul, ↓reduceIte, reduceCtorEq, Nat.reduceEqDiff, Nat.reduceAdd, Nat.reduceLeDiff, Int.reduceLE, cZ3, cZ4]
      all_goals simp [qL, qJ, qJ0, qS, qX, qR, qM, Shp, sub, tupd, VS1, VS2, VS3, VS4, VS5, VS6, VT1, VT2, V98]
    · replace h := cond_f cZ4 h
      cases h
      try simp only [VS1, VS2, VS3, VS4, VS5, VS6, VT1, VT2, finM_ret, finM_nrm, decide_true, decide_false, List.nodup_nil, List.nodup_cons, oks_p, oks_m, oks_h, ne_eq, not_false_eq_true, Int.reduceEq, Int.reduceNe, true_and, Nat.reduceSub, Nat.reduceMul, ↓reduceIte, reduceCtorEq, Nat.reduceEqDiff, Nat.reduceAdd, Nat.reduceLeDiff, Int.reduceLE, cZ3, cZ4]
      all_goals simp [qL, qJ, qJ0, qS, qX, qR, qM, Shp, sub, tupd, VS1, VS2, VS3, VS4, VS5, VS6, VT1, VT2, V98]
  · replace h := cond_f cZ3 h
    refine Or.elim (bt (rZ2)) (fun cZ5 => ?_) (fun cZ5 => ?_)
    · replace h := cond_t cZ5 h
      cases h
      try simp only [VS1, VS2, VS3, VS4, VS5, VS6, VT1, VT2, finM_ret, finM_nrm, decide_true, decide_false, List.nodup_nil, List.nodup_cons, oks_p, oks_m, oks_h, ne_eq, not_false_eq_true, Int.reduceEq, Int.reduceNe, true_and, Nat.reduceSub, Nat.reduceMul, ↓reduceIte, reduceCtorEq, Nat.reduceEqDiff, Nat.reduceAdd, Nat.reduceLeDiff, Int.reduceLE, cZ3, cZ5]
      all_goals simp [qL, qJ, qJ0, qS, qX, qR, qM, Shp, sub, tupd, VS1, VS2, VS3, VS4, VS5, VS6, VT1, VT2, V98]
    · replace h := cond_f cZ5 h
      refine Or.elim (bt (decide (xZ0 < yZ0))) (fun cZ6 => ?_) (fun cZ6 => ?_)
      · replace h := cond_t cZ6 h
        cases h
        try simp only [VS1, VS2, VS3, VS4, VS5, VS6, VT1, VT2, finM_ret, finM_nrm, decide_true, decide_false, List.nodup_nil, List.nodup_cons, oks_p, oks_m, oks_h, ne_eq, not_false_eq_true, Int.reduceEq, Int.reduceNe, true_and, Nat.reduceSub, Nat.reduceMul, ↓reduceIte, reduceCtorEq, Nat.reduceEqDiff, Nat.reduceAdd, Nat.reduceLeDiff, Int.reduceLE, cZ3, cZ5, cZ6]
        all_goals simp [qL, qJ, qJ0, qS, qX, qR, qM, Shp, sub, tupd, VS1, VS2, VS3, VS4, VS5, VS6, VT1, VT2, V98]
      · replace h := cond_f cZ6 h
        refine Or.elim (bt (decide (yZ0 < xZ0))) (fun cZ7 => ?_) (fun cZ7 => ?_)
        · replace h := cond_t cZ7 h
          cases h
          try simp only [VS1, VS2, VS3, VS4, VS5, VS6, VT1, VT2, finM_ret, finM_nrm, decide_true, decide_false, List.nodup_nil, List.nodup_cons, oks_p, oks_m, oks_h, ne_eq, not_false_eq_true, Int.reduceEq, Int.reduceNe, true_and, Nat.reduceSub, Nat.reduceMul, ↓reduceIte, reduceCtorEq, Nat.reduceEqDiff, Nat.reduceAdd, Nat.reduceLeDiff, Int.reduceLE, cZ3, cZ5, cZ6, cZ7]
          all_goals simp [qL, qJ, qJ0, qS, qX, qR, qM, Shp, sub, tupd, VS1, VS2, VS3, VS4, VS5, VS6, VT1, VT2, V98]
        · replace h := cond_f cZ7 h
          cases h
          try simp only [VS1, VS2, VS3, VS4, VS5, VS6, VT1, VT2, finM_ret, finM_nrm, decide_true, decide_false, List.nodup_nil, List.nodup_cons, oks_p, oks_m, oks_h, ne_eq, not_false_eq_true, Int.reduceEq, Int.reduceNe, true_and, Nat.reduceSub, Nat.reduceMul, ↓reduceIte, reduceCtorEq, Nat.reduceEqDiff, Nat.reduceAdd, Nat.reduceLeDiff, Int.reduceLE, cZ3, cZ5, cZ6, cZ7]
          all_goals simp [qL, qJ, qJ0, qS, qX, qR, qM, Shp, sub, tupd, VS1, VS2, VS3, VS4, VS5, VS6, VT1, VT2, V98]
def S_cmp_Or_intL1 (valsZ0 : List Int) (v : Int) : St := ⟨[(3, .i 0), (6, .lst .o 1 (valsZ0.map AV.i)), (7, .i (valsZ0.length : Int)), (8, .i v)], []⟩
def SX_cmp_Or_intL1 (v : Unit) : St := ⟨[(3, .i 0)], []⟩
theorem w_cmp_Or_intL1 (valsZ0 : List Int) (sZ1 : Int) (o : Int ⊕ (Unit ⊕ Int)) (h : M_cmp_Or_intL1 valsZ0 sZ1 = some o) : AWP (OkS Try.prog) A97L1 (qL [3, 6, 7, 8] [] (S_cmp_Or_intL1 valsZ0) (qS (qX 0 [3] [] (SX_cmp_Or_intL1)) (qR V97 (fun r => .i r))) o) (S_cmp_Or_intL1 valsZ0 sZ1) := by
  unfold M_cmp_Or_intL1 at h
  simp only [S_cmp_Or_intL1, A97L1]
  refine Or.elim (bt (decide (sZ1 < (valsZ0.length : Int)))) (fun cZ2 => ?_) (fun cZ2 => ?_)
  · replace h := cond_t cZ2 h
    obtain ⟨yZ3, hyZ3, h⟩ := bind_s h
    obtain ⟨hyZ3a, hyZ3b⟩ := geti_s hyZ3
    refine Or.elim (bt (yZ3 != 0)) (fun cZ4 => ?_) (fun cZ4 => ?_)
    · replace h := cond_t cZ4 h
      cases h
      try simp only [VS1, VS2, VS3, VS4, VS5, VS6, VT1, VT2, finM_ret, finM_nrm, decide_true, decide_false, List.nodup_nil, List.nodup_cons, oks_p, oks_m, oks_h, ne_eq, not_false_eq_true, Int.reduceEq, Int.reduceNe, true_and, Nat.reduceSub, Nat.reduceMul, ↓reduceIte, reduceCtorEq, Nat.reduceEqDiff, Nat.reduceAdd, Nat.reduceLeDiff, Int.reduceLE, cZ2, hyZ3a, hyZ3b, cZ4]
      all_goals simp [qL, qJ, qJ0, qS, qX, qR, qM, Shp, sub, tupd, VS1, VS2, VS3, VS4, VS5, VS6, VT1, VT2, V97]
    · replace h := cond_f cZ4 h
      cases h
      try simp only [VS1, VS2, VS3, VS4, VS5, VS6, VT1, VT2, finM_ret, finM_nrm, decide_true, decide_false, List.nodup_nil, List.nodup_cons, oks_p, oks_m, oks_h, ne_eq, not_false_eq_true, Int.reduceEq, Int.reduceNe, true_and, Nat.reduceSub, Nat.reduceMul, ↓reduceIte, reduceCtorEq, Nat.reduceEqDiff, Nat.reduceAdd, Nat.reduceLeDiff, Int.reduceLE, cZ2, hyZ3a, hyZ3b, cZ4]
      all_goals simp [qL, qJ, qJ0, qS, qX, qR, qM, Shp, sub, tupd, VS1, VS2, VS3, VS4, VS5, VS6, VT1, VT2, S_cmp_Or_intL1, SX_cmp_Or_intL1]
  · replace h := cond_f cZ2 h
    cases h
    try simp only [VS1, VS2, VS3, VS4, VS5, VS6, VT1, VT2, finM_ret, finM_nrm, decide_true, decide_false, List.nodup_nil, List.nodup_cons, oks_p, oks_m, oks_h, ne_eq, not_false_eq_true, Int.reduceEq, Int.reduceNe, true_and, Nat.reduceSub, Nat.reduceMul, ↓reduceIte, reduceCtorEq, Nat.reduceEqDiff, Nat.reduceAdd, Nat.reduceLeDiff, Int.reduceLE, cZ2]
    all_goals simp [qL, qJ, qJ0, qS, qX, qR, qM, Shp, sub, tupd, VS1, VS2, VS3, VS4, VS5, VS6, VT1, VT2, S_cmp_Or_intL1, SX_cmp_Or_intL1]
theorem w_cmp_Or_int (valsZ0 : List Int) {r : Int} (h : M_cmp_Or_int valsZ0 = some r) : Ok Try.prog 97 [.lst .o 1 (valsZ0.map AV.i)] ((fun r => .i r) r) := by
  refine ok_of_body hmix m97 rfl ?_
  unfold M_cmp_Or_int at h
  simp only [A97, V97, body_eq]
  obtain ⟨oZ5, hoZ5, h⟩ := bind_s h
  try simp only [VS1, VS2, VS3, VS4, VS5, VS6, VT1, VT2, finM_ret, finM_nrm, decide_true, decide_false, List.nodup_nil, List.nodup_cons, oks_p, oks_m, oks_h, ne_eq, not_false_eq_true, Int.reduceEq, Int.reduceNe, true_and, Nat.reduceSub, Nat.reduceMul, ↓reduceIte, reduceCtorEq, Nat.reduceEqDiff, Nat.reduceAdd, Nat.reduceLeDiff, Int.reduceLE]
  refine join_rule (o := oZ5) (blk_rule sideR (loop_rule (w_cmp_Or_intL1 valsZ0) hoZ5 ?_)) (fun vZ6 hv => ?_) (fun xZ7 hv e τ hne hq => ?_)
  · all_goals simp [qL, qJ, qJ0, qS, qX, qR, qM, Shp, sub, tupd, VS1, VS2, VS3, VS4, VS5, VS6, VT1, VT2, S_cmp_Or_intL1, SX_cmp_Or_intL1]
  · subst hv
    simp only [] at h
    simp only [SX_cmp_Or_intL1, A97R2]
    cases h
    try simp only [VS1, VS2, VS3, VS4, VS5, VS6, VT1, VT2, finM_ret, finM_nrm, decide_true, decide_false, List.nodup_nil, List.nodup_cons, oks_p, oks_m, oks_h, ne_eq, not_false_eq_true, Int.reduceEq, Int.reduceNe, true_and, Nat.reduceSub, Nat.reduceMul, ↓reduceIte, reduceCtorEq, Nat.reduceEqDiff, Nat.reduceAdd, Nat.reduceLeDiff, Int.reduceLE]
    all_goals simp [qL, qJ, qJ0, qS, qX, qR, qM, Shp, sub, tupd, VS1, VS2, VS3, VS4, VS5, VS6, VT1, VT2, V97]
  · subst hv
    simp only [] at h
    obtain ⟨rfl, qZ8⟩ := hq
    cases h
    exact qZ8
theorem w_impl_compareFibers (aZ0 : TFiber) (bZ0 : TFiber) {r : Int} (h : M_impl_compareFibers aZ0 bZ0 = some r) : Ok Try.prog 83 [.agg [.i aZ0.A, .i aZ0.B, .i aZ0.Length, .i aZ0.Risk], .agg [.i bZ0.A, .i bZ0.B, .i bZ0.Length, .i bZ0.Risk]] ((fun r => .i r) r) := by
  refine ok_of_body hmix m83 rfl ?_
  unfold M_impl_compareFibers at h
  simp only [A83, V83, body_eq]
  obtain ⟨rZ1, hrZ1, h⟩ := bind_s h
  simp only [VS1, VS2, VS3, VS4, VS5, VS6, VT1, VT2, finM_ret, finM_nrm, decide_true, decide_false, List.nodup_nil, List.nodup_cons, oks_p, oks_m, oks_h, ne_eq, not_false_eq_true, Int.reduceEq, Int.reduceNe, true_and, Nat.reduceSub, Nat.reduceMul, ↓reduceIte, reduceCtorEq, Nat.reduceEqDiff, Nat.reduceAdd, Nat.reduceLeDiff, Int.reduceLE]
  refine call_s (by simp only [VS1, VS2, VS3, VS4, VS5, VS6, VT1, VT2, finM_ret, finM_nrm, decide_true, decide_false, List.nodup_nil, List.nodup_cons, oks_p, oks_m, oks_h, ne_eq, not_false_eq_true, Int.reduceEq, Int.reduceNe, true_and, Nat.reduceSub, Nat.reduceMul, ↓reduceIte, reduceCtorEq, Nat.reduceEqDiff, Nat.reduceAdd, Nat.reduceLeDiff, Int.reduceLE]; exact w_cmp_Compare_int _ _ hrZ1 ) ?_
  simp only [VA, VF1, ↓reduceIte, Nat.reduceEqDiff, Nat.reduceAdd, Nat.reduceMul, Nat.reduceSub, Nat.reduceLeDiff]
  obtain ⟨rZ2, hrZ2, h⟩ := bind_s h
  simp only [VS1, VS2, VS3, VS4, VS5, VS6, VT1, VT2, finM_ret, finM_nrm, decide_true, decide_false, List.nodup_nil, List.nodup_cons, oks_p, oks_m, oks_h, ne_eq, not_false_eq_true, Int.reduceEq, Int.reduceNe, true_and, Nat.reduceSub, Nat.reduceMul, ↓reduceIte, reduceCtorEq, Nat.reduceEqDiff, Nat.reduceAdd, Nat.reduceLeDiff, Int.reduceLE]
  refine call_s (by simp only [VS1, VS2, VS3, VS4, VS5, VS6, VT1, VT2, finM_ret, finM_nrm, decide_true, decide_false, List.nodup_nil, List.nodup_cons, oks_p, oks_m, oks_h, ne_eq, not_false_eq_true, Int.reduceEq, Int.reduceNe, true_and, Nat.reduceSub, Nat.reduceMul, ↓reduceIte, reduceCtorEq, Nat.reduceEqDiff, Nat.reduceAdd, Nat.reduceLeDiff, Int.reduceLE]; exact w_cmp_Compare_int _ _ hrZ2 ) ?_
  simp only [VA, VF1, ↓reduceIte, Nat.reduceEqDiff, Nat.reduceAdd, Nat.reduceMul, Nat.reduceSub, Nat.reduceLeDiff]
  obtain ⟨rZ3, hrZ3, h⟩ := bind_s h
  simp only [VS1, VS2, VS3, VS4, VS5, VS6, VT1, VT2, finM_ret, finM_nrm, decide_true, decide_false, List.nodup_nil, List.nodup_cons, oks_p, oks_m, oks_h, ne_eq, not_false_eq_true, Int.reduceEq, Int.reduceNe, true_and, Nat.reduceSub, Nat.reduceMul, ↓reduceIte, reduceCtorEq, Nat.reduceEqDiff, Nat.reduceAdd, Nat.reduceLeDiff, Int.reduceLE]
  refine call_s (by simp only [VS1, VS2, VS3, VS4, VS5, VS6, VT1, VT2, finM_ret, finM_nrm, decide_true, decide_false, List.nodup_nil, List.nodup_cons, oks_p, oks_m, oks_h, ne_eq, not_false_eq_true, Int.reduceEq, Int.reduceNe, true_and, Nat.reduceSub, Nat.reduceMul, ↓reduceIte, reduceCtorEq, Nat.reduceEqDiff, Nat.reduceAdd, Nat.reduceLeDiff, Int.reduceLE]; exact w_cmp_Compare_int _ _ hrZ3 ) ?_
  simp only [VA, VF1, ↓reduceIte, Nat.reduceEqDiff, Nat.reduceAdd, Nat.reduceMul, Nat.reduceSub, Nat.reduceLeDiff]
  obtain ⟨rZ4, hrZ4, h⟩ := bind_s h
  simp only [VS1, VS2, VS3, VS4, VS5, VS6, VT1, VT2, finM_ret, finM_nrm, decide_true, decide_false, List.nodup_nil, List.nodup_cons, oks_p, oks_m, oks_h, ne_eq, not_false_eq_true, Int.reduceEq, Int.reduceNe, true_and, Nat.reduceSub, Nat.reduceMul, ↓reduceIte, reduceCtorEq, Nat.reduceEqDiff, Nat.reduceAdd, Nat.reduceLeDiff, Int.reduceLE]
  refine call_s (by simp only [VS1, VS2, VS3, VS4, VS5, VS6, VT1, VT2, finM_ret, finM_nrm, decide_true, decide_false, List.nodup_nil, List.nodup_cons, oks_p, oks_m, oks_h, ne_eq, not_false_eq_true, Int.reduceEq, Int.reduceNe, true_and, Nat.reduceSub, Nat.reduceMul, ↓reduceIte, reduceCtorEq, Nat.reduceEqDiff, Nat.reduceAdd, Nat.reduceLeDiff, Int.reduceLE]; exact w_cmp_Compare_int _ _ hrZ4 ) ?_
  simp only [VA, VF1, ↓reduceIte, Nat.reduceEqDiff, Nat.reduceAdd, Nat.reduceMul, Nat.reduceSub, Nat.reduceLeDiff]
  obtain ⟨lZ5, hlZ5, h⟩ := bnd_s h
  have eZ6 : Row.arr 1 [(.i rZ1 : AV), (.i rZ2 : AV), (.i rZ3 : AV), (.i rZ4 : AV)] = Row.arr 1 (lZ5.map AV.i) := by rw [← hlZ5]; rfl
  have eZ7 : lZ5.length = 4 := by rw [← hlZ5]; rfl
  have nZ8 : sub (lZ5.map AV.i) 0 4 = lZ5.map AV.i := sub_n _ (by simp [← hlZ5])
  obtain ⟨rZ9, hrZ9, h⟩ := bind_s h
  simp only [VS1, VS2, VS3, VS4, VS5, VS6, VT1, VT2, finM_ret, finM_nrm, decide_true, decide_false, List.nodup_nil, List.nodup_cons, oks_p, oks_m, oks_h, ne_eq, not_false_eq_true, Int.reduceEq, Int.reduceNe, true_and, Nat.reduceSub, Nat.reduceMul, ↓reduceIte, reduceCtorEq, Nat.reduceEqDiff, Nat.reduceAdd, Nat.reduceLeDiff, Int.reduceLE, eZ6, eZ7, nZ8]
  refine call_s (by simp only [VS1, VS2, VS3, VS4, VS5, VS6, VT1, VT2, finM_ret, finM_nrm, decide_true, decide_false, List.nodup_nil, List.nodup_cons, oks_p, oks_m, oks_h, ne_eq, not_false_eq_true, Int.reduceEq, Int.reduceNe, true_and, Nat.reduceSub, Nat.reduceMul, ↓reduceIte, reduceCtorEq, Nat.reduceEqDiff, Nat.reduceAdd, Nat.reduceLeDiff, Int.reduceLE, eZ6, eZ7, nZ8]; exact w_cmp_Or_int _ hrZ9 ) ?_
  simp only [VA, VF1, ↓reduceIte, Nat.reduceEqDiff, Nat.reduceAdd, Nat.reduceMul, Nat.reduceSub, Nat.reduceLeDiff]
  cases h
  try simp only [VS1, VS2, VS3, VS4, VS5, VS6, VT1, VT2, finM_ret, finM_nrm, decide_true, decide_false, List.nodup_nil, List.nodup_cons, oks_p, oks_m, oks_h, ne_eq, not_false_eq_true, Int.reduceEq, Int.reduceNe, true_and, Nat.reduceSub, Nat.reduceMul, ↓reduceIte, reduceCtorEq, Nat.reduceEqDiff, Nat.reduceAdd, Nat.reduceLeDiff, Int.reduceLE, eZ6, eZ7, nZ8]
  all_goals simp [qL, qJ, qJ0, qS, qX, qR, qM, Shp, sub, tupd, VS1, VS2, VS3, VS4, VS5, VS6, VT1, VT2, V83, ← hlZ5]
def S_impl_IsValidNetworkL1 (nZ0 : TNetwork) (v : Int) : St := ⟨[(1, .pt 1 0 0), (8, .lst .o 1 (nZ0.Nodes.map AV.z)), (9, .i (nZ0.Nodes.length : Int)), (10, .i v)], [(1, .var (.agg [.lst .o 1 (nZ0.Nodes.map AV.z), .lst .o 4 (nZ0.Fibers.map (e_TFiber .o))]))]⟩
def SX_impl_IsValidNetworkL1 (nZ0 : TNetwork) (v : Unit) : St := ⟨[(1, .pt 1 0 0)], [(1, .var (.agg [.lst .o 1 (nZ0.Nodes.map AV.z), .lst .o 4 (nZ0.Fibers.map (e_TFiber .o))]))]⟩
theorem w_impl_IsValidNetworkL1 (nZ0 : TNetwork) (sZ1 : Int) (o : Int ⊕ (Unit ⊕ Bool)) (h : M_impl_IsValidNetworkL1 nZ0 sZ1 = some o) : AWP (OkS Try.prog) A47L1 (qL [1, 8, 9, 10] [1] (S_impl_IsValidNetworkL1 nZ0) (qS (qX 0 [1] [1] (SX_impl_IsValidNetworkL1 nZ0)) (qR V47 (fun r => .b r))) o) (S_impl_IsValidNetworkL1 nZ0 sZ1) := by
  unfold M_impl_IsValidNetworkL1 at h
  simp only [S_impl_IsValidNetworkL1, A47L1]
  refine Or.elim (bt (decide (sZ1 < (nZ0.Nodes.length : Int)))) (fun cZ2 => ?_) (fun cZ2 => ?_)
  · replace h := cond_t cZ2 h
    obtain ⟨yZ3, hyZ3, h⟩ := bind_s h
    obtain ⟨hyZ3a, hyZ3b⟩ := geti_s hyZ3
    obtain ⟨rZ4, hrZ4, h⟩ := bind_s h
    simp only [VS1, VS2, VS3, VS4, VS5, VS6, VT1, VT2, finM_ret, finM_nrm, decide_true, decide_false, List.nodup_nil, List.nodup_cons, oks_p, oks_m, oks_h, ne_eq, not_false_eq_true, Int.reduceEq, Int.reduceNe, true_and, Nat.reduceSub, Nat.reduceMul, ↓reduceIte, reduceCtorEq, Nat.reduceEqDiff, Nat.reduceAdd, Nat.reduceLeDiff, Int.reduceLE, cZ2, hyZ3a, hyZ3b]
    refine call_s (by simp only [VS1, VS2, VS3, VS4, VS5, VS6, VT1, VT2, finM_ret, finM_nrm, decide_true, decide_false, List.nodup_nil, List.nodup_cons, oks_p, oks_m, oks_h, ne_eq, not_false_eq_true, Int.reduceEq, Int.reduceNe, true_and, Nat.reduceSub, Nat.reduceMul, ↓reduceIte, reduceCtorEq, Nat.reduceEqDiff, Nat.reduceAdd, Nat.reduceLeDiff, Int.reduceLE, cZ2, hyZ3a, hyZ3b]; exact w_impl_isName _ hrZ4 ) ?_
    simp only [VA, VF1, ↓reduceIte, Nat.reduceEqDiff, Nat.reduceAdd, Nat.reduceMul, Nat.reduceSub, Nat.reduceLeDiff]
    refine Or.elim (bt (!rZ4)) (fun cZ5 => ?_) (fun cZ5 => ?_)
    · replace h := cond_t cZ5 h
      cases h
      try simp only [VS1, VS2, VS3, VS4, VS5, VS6, VT1, VT2, finM_ret, finM_nrm, decide_true, decide_false, List.nodup_nil, List.nodup_cons, oks_p, oks_m, oks_h, ne_eq, not_false_eq_true, Int.reduceEq, Int.reduceNe, true_and, Nat.reduceSub, Nat.reduceMul, ↓reduceIte, reduceCtorEq, Nat.reduceEqDiff, Nat.reduceAdd, Nat.reduceLeDiff, Int.reduceLE, cZ2, hyZ3a, hyZ3b, cZ5]
      all_goals simp [qL, qJ, qJ0, qS, qX, qR, qM, Shp, sub, tupd, VS1, VS2, VS3, VS4, VS5, VS6, VT1, VT2, V47]
    · replace h := cond_f cZ5 h
      obtain ⟨lZ6, hlZ6, h⟩ := bind_s h
      obtain ⟨hlZ6a, hlZ6b, hlZ6c, hlZ6d, hlZ6e⟩ := slT_s AV.z hlZ6
      obtain ⟨rZ7, hrZ7, h⟩ := bind_s h
      simp only [VS1, VS2, VS3, VS4, VS5, VS6, VT1, VT2, finM_ret, finM_nrm, decide_true, decide_false, List.nodup_nil, List.nodup_cons, oks_p, oks_m, oks_h, ne_eq, not_false_eq_true, Int.reduceEq, Int.reduceNe, true_and, Nat.reduceSub, Nat.reduceMul, ↓reduceIte, reduceCtorEq, Nat.reduceEqDiff, Nat.reduceAdd, Nat.reduceLeDiff, Int.reduceLE, cZ2, hyZ3a, hyZ3b, cZ5, hlZ6a, hlZ6b, hlZ6c, hlZ6d, hlZ6e]
      refine call_s (by simp only [VS1, VS2, VS3, VS4, VS5, VS6, VT1, VT2, finM_ret, finM_nrm, decide_true, decide_false, List.nodup_nil, List.nodup_cons, oks_p, oks_m, oks_h, ne_eq, not_false_eq_true, Int.reduceEq, Int.reduceNe, true_and, Nat.reduceSub, Nat.reduceMul, ↓reduceIte, reduceCtorEq, Nat.reduceEqDiff, Nat.reduceAdd, Nat.reduceLeDiff, Int.reduceLE, cZ2, hyZ3a, hyZ3b, cZ5, hlZ6a, hlZ6b, hlZ6c, hlZ6d, hlZ6e]; exact w_slices_Contains_Lstring_string _ _ hrZ7 ) ?_
      simp only [VA, VF1, ↓reduceIte, Nat.reduceEqDiff, Nat.reduceAdd, Nat.reduceMul, Nat.reduceSub, Nat.reduceLeDiff]
      refine Or.elim (bt (rZ7)) (fun cZ8 => ?_) (fun cZ8 => ?_)
      · replace h := cond_t cZ8 h
        cases h
        try simp only [VS1, VS2, VS3, VS4, VS5, VS6, VT1, VT2, finM_ret, finM_nrm, decide_true, decide_false, List.nodup_nil, List.nodup_cons, oks_p, oks_m, oks_h, ne_eq, not_false_eq_true, Int.reduceEq, Int.reduceNe, true_and, Nat.reduceSub, Nat.reduceMul, ↓reduceIte, reduceCtorEq, Nat.reduceEqDiff, Nat.reduceAdd, Nat.reduceLeDiff, Int.reduceLE, cZ2, hyZ3a, hyZ3b, cZ5, hlZ6a, hlZ6b, hlZ6c, hlZ6d, hlZ6e, cZ8]
        all_goals simp [qL, qJ, qJ0, qS, qX, qR, qM, Shp, sub, tupd, VS1, VS2, VS3, VS4, VS5, VS6, VT1, VT2, V47]
      · replace h := cond_f cZ8 h
        cases h
        try simp only [VS1, VS2, VS3, VS4, VS5, VS6, VT1, VT2, finM_ret, finM_nrm, decide_true, decide_false, List.nodup_nil, List.nodup_cons, oks_p, oks_m, oks_h, ne_eq, not_false_eq_true, Int.reduceEq, Int.reduceNe, true_and, Nat.reduceSub, Nat.reduceMul, ↓reduceIte, reduceCtorEq, Nat.reduceEqDiff, Nat.reduceAdd, Nat.reduceLeDiff, Int.reduceLE, cZ2, hyZ3a, hyZ3b, cZ5, hlZ6a, hlZ6b, hlZ6c, hlZ6d, hlZ6e, cZ8]
        all_goals simp [qL, qJ, qJ0, qS, qX, qR, qM, Shp, sub, tupd, VS1, VS2, VS3, VS4, VS5, VS6, VT1, VT2, S_impl_IsValidNetworkL1, SX_impl_IsValidNetworkL1]
  · replace h := cond_f cZ2 h
    cases h
    try simp only [VS1, VS2, VS3, VS4, VS5, VS6, VT1, VT2, finM_ret, finM_nrm, decide_true, decide_false, List.nodup_nil, List.nodup_cons, oks_p, oks_m, oks_h, ne_eq, not_false_eq_true, Int.reduceEq, Int.reduceNe, true_and, Nat.reduceSub, Nat.reduceMul, ↓reduceIte, reduceCtorEq, Nat.reduceEqDiff, Nat.reduceAdd, Nat.reduceLeDiff, Int.reduceLE, cZ2]
    all_goals simp [qL, qJ, qJ0, qS, qX, qR, qM, Shp, sub, tupd, VS1, VS2, VS3, VS4, VS5, VS6, VT1, VT2, S_impl_IsValidNetworkL1, SX_impl_IsValidNetworkL1]
def S_impl_IsValidNetworkL2 (nZ0 : TNetwork) (v : Int) : St := ⟨[(1, .pt 1 0 0), (28, .lst .o 4 (nZ0.Fibers.map (e_TFiber .o))), (29, .i (nZ0.Fibers.length : Int)), (30, .i v)], [(1, .var (.agg [.lst .o 1 (nZ0.Nodes.map AV.z), .lst .o 4 (nZ0.Fibers.map (e_TFiber .o))]))]⟩
def SX_impl_IsValidNetworkL2 (nZ0 : TNetwork) (v : Unit) : St := ⟨[(1, .pt 1 0 0)], [(1, .var (.agg [.lst .o 1 (nZ0.Nodes.map AV.z), .lst .o 4 (nZ0.Fibers.map (e_TFiber .o))]))]⟩
theorem w_impl_IsValidNetworkL2 (nZ0 : TNetwork) (sZ12 : Int) (o : Int ⊕ (Unit ⊕ Bool)) (h : M_impl_IsValidNetworkL2 nZ0 sZ12 = some o) : AWP (OkS Try.prog) A47L3 (qL [1, 28, 29, 30] [1] (S_impl_IsValidNetworkL2 nZ0) (qS (qX 2 [1] [1] (SX_impl_IsValidNetworkL2 nZ0)) (qR V47 (fun r => .b r))) o) (S_impl_IsValidNetworkL2 nZ0 sZ12) := by
  unfold M_impl_IsValidNetworkL2 at h
  simp only [S_impl_IsValidNetworkL2, A47L3]
  refine Or.elim (bt (decide (sZ12 < (nZ0.Fibers.length : Int)))) (fun cZ13 => ?_) (fun cZ13 => ?_)
  · replace h := cond_t cZ13 h
    obtain ⟨yZ14, hyZ14, h⟩ := bind_s h
    obtain ⟨hyZ14a, hyZ14b⟩ := geti_s hyZ14
    refine Or.elim (bt (decide (yZ14.A < 0))) (fun cZ15 => ?_) (fun cZ15 => ?_)
    · replace h := cond_t cZ15 h
      cases h
      try simp only [VS1, VS2, VS3, VS4, VS5, VS6, VT1, VT2, finM_ret, finM_nrm, decide_true, decide_false, List.nodup_nil, List.nodup_cons, oks_p, oks_m, oks_h, ne_eq, not_false_eq_true, Int.reduceEq, Int.reduceNe, true_and, Nat.reduceSub, Nat.reduceMul, ↓reduceIte, reduceCtorEq, Nat.reduceEqDiff, Nat.reduceAdd, Nat.reduceLeDiff, Int.reduceLE, cZ13, hyZ14a, hyZ14b, cZ15]
      all_goals simp [qL, qJ, qJ0, qS, qX, qR, qM, Shp, sub, tupd, VS1, VS2, VS3, VS4, VS5, VS6, VT1, VT2, V47]
    · replace h := cond_f cZ15 h
      refine Or.elim (bt (decide (yZ14.B ≤ yZ14.A))) (fun cZ16 => ?_) (fun cZ16 => ?_)
      · replace h := cond_t cZ16 h
        cases h
        try simp only [VS1, VS2, VS3, VS4, VS5, VS6, VT1, VT2, finM_ret, finM_nrm, decide_true, decide_false, List.nodup_nil, List.nodup_cons, oks_p, oks_m, oks_h, ne_eq, not_false_eq_true, Int.reduceEq, Int.reduceNe, true_and, Nat.reduceSub, Nat.reduceMul, ↓reduceIte, reduceCtorEq, Nat.reduceEqDiff, Nat.reduceAdd, Nat.reduceLeDiff, Int.reduceLE, cZ13, hyZ14a, hyZ14b, cZ15, cZ16]
        all_goals simp [qL, qJ, qJ0, qS, qX, qR, qM, Shp, sub, tupd, VS1, VS2, VS3, VS4, VS5, VS6, VT1, VT2, V47]
      · replace h := cond_f cZ16 h
        refine Or.elim (bt (decide ((nZ0.Nodes.length : Int) ≤ yZ14.B))) (fun cZ17 => ?_) (fun cZ17 => ?_)
        · replace h := cond_t cZ17 h
          cases h
          try simp only [VS1, VS2, VS3, VS4, VS5, VS6, VT1, VT2, finM_ret, finM_nrm, decide_true, decide_false, List.nodup_nil, List.nodup_cons, oks_p, oks_m, oks_h, ne_eq, not_false_eq_true, Int.reduceEq, Int.reduceNe, true_and, Nat.reduceSub, Nat.reduceMul, ↓reduceIte, reduceCtorEq, Nat.reduceEqDiff, Nat.reduceAdd, Nat.reduceLeDiff, Int.reduceLE, cZ13, hyZ14a, hyZ14b, cZ15, cZ16, cZ17]
          all_goals simp [qL, qJ, qJ0, qS, qX, qR, qM, Shp, sub, tupd, VS1, VS2, VS3, VS4, VS5, VS6, VT1, VT2, V47]
        · replace h := cond_f cZ17 h
          obtain ⟨rZ18, hrZ18, h⟩ := bind_s h
          simp only [VS1, VS2, VS3, VS4, VS5, VS6, VT1, VT2, finM_ret, finM_nrm, decide_true, decide_false, List.nodup_nil, List.nodup_cons, oks_p, oks_m, oks_h, ne_eq, not_false_eq_true, Int.reduceEq, Int.reduceNe, true_and, Nat.reduceSub, Nat.reduceMul, ↓reduceIte, reduceCtorEq, Nat.reduceEqDiff, Nat.reduceAdd, Nat.reduceLeDiff, Int.reduceLE, cZ13, hyZ14a, hyZ14b, cZ15, cZ16, cZ17]
          refine call_s (by simp only [VS1, VS2, VS3, VS4, VS5, VS6, VT1, VT2, finM_ret, finM_nrm, decide_true, decide_false, List.nodup_nil, List.nodup_cons, oks_p, oks_m, oks_h, ne_eq, not_false_eq_true, Int.reduceEq, Int.reduceNe, true_and, Nat.reduceSub, Nat.reduceMul, ↓reduceIte, reduceCtorEq, Nat.reduceEqDiff, Nat.reduceAdd, Nat.reduceLeDiff, Int.reduceLE, cZ13, hyZ14a, hyZ14b, cZ15, cZ16, cZ17]; exact w_impl_within _ _ _ hrZ18 ) ?_
          simp only [VA, VF1, ↓reduceIte, Nat.reduceEqDiff, Nat.reduceAdd, Nat.reduceMul, Nat.reduceSub, Nat.reduceLeDiff]
          refine Or.elim (bt (!rZ18)) (fun cZ19 => ?_) (fun cZ19 => ?_)
          · replace h := cond_t cZ19 h
            cases h
            try simp only [VS1, VS2, VS3, VS4, VS5, VS6, VT1, VT2, finM_ret, finM_nrm, decide_true, decide_false, List.nodup_nil, List.nodup_cons, oks_p, oks_m, oks_h, ne_eq, not_false_eq_true, Int.reduceEq, Int.reduceNe, true_and, Nat.reduceSub, Nat.reduceMul, ↓reduceIte, reduceCtorEq, Nat.reduceEqDiff, Nat.reduceAdd, Nat.reduceLeDiff, Int.reduceLE, cZ13, hyZ14a, hyZ14b, cZ15, cZ16, cZ17, cZ19]
            all_goals simp [qL, qJ, qJ0, qS, qX, qR, qM, Shp, sub, tupd, VS1, VS2, VS3, VS4, VS5, VS6, VT1, VT2, V47]
          · replace h := cond_f cZ19 h
            obtain ⟨rZ20, hrZ20, h⟩ := bind_s h
            simp only [VS1, VS2, VS3, VS4, VS5, VS6, VT1, VT2, finM_ret, finM_nrm, decide_true, decide_false, List.nodup_nil, List.nodup_cons, oks_p, oks_m, oks_h, ne_eq, not_false_eq_true, Int.reduceEq, Int.reduceNe, true_and, Nat.reduceSub, Nat.reduceMul, ↓reduceIte, reduceCtorEq, Nat.reduceEqDiff, Nat.reduceAdd, Nat.reduceLeDiff, Int.reduceLE, cZ13, hyZ14a, hyZ14b, cZ15, cZ16, cZ17, cZ19]
            refine call_s (by simp only [VS1, VS2, VS3, VS4, VS5, VS6, VT1, VT2, finM_ret, finM_nrm, decide_true, decide_false, List.nodup_nil, List.nodup_cons, oks_p, oks_m, oks_h, ne_eq, not_false_eq_true, Int.reduceEq, Int.reduceNe, true_and, Nat.reduceSub, Nat.reduceMul, ↓reduceIte, reduceCtorEq, Nat.reduceEqDiff, Nat.reduceAdd, Nat.reduceLeDiff, Int.reduceLE, cZ13, hyZ14a, hyZ14b, cZ15, cZ16, cZ17, cZ19]; exact w_impl_within _ _ _ hrZ20 ) ?_
            simp only [VA, VF1, ↓reduceIte, Nat.reduceEqDiff, Nat.reduceAdd, Nat.reduceMul, Nat.reduceSub, Nat.reduceLeDiff]
            refine Or.elim (bt (!rZ20)) (fun cZ21 => ?_) (fun cZ21 => ?_)
            · replace h := cond_t cZ21 h
              cases h
              try simp only [VS1, VS2, VS3, VS4, VS5, VS6, VT1, VT2, finM_ret, finM_nrm, decide_true, decide_false, List.nodup_nil, List.nodup_cons, oks_p, oks_m, oks_h, ne_eq, not_false_eq_true, Int.reduceEq, Int.reduceNe, true_and, Nat.reduceSub, Nat.reduceMul, ↓reduceIte, reduceCtorEq, Nat.reduceEqDiff, Nat.reduceAdd, Nat.reduceLeDiff, Int.reduceLE, cZ13, hyZ14a, hyZ14b, cZ15, cZ16, cZ17, cZ19, cZ21]
              all_goals simp [qL, qJ, qJ0, qS, qX, qR, qM, Shp, sub, tupd, VS1, VS2, VS3, VS4, VS5, VS6, VT1, VT2, V47]
            · replace h := cond_f cZ21 h
              refine Or.elim (bt (decide (0 < sZ12))) (fun cZ22 => ?_) (fun cZ22 => ?_)
              · replace h := cond_t cZ22 h
                obtain ⟨yZ23, hyZ23, h⟩ := bind_s h
                obtain ⟨hyZ23a, hyZ23b⟩ := geti_s hyZ23
                obtain ⟨rZ24, hrZ24, h⟩ := bind_s h
                simp only [VS1, VS2, VS3, VS4, VS5, VS6, VT1, VT2, finM_ret, finM_nrm, decide_true, decide_false, List.nodup_nil, List.nodup_cons, oks_p, oks_m, oks_h, ne_eq, not_false_eq_true, Int.reduceEq, Int.reduceNe, true_and, Nat.reduceSub, Nat.reduceMul, ↓reduceIte, reduceCtorEq, Nat.reduceEqDiff, Nat.reduceAdd, Nat.reduceLeDiff, Int.reduceLE, cZ13, hyZ14a, hyZ14b, cZ15, cZ16, cZ17, cZ19, cZ21, cZ22, hyZ23a, hyZ23b]
                refine call_s (by simp only [VS1, VS2, VS3, VS4, VS5, VS6, VT1, VT2, finM_ret, finM_nrm, decide_true, decide_false, List.nodup_nil, List.nodup_cons, oks_p, oks_m, oks_h, ne_eq, not_false_eq_true, Int.reduceEq, Int.reduceNe, true_and, Nat.reduceSub, Nat.reduceMul, ↓reduceIte, reduceCtorEq, Nat.reduceEqDiff, Nat.reduceAdd, Nat.reduceLeDiff, Int.reduceLE, cZ13, hyZ14a, hyZ14b, cZ15, cZ16, cZ17, cZ19, cZ21, cZ22, hyZ23a, hyZ23b]; exact w_impl_compareFibers _ _ hrZ24 ) ?_
                simp only [VA, VF1, ↓reduceIte, Nat.reduceEqDiff, Nat.reduceAdd, Nat.reduceMul, Nat.reduceSub, Nat.reduceLeDiff]
                refine Or.elim (bt (decide (0 < rZ24))) (fun cZ25 => ?_) (fun cZ25 => ?_)
                · replace h := cond_t cZ25 h
                  cases h
                  try simp only [VS1, VS2, VS3, VS4, VS5, VS6, VT1, VT2, finM_ret, finM_nrm, decide_true, decide_false, List.nodup_nil, List.nodup_cons, oks_p, oks_m, oks_h, ne_eq, not_false_eq_true, Int.reduceEq, Int.reduceNe, true_and, Nat.reduceSub, Nat.reduceMul, ↓reduceIte, reduceCtorEq, Nat.reduceEqDiff, Nat.reduceAdd, Nat.reduceLeDiff, Int.reduceLE, cZ13, hyZ14a, hyZ14b, cZ15, cZ16, cZ17, cZ19, cZ21, cZ22, hyZ23a, hyZ23b, cZ25]
                  all_goals simp [qL, qJ, qJ0, qS, qX, qR, qM, Shp, sub, tupd, VS1, VS2, VS3, VS4, VS5, VS6, VT1, VT2, V47]
                · replace h := cond_f cZ25 h
                  cases h
                  try simp only [VS1, VS2, VS3, VS4, VS5, VS6, VT1, VT2, finM_ret, finM_nrm, decide_true, decide_false, List.nodup_nil, List.nodup_cons, oks_p, oks_m, oks_h, ne_eq, not_false_eq_true, Int.reduceEq, Int.reduceNe, true_and, Nat.reduceSub, Nat.reduceMul, ↓reduceIte, reduceCtorEq, Nat.reduceEqDiff, Nat.reduceAdd, Nat.reduceLeDiff, Int.reduceLE, cZ13, hyZ14a, hyZ14b, cZ15, cZ16, cZ17, cZ19, cZ21, cZ22, hyZ23a, hyZ23b, cZ25]
                  all_goals simp [qL, qJ, qJ0, qS, qX, qR, qM, Shp, sub, tupd, VS1, VS2, VS3, VS4, VS5, VS6, VT1, VT2, S_impl_IsValidNetworkL2, SX_impl_IsValidNetworkL2]
              · replace h := cond_f cZ22 h
                cases h
                try simp only [VS1, VS2, VS3, VS4, VS5, VS6, VT1, VT2, finM_ret, finM_nrm, decide_true, decide_false, List.nodup_nil, List.nodup_cons, oks_p, oks_m, oks_h, ne_eq, not_false_eq_true, Int.reduceEq, Int.reduceNe, true_and, Nat.reduceSub, Nat.reduceMul, ↓reduceIte, reduceCtorEq, Nat.reduceEqDiff, Nat.reduceAdd, Nat.reduceLeDiff, Int.reduceLE, cZ13, hyZ14a, hyZ14b, cZ15, cZ16, cZ17, cZ19, cZ21, cZ22]
                all_goals simp [qL, qJ, qJ0, qS, qX, qR, qM, Shp, sub, tupd, VS1, VS2, VS3, VS4, VS5, VS6, VT1, VT2, S_impl_IsValidNetworkL2, SX_impl_IsValidNetworkL2]
  · replace h := cond_f cZ13 h
    cases h
    try simp only [VS1, VS2, VS3, VS4, VS5, VS6, VT1, VT2, finM_ret, finM_nrm, decide_true, decide_false, List.nodup_nil, List.nodup_cons, oks_p, oks_m, oks_h, ne_eq, not_false_eq_true, Int.reduceEq, Int.reduceNe, true_and, Nat.reduceSub, Nat.reduceMul, ↓reduceIte, reduceCtorEq, Nat.reduceEqDiff, Nat.reduceAdd, Nat.reduceLeDiff, Int.reduceLE, cZ13]
    all_goals simp [qL, qJ, qJ0, qS, qX, qR, qM, Shp, sub, tupd, VS1, VS2, VS3, VS4, VS5, VS6, VT1, VT2, S_impl_IsValidNetworkL2, SX_impl_IsValidNetworkL2]
theorem w_impl_IsValidNetwork (nZ0 : TNetwork) {r : Bool} (h : M_impl_IsValidNetwork nZ0 = some r) : Ok Try.prog 47 [.agg [.lst .o 1 (nZ0.Nodes.map AV.z), .lst .o 4 (nZ0.Fibers.map (e_TFiber .o))]] ((fun r => .b r) r) := by
  refine ok_of_body hmix m47 rfl ?_
  unfold M_impl_IsValidNetwork at h
  simp only [A47, V47, body_eq]
  obtain ⟨oZ9, hoZ9, h⟩ := bind_s h
  try simp only [VS1, VS2, VS3, VS4, VS5, VS6, VT1, VT2, finM_ret, finM_nrm, decide_true, decide_false, List.nodup_nil, List.nodup_cons, oks_p, oks_m, oks_h, ne_eq, not_false_eq_true, Int.reduceEq, Int.reduceNe, true_and, Nat.reduceSub, Nat.reduceMul, ↓reduceIte, reduceCtorEq, Nat.reduceEqDiff, Nat.reduceAdd, Nat.reduceLeDiff, Int.reduceLE]
  refine join_rule (o := oZ9) (blk_rule sideR (loop_rule (w_impl_IsValidNetworkL1 nZ0) hoZ9 ?_)) (fun vZ10 hv => ?_) (fun xZ11 hv e τ hne hq => ?_)
  · all_goals simp [qL, qJ, qJ0, qS, qX, qR, qM, Shp, sub, tupd, VS1, VS2, VS3, VS4, VS5, VS6, VT1, VT2, S_impl_IsValidNetworkL1, SX_impl_IsValidNetworkL1]
  · subst hv
    simp only [] at h
    simp only [SX_impl_IsValidNetworkL1, A47R2]
    obtain ⟨oZ26, hoZ26, h⟩ := bind_s h
    try simp only [VS1, VS2, VS3, VS4, VS5, VS6, VT1, VT2, finM_ret, finM_nrm, decide_true, decide_false, List.nodup_nil, List.nodup_cons, oks_p, oks_m, oks_h, ne_eq, not_false_eq_true, Int.reduceEq, Int.reduceNe, true_and, Nat.reduceSub, Nat.reduceMul, ↓reduceIte, reduceCtorEq, Nat.reduceEqDiff, Nat.reduceAdd, Nat.reduceLeDiff, Int.reduceLE]
    refine join_rule (o := oZ26) (blk_rule sideR (loop_rule (w_impl_IsValidNetworkL2 nZ0) hoZ26 ?_)) (fun vZ27 hv => ?_) (fun xZ28 hv e τ hne hq => ?_)
    · all_goals simp [qL, qJ, qJ0, qS, qX, qR, qM, Shp, sub, tupd, VS1, VS2, VS3, VS4, VS5, VS6, VT1, VT2, S_impl_IsValidNetworkL2, SX_impl_IsValidNetworkL2]
    · subst hv
      simp only [] at h
      simp only [SX_impl_IsValidNetworkL2, A47R4]
      obtain ⟨rZ29, hrZ29, h⟩ := bind_s h
      simp only [VS1, VS2, VS3, VS4, VS5, VS6, VT1, VT2, finM_ret, finM_nrm, decide_true, decide_false, List.nodup_nil, List.nodup_cons, oks_p, oks_m, oks_h, ne_eq, not_false_eq_true, Int.reduceEq, Int.reduceNe, true_and, Nat.reduceSub, Nat.reduceMul, ↓reduceIte, reduceCtorEq, Nat.reduceEqDiff, Nat.reduceAdd, Nat.reduceLeDiff, Int.reduceLE]
      refine call_s (by simp only [VS1, VS2, VS3, VS4, VS5, VS6, VT1, VT2, finM_ret, finM_nrm, decide_true, decide_false, List.nodup_nil, List.nodup_cons, oks_p, oks_m, oks_h, ne_eq, not_false_eq_true, Int.reduceEq, Int.reduceNe, true_and, Nat.reduceSub, Nat.reduceMul, ↓reduceIte, reduceCtorEq, Nat.reduceEqDiff, Nat.reduceAdd, Nat.reduceLeDiff, Int.reduceLE]; exact w_impl_within _ _ _ hrZ29 ) ?_
      simp only [VA, VF1, ↓reduceIte, Nat.reduceEqDiff, Nat.reduceAdd, Nat.reduceMul, Nat.reduceSub, Nat.reduceLeDiff]
      refine Or.elim (bt (rZ29)) (fun cZ30 => ?_) (fun cZ30 => ?_)
      · replace h := cond_t cZ30 h
        cases h
        try simp only [VS1, VS2, VS3, VS4, VS5, VS6, VT1, VT2, finM_ret, finM_nrm, decide_true, decide_false, List.nodup_nil, List.nodup_cons, oks_p, oks_m, oks_h, ne_eq, not_false_eq_true, Int.reduceEq, Int.reduceNe, true_and, Nat.reduceSub, Nat.reduceMul, ↓reduceIte, reduceCtorEq, Nat.reduceEqDiff, Nat.reduceAdd, Nat.reduceLeDiff, Int.reduceLE, cZ30]
        all_goals simp [qL, qJ, qJ0, qS, qX, qR, qM, Shp, sub, tupd, VS1, VS2, VS3, VS4, VS5, VS6, VT1, VT2, V47]
      · replace h := cond_f cZ30 h
        cases h
        try simp only [VS1, VS2, VS3, VS4, VS5, VS6, VT1, VT2, finM_ret, finM_nrm, decide_true, decide_false, List.nodup_nil, List.nodup_cons, oks_p, oks_m, oks_h, ne_eq, not_false_eq_true, Int.reduceEq, Int.reduceNe, true_and, Nat.reduceSub, Nat.reduceMul, ↓reduceIte, reduceCtorEq, Nat.reduceEqDiff, Nat.reduceAdd, Nat.reduceLeDiff, Int.reduceLE, cZ30]
        all_goals simp [qL, qJ, qJ0, qS, qX, qR, qM, Shp, sub, tupd, VS1, VS2, VS3, VS4, VS5, VS6, VT1, VT2, V47]
    · subst hv
      simp only [] at h
      obtain ⟨rfl, qZ31⟩ := hq
      cases h
      exact qZ31
  · subst hv
    simp only [] at h
    obtain ⟨rfl, qZ32⟩ := hq
    cases h
    exact qZ32
def S_slices_Index_Lint_intL1 (sZ0 : List Int) (vZ0 : Int) (v : Int) : St := ⟨[(0, .lst .o 1 (sZ0.map AV.i)), (1, .i vZ0), (7, .i (sZ0.length : Int)), (8, .i v)], []⟩
def SX_slices_Index_Lint_intL1 (v : Unit) : St := ⟨[], []⟩
theorem w_slices_Index_Lint_intL1 (sZ0 : List Int) (vZ0 : Int) (sZ1 : Int) (o : Int ⊕ (Unit ⊕ Int)) (h : M_slices_Index_Lint_intL1 sZ0 vZ0 sZ1 = some o) : AWP (OkS Try.prog) A64L1 (qL [0, 1, 7, 8] [] (S_slices_Index_Lint_intL1 sZ0 vZ0) (qS (qX 0 [] [] (SX_slices_Index_Lint_intL1)) (qR V64 (fun r => .i r))) o) (S_slices_Index_Lint_intL1 sZ0 vZ0 sZ1) := by
  unfold M_slices_Index_Lint_intL1 at h
  simp only [S_slices_Index_Lint_intL1, A64L1]
  refine Or.elim (bt (decide (sZ1 < (sZ0.length : Int)))) (fun cZ2 => ?_) (fun cZ2 => ?_)
  · replace h := cond_t cZ2 h
    obtain ⟨yZ3, hyZ3, h⟩ := bind_s h
    obtain ⟨hyZ3a, hyZ3b⟩ := geti_s hyZ3
    refine Or.elim (bt (vZ0 == yZ3)) (fun cZ4 => ?_) (fun cZ4 => ?_)
    · replace h := cond_t cZ4 h
      cases h
      try simp only [VS1, VS2, VS3, VS4, VS5, VS6, VT1, VT2, finM_ret, finM_nrm, decide_true, decide_false, List.nodup_nil, List.nodup_cons, oks_p, oks_m, oks_h, ne_eq, not_false_eq_true, Int.reduceEq, Int.reduceNe, true_and, Nat.reduceSub, Nat.reduceMul, ↓reduceIte, reduceCtorEq, Nat.reduceEqDiff, Nat.reduceAdd, Nat.reduceLeDiff, Int.reduceLE, cZ2, hyZ3a, hyZ3b, cZ4]
      all_goals simp [qL, qJ, qJ0, qS, qX, qR, qM, Shp, sub, tupd, VS1, VS2, VS3, VS4, VS5, VS6, VT1, VT2, V64]
    · replace h := cond_f cZ4 h
      cases h
      try simp only [VS1, VS2, VS3, VS4, VS5, VS6, VT1, VT2, finM_ret, finM_nrm, decide_true, decide_false, List.nodup_nil, List.nodup_cons, oks_p, oks_m, oks_h, ne_eq, not_false_eq_true, Int.reduceEq, Int.reduceNe, true_and, Nat.reduceSub, Nat.reduceMul, ↓reduceIte, reduceCtorEq, Nat.reduceEqDiff, Nat.reduceAdd, Nat.reduceLeDiff, Int.reduceLE, cZ2, hyZ3a, hyZ3b, cZ4]
      all_goals simp [qL, qJ, qJ0, qS, qX, qR, qM, Shp, sub, tupd, VS1, VS2, VS3, VS4, VS5, VS6, VT1, VT2, S_slices_Index_Lint_intL1, SX_slices_Index_Lint_intL1]
  · replace h := cond_f cZ2 h
    cases h
    try simp only [VS1, VS2, VS3, VS4, VS5, VS6, VT1, VT2, finM_ret, finM_nrm, decide_true, decide_false, List.nodup_nil, List.nodup_cons, oks_p, oks_m, oks_h, ne_eq, not_false_eq_true, Int.reduceEq, Int.reduceNe, true_and, Nat.reduceSub, Nat.reduceMul, ↓reduceIte, reduceCtorEq, Nat.reduceEqDiff, Nat.reduceAdd, Nat.reduceLeDiff, Int.reduceLE, cZ2]
    all_goals simp [qL, qJ, qJ0, qS, qX, qR, qM, Shp, sub, tupd, VS1, VS2, VS3, VS4, VS5, VS6, VT1, VT2, S_slices_Index_Lint_intL1, SX_slices_Index_Lint_intL1]
theorem w_slices_Index_Lint_int (sZ0 : List Int) (vZ0 : Int) {r : Int} (h : M_slices_Index_Lint_int sZ0 vZ0 = some r) : Ok Try.prog 64 [.lst .o 1 (sZ0.map AV.i), .i vZ0] ((fun r => .i r) r) := by
  refine ok_of_body hmix m64 rfl ?_
  unfold M_slices_Index_Lint_int at h
  simp only [A64, V64, body_eq]
  obtain ⟨oZ5, hoZ5, h⟩ := bind_s h
  try simp only [VS1, VS2, VS3, VS4, VS5, VS6, VT1, VT2, finM_ret, finM_nrm, decide_true, decide_false, List.nodup_nil, List.nodup_cons, oks_p, oks_m, oks_h, ne_eq, not_false_eq_true, Int.reduceEq, Int.reduceNe, true_and, Nat.reduceSub, Nat.reduceMul, ↓reduceIte, reduceCtorEq, Nat.reduceEqDiff, Nat.reduceAdd, Nat.reduceLeDiff, Int.reduceLE]
  refine join_rule (o := oZ5) (blk_rule sideR (loop_rule (w_slices_Index_Lint_intL1 sZ0 vZ0) hoZ5 ?_)) (fun vZ6 hv => ?_) (fun xZ7 hv e τ hne hq => ?_)
  · all_goals simp [qL, qJ, qJ0, qS, qX, qR, qM, Shp, sub, tupd, VS1, VS2, VS3, VS4, VS5, VS6, VT1, VT2, S_slices_Index_Lint_intL1, SX_slices_Index_Lint_intL1]
  · subst hv
    simp only [] at h
    simp only [SX_slices_Index_Lint_intL1, A64R2]
    cases h
    try simp only [VS1, VS2, VS3, VS4, VS5, VS6, VT1, VT2, finM_ret, finM_nrm, decide_true, decide_false, List.nodup_nil, List.nodup_cons, oks_p, oks_m, oks_h, ne_eq, not_false_eq_true, Int.reduceEq, Int.reduceNe, true_and, Nat.reduceSub, Nat.reduceMul, ↓reduceIte, reduceCtorEq, Nat.reduceEqDiff, Nat.reduceAdd, Nat.reduceLeDiff, Int.reduceLE]
    all_goals simp [qL, qJ, qJ0, qS, qX, qR, qM, Shp, sub, tupd, VS1, VS2, VS3, VS4, VS5, VS6, VT1, VT2, V64]
  · subst hv
    simp only [] at h
    obtain ⟨rfl, qZ8⟩ := hq
    cases h
    exact qZ8
theorem w_slices_Contains_Lint_int (sZ0 : List Int) (vZ0 : Int) {r : Bool} (h : M_slices_Contains_Lint_int sZ0 vZ0 = some r) : Ok Try.prog 67 [.lst .o 1 (sZ0.map AV.i), .i vZ0] ((fun r => .b r) r) := by
  refine ok_of_body hmix m67 rfl ?_
  unfold M_slices_Contains_Lint_int at h
  simp only [A67, V67, body_eq]
  obtain ⟨rZ1, hrZ1, h⟩ := bind_s h
  simp only [VS1, VS2, VS3, VS4, VS5, VS6, VT1, VT2, finM_ret, finM_nrm, decide_true, decide_false, List.nodup_nil, List.nodup_cons, oks_p, oks_m, oks_h, ne_eq, not_false_eq_true, Int.reduceEq, Int.reduceNe, true_and, Nat.reduceSub, Nat.reduceMul, ↓reduceIte, reduceCtorEq, Nat.reduceEqDiff, Nat.reduceAdd, Nat.reduceLeDiff, Int.reduceLE]
  refine call_s (by simp only [VS1, VS2, VS3, VS4, VS5, VS6, VT1, VT2, finM_ret, finM_nrm, decide_true, decide_false, List.nodup_nil, List.nodup_cons, oks_p, oks_m, oks_h, ne_eq, not_false_eq_true, Int.reduceEq, Int.reduceNe, true_and, Nat.reduceSub, Nat.reduceMul, ↓reduceIte, reduceCtorEq, Nat.reduceEqDiff, Nat.reduceAdd, Nat.reduceLeDiff, Int.reduceLE]; exact w_slices_Index_Lint_int _ _ hrZ1 ) ?_
  simp only [VA, VF1, ↓reduceIte, Nat.reduceEqDiff, Nat.reduceAdd, Nat.reduceMul, Nat.reduceSub, Nat.reduceLeDiff]
  cases h
  try simp only [VS1, VS2, VS3, VS4, VS5, VS6, VT1, VT2, finM_ret, finM_nrm, decide_true, decide_false, List.nodup_nil, List.nodup_cons, oks_p, oks_m, oks_h, ne_eq, not_false_eq_true, Int.reduceEq, Int.reduceNe, true_and, Nat.reduceSub, Nat.reduceMul, ↓reduceIte, reduceCtorEq, Nat.reduceEqDiff, Nat.reduceAdd, Nat.reduceLeDiff, Int.reduceLE]
  all_goals simp [qL, qJ, qJ0, qS, qX, qR, qM, Shp, sub, tupd, VS1, VS2, VS3, VS4, VS5, VS6, VT1, VT2, V67]
theorem w_impl_otherEnd (fZ0 : TFiber) (nodeZ0 : Int) {r : Int} (h : M_impl_otherEnd fZ0 nodeZ0 = some r) : Ok Try.prog 94 [.agg [.i fZ0.A, .i fZ0.B, .i fZ0.Length, .i fZ0.Risk], .i nodeZ0] ((fun r => .i r) r) := by
  refine ok_of_body hmix m94 rfl ?_
  unfold M_impl_otherEnd at h
  simp only [A94, V94, body_eq]
  refine Or.elim (bt (nodeZ0 == fZ0.A)) (fun cZ1 => ?_) (fun cZ1 => ?_)
  · replace h := cond_t cZ1 h
    cases h
    try simp only [VS1, VS2, VS3, VS4, VS5, VS6, VT1, VT2, finM_ret, finM_nrm, decide_true, decide_false, List.nodup_nil, List.nodup_cons, oks_p, oks_m, oks_h, ne_eq, not_false_eq_true, Int.reduceEq, Int.reduceNe, true_and, Nat.reduceSub, Nat.reduceMul, ↓reduceIte, reduceCtorEq, Nat.reduceEqDiff, Nat.reduceAdd, Nat.reduceLeDiff, Int.reduceLE, cZ1]
    all_goals simp [qL, qJ, qJ0, qS, qX, qR, qM, Shp, sub, tupd, VS1, VS2, VS3, VS4, VS5, VS6, VT1, VT2, V94]
  · replace h := cond_f cZ1 h
    refine Or.elim (bt (nodeZ0 == fZ0.B)) (fun cZ2 => ?_) (fun cZ2 => ?_)
    · replace h := cond_t cZ2 h
      cases h
      try simp only [VS1, VS2, VS3, VS4, VS5, VS6, VT1, VT2, finM_ret, finM_nrm, decide_true, decide_false, List.nodup_nil, List.nodup_cons, oks_p, oks_m, oks_h, ne_eq, not_false_eq_true, Int.reduceEq, Int.reduceNe, true_and, Nat.reduceSub, Nat.reduceMul, ↓reduceIte, reduceCtorEq, Nat.reduceEqDiff, Nat.reduceAdd, Nat.reduceLeDiff, Int.reduceLE, cZ1, cZ2]
      all_goals simp [qL, qJ, qJ0, qS, qX, qR, qM, Shp, sub, tupd, VS1, VS2, VS3, VS4, VS5, VS6, VT1, VT2, V94]
    · replace h := cond_f cZ2 h
      cases h
      try simp only [VS1, VS2, VS3, VS4, VS5, VS6, VT1, VT2, finM_ret, finM_nrm, decide_true, decide_false, List.nodup_nil, List.nodup_cons, oks_p, oks_m, oks_h, ne_eq, not_false_eq_true, Int.reduceEq, Int.reduceNe, true_and, Nat.reduceSub, Nat.reduceMul, ↓reduceIte, reduceCtorEq, Nat.reduceEqDiff, Nat.reduceAdd, Nat.reduceLeDiff, Int.reduceLE, cZ1, cZ2]
      all_goals simp [qL, qJ, qJ0, qS, qX, qR, qM, Shp, sub, tupd, VS1, VS2, VS3, VS4, VS5, VS6, VT1, VT2, V94]
def S_impl_followedL1 (nZ0 : TNetwork) (ringZ0 : List Int) (v : Int × Int × List Int) : St := ⟨[(2, .lst .o 1 (ringZ0.map AV.i)), (3, .pt 3 0 0), (9, .sl 9 0 v.2.2.length), (10, .i v.1), (15, .lst .o 1 (ringZ0.map AV.i)), (16, .i (ringZ0.length : Int)), (17, .i v.2.1)], [(3, .var (.agg [.lst .o 1 (nZ0.Nodes.map AV.z), .lst .o 4 (nZ0.Fibers.map (e_TFiber .o))])), (9, .arr 1 (v.2.2.map AV.i))]⟩
def SX_impl_followedL1 (v : Int × List Int) : St := ⟨[(9, .sl 9 0 v.2.length), (10, .i v.1)], [(9, .arr 1 (v.2.map AV.i))]⟩
theorem w_impl_followedL1 (nZ0 : TNetwork) (ringZ0 : List Int) (sZ1 : Int × Int × List Int) (o : (Int × Int × List Int) ⊕ ((Int × List Int) ⊕ (List Int × Int × Bool))) (h : M_impl_followedL1 nZ0 ringZ0 sZ1 = some o) : AWP (OkS Try.prog) A84L2 (qL [2, 3, 9, 10, 15, 16, 17] [3, 9] (S_impl_followedL1 nZ0 ringZ0) (qS (qX 0 [9, 10] [9] (SX_impl_followedL1)) (qR V84 (fun r => .tup [.lst .u 1 (r.1.map AV.i), .i r.2.1, .b r.2.2]))) o) (S_impl_followedL1 nZ0 ringZ0 sZ1) := by
  unfold M_impl_followedL1 at h
  simp only [S_impl_followedL1, A84L2]
  refine Or.elim (bt (decide (sZ1.2.1 < (ringZ0.length : Int)))) (fun cZ2 => ?_) (fun cZ2 => ?_)
  · replace h := cond_t cZ2 h
    obtain ⟨yZ3, hyZ3, h⟩ := bind_s h
    obtain ⟨hyZ3a, hyZ3b⟩ := geti_s hyZ3
    obtain ⟨oZ8, hoZ8, h⟩ := bind_s h
    try simp only [VS1, VS2, VS3, VS4, VS5, VS6, VT1, VT2, finM_ret, finM_nrm, decide_true, decide_false, List.nodup_nil, List.nodup_cons, oks_p, oks_m, oks_h, ne_eq, not_false_eq_true, Int.reduceEq, Int.reduceNe, true_and, Nat.reduceSub, Nat.reduceMul, ↓reduceIte, reduceCtorEq, Nat.reduceEqDiff, Nat.reduceAdd, Nat.reduceLeDiff, Int.reduceLE, cZ2, hyZ3a, hyZ3b]
    refine join_rule0 (sh := (fun v => ⟨[(2, .lst .o 1 (ringZ0.map AV.i)), (3, .pt 3 0 0), (9, .sl 9 0 sZ1.2.2.length), (10, .i sZ1.1), (12, .i yZ3), (15, .lst .o 1 (ringZ0.map AV.i)), (16, .i (ringZ0.length : Int)), (17, .i sZ1.2.1), (35, .b v)], [(3, .var (.agg [.lst .o 1 (nZ0.Nodes.map AV.z), .lst .o 4 (nZ0.Fibers.map (e_TFiber .o))])), (9, .arr 1 (sZ1.2.2.map AV.i))]⟩)) (s := oZ8) ?_ ?_
    · replace h := hoZ8
      obtain ⟨rZ4, hrZ4, h⟩ := bind_s h
      simp only [VS1, VS2, VS3, VS4, VS5, VS6, VT1, VT2, finM_ret, finM_nrm, decide_true, decide_false, List.nodup_nil, List.nodup_cons, oks_p, oks_m, oks_h, ne_eq, not_false_eq_true, Int.reduceEq, Int.reduceNe, true_and, Nat.reduceSub, Nat.reduceMul, ↓reduceIte, reduceCtorEq, Nat.reduceEqDiff, Nat.reduceAdd, Nat.reduceLeDiff, Int.reduceLE, cZ2, hyZ3a, hyZ3b]
      refine call_s (by simp only [VS1, VS2, VS3, VS4, VS5, VS6, VT1, VT2, finM_ret, finM_nrm, decide_true, decide_false, List.nodup_nil, List.nodup_cons, oks_p, oks_m, oks_h, ne_eq, not_false_eq_true, Int.reduceEq, Int.reduceNe, true_and, Nat.reduceSub, Nat.reduceMul, ↓reduceIte, reduceCtorEq, Nat.reduceEqDiff, Nat.reduceAdd, Nat.reduceLeDiff, Int.reduceLE, cZ2, hyZ3a, hyZ3b]; exact w_impl_within _ _ _ hrZ4 ) ?_
      simp only [VA, VF1, ↓reduceIte, Nat.reduceEqDiff, Nat.reduceAdd, Nat.reduceMul, Nat.reduceSub, Nat.reduceLeDiff]
      refine Or.elim (bt (!rZ4)) (fun cZ5 => ?_) (fun cZ5 => ?_)
      · replace h := cond_t cZ5 h
        cases h
        try simp only [VS1, VS2, VS3, VS4, VS5, VS6, VT1, VT2, finM_ret, finM_nrm, decide_true, decide_false, List.nodup_nil, List.nodup_cons, oks_p, oks_m, oks_h, ne_eq, not_false_eq_true, Int.reduceEq, Int.reduceNe, true_and, Nat.reduceSub, Nat.reduceMul, ↓reduceIte, reduceCtorEq, Nat.reduceEqDiff, Nat.reduceAdd, Nat.reduceLeDiff, Int.reduceLE, cZ2, hyZ3a, hyZ3b, cZ5]
        all_goals simp [qL, qJ, qJ0, qS, qX, qR, qM, Shp, sub, tupd, VS1, VS2, VS3, VS4, VS5, VS6, VT1, VT2]
      · replace h := cond_f cZ5 h
        obtain ⟨lZ6, hlZ6, h⟩ := bind_s h
        obtain ⟨hlZ6a, hlZ6b, hlZ6c, hlZ6d, hlZ6e⟩ := slT_s AV.i hlZ6
        obtain ⟨rZ7, hrZ7, h⟩ := bind_s h
        simp only [VS1, VS2, VS3, VS4, VS5, VS6, VT1, VT2, finM_ret, finM_nrm, decide_true, decide_false, List.nodup_nil, List.nodup_cons, oks_p, oks_m, oks_h, ne_eq, not_false_eq_true, Int.reduceEq, Int.reduceNe, true_and, Nat.reduceSub, Nat.reduceMul, ↓reduceIte, reduceCtorEq, Nat.reduceEqDiff, Nat.reduceAdd, Nat.reduceLeDiff, Int.reduceLE, cZ2, hyZ3a, hyZ3b, cZ5, hlZ6a, hlZ6b, hlZ6c, hlZ6d, hlZ6e]
        refine call_s (by simp only [VS1, VS2, VS3, VS4, VS5, VS6, VT1, VT2, finM_ret, finM_nrm, decide_true, decide_false, List.nodup_nil, List.nodup_cons, oks_p, oks_m, oks_h, ne_eq, not_false_eq_true, Int.reduceEq, Int.reduceNe, true_and, Nat.reduceSub, Nat.reduceMul, ↓reduceIte, reduceCtorEq, Nat.reduceEqDiff, Nat.reduceAdd, Nat.reduceLeDiff, Int.reduceLE, cZ2, hyZ3a, hyZ3b, cZ5, hlZ6a, hlZ6b, hlZ6c, hlZ6d, hlZ6e]; exact w_slices_Contains_Lint_int _ _ hrZ7 ) ?_
        simp only [VA, VF1, ↓reduceIte, Nat.reduceEqDiff, Nat.reduceAdd, Nat.reduceMul, Nat.reduceSub, Nat.reduceLeDiff]
        cases h
        try simp only [VS1, VS2, VS3, VS4, VS5, VS6, VT1, VT2, finM_ret, finM_nrm, decide_true, decide_false, List.nodup_nil, List.nodup_cons, oks_p, oks_m, oks_h, ne_eq, not_false_eq_true, Int.reduceEq, Int.reduceNe, true_and, Nat.reduceSub, Nat.reduceMul, ↓reduceIte, reduceCtorEq, Nat.reduceEqDiff, Nat.reduceAdd, Nat.reduceLeDiff, Int.reduceLE, cZ2, hyZ3a, hyZ3b, cZ5, hlZ6a, hlZ6b, hlZ6c, hlZ6d, hlZ6e]
        all_goals simp [qL, qJ, qJ0, qS, qX, qR, qM, Shp, sub, tupd, VS1, VS2, VS3, VS4, VS5, VS6, VT1, VT2]
    · simp only [A84R1]
      refine Or.elim (bt (oZ8)) (fun cZ9 => ?_) (fun cZ9 => ?_)
      · replace h := cond_t cZ9 h
        cases h
        try simp only [VS1, VS2, VS3, VS4, VS5, VS6, VT1, VT2, finM_ret, finM_nrm, decide_true, decide_false, List.nodup_nil, List.nodup_cons, oks_p, oks_m, oks_h, ne_eq, not_false_eq_true, Int.reduceEq, Int.reduceNe, true_and, Nat.reduceSub, Nat.reduceMul, ↓reduceIte, reduceCtorEq, Nat.reduceEqDiff, Nat.reduceAdd, Nat.reduceLeDiff, Int.reduceLE, cZ2, hyZ3a, hyZ3b, cZ9]
        all_goals simp [qL, qJ, qJ0, qS, qX, qR, qM, Shp, sub, tupd, VS1, VS2, VS3, VS4, VS5, VS6, VT1, VT2, V84]
      · replace h := cond_f cZ9 h
        obtain ⟨lZ10, hlZ10, h⟩ := bnd_s h
        have eZ11 : Row.arr 1 [(.i sZ1.1 : AV)] = Row.arr 1 (lZ10.map AV.i) := by rw [← hlZ10]; rfl
        have eZ12 : lZ10.length = 1 := by rw [← hlZ10]; rfl
        obtain ⟨uZ13, huZ13, h⟩ := bind_s h
        have huZ13g := grd_s huZ13
        obtain ⟨lZ14, hlZ14, h⟩ := bnd_s h
        have eZ15 : sZ1.2.2.map AV.i ++ lZ10.map AV.i = lZ14.map AV.i := by rw [← hlZ14, List.map_append]
        have eZ16 : sZ1.2.2.length + 1 = lZ14.length := by simp [← hlZ10, ← hlZ14] <;> omega
        rw [eZ16] at huZ13g
        obtain ⟨yZ17, hyZ17, h⟩ := bind_s h
        obtain ⟨hyZ17a, hyZ17b⟩ := geti_s hyZ17
        obtain ⟨rZ18, hrZ18, h⟩ := bind_s h
        simp only [VS1, VS2, VS3, VS4, VS5, VS6, VT1, VT2, finM_ret, finM_nrm, decide_true, decide_false, List.nodup_nil, List.nodup_cons, oks_p, oks_m, oks_h, ne_eq, not_false_eq_true, Int.reduceEq, Int.reduceNe, true_and, Nat.reduceSub, Nat.reduceMul, ↓reduceIte, reduceCtorEq, Nat.reduceEqDiff, Nat.reduceAdd, Nat.reduceLeDiff, Int.reduceLE, cZ2, hyZ3a, hyZ3b, cZ9, eZ11, eZ12, huZ13g, eZ15, eZ16, hyZ17a, hyZ17b]
        refine call_s (by simp only [VS1, VS2, VS3, VS4, VS5, VS6, VT1, VT2, finM_ret, finM_nrm, decide_true, decide_false, List.nodup_nil, List.nodup_cons, oks_p, oks_m, oks_h, ne_eq, not_false_eq_true, Int.reduceEq, Int.reduceNe, true_and, Nat.reduceSub, Nat.reduceMul, ↓reduceIte, reduceCtorEq, Nat.reduceEqDiff, Nat.reduceAdd, Nat.reduceLeDiff, Int.reduceLE, cZ2, hyZ3a, hyZ3b, cZ9, eZ11, eZ12, huZ13g, eZ15, eZ16, hyZ17a, hyZ17b]; exact w_impl_otherEnd _ _ hrZ18 ) ?_
        simp only [VA, VF1, ↓reduceIte, Nat.reduceEqDiff, Nat.reduceAdd, Nat.reduceMul, Nat.reduceSub, Nat.reduceLeDiff]
        refine Or.elim (bt (decide (rZ18 < 0))) (fun cZ19 => ?_) (fun cZ19 => ?_)
        · replace h := cond_t cZ19 h
          cases h
          try simp only [VS1, VS2, VS3, VS4, VS5, VS6, VT1, VT2, finM_ret, finM_nrm, decide_true, decide_false, List.nodup_nil, List.nodup_cons, oks_p, oks_m, oks_h, ne_eq, not_false_eq_true, Int.reduceEq, Int.reduceNe, true_and, Nat.reduceSub, Nat.reduceMul, ↓reduceIte, reduceCtorEq, Nat.reduceEqDiff, Nat.reduceAdd, Nat.reduceLeDiff, Int.reduceLE, cZ2, hyZ3a, hyZ3b, cZ9, eZ11, eZ12, huZ13g, eZ15, eZ16, hyZ17a, hyZ17b, cZ19]
          all_goals simp [qL, qJ, qJ0, qS, qX, qR, qM, Shp, sub, tupd, VS1, VS2, VS3, VS4, VS5, VS6, VT1, VT2, V84, ← hlZ10, ← hlZ14]
        · replace h := cond_f cZ19 h
          cases h
          try simp only [VS1, VS2, VS3, VS4, VS5, VS6, VT1, VT2, finM_ret, finM_nrm, decide_true, decide_false, List.nodup_nil, List.nodup_cons, oks_p, oks_m, oks_h, ne_eq, not_false_eq_true, Int.reduceEq, Int.reduceNe, true_and, Nat.reduceSub, Nat.reduceMul, ↓reduceIte, reduceCtorEq, Nat.reduceEqDiff, Nat.reduceAdd, Nat.reduceLeDiff, Int.reduceLE, cZ2, hyZ3a, hyZ3b, cZ9, eZ11, eZ12, huZ13g, eZ15, eZ16, hyZ17a, hyZ17b, cZ19]
          all_goals simp [qL, qJ, qJ0, qS, qX, qR, qM, Shp, sub, tupd, VS1, VS2, VS3, VS4, VS5, VS6, VT1, VT2, S_impl_followedL1, SX_impl_followedL1, ← hlZ10, ← hlZ14]
  · replace h := cond_f cZ2 h
    cases h
    try simp only [VS1, VS2, VS3, VS4, VS5, VS6, VT1, VT2, finM_ret, finM_nrm, decide_true, decide_false, List.nodup_nil, List.nodup_cons, oks_p, oks_m, oks_h, ne_eq, not_false_eq_true, Int.reduceEq, Int.reduceNe, true_and, Nat.reduceSub, Nat.reduceMul, ↓reduceIte, reduceCtorEq, Nat.reduceEqDiff, Nat.reduceAdd, Nat.reduceLeDiff, Int.reduceLE, cZ2]
    all_goals simp [qL, qJ, qJ0, qS, qX, qR, qM, Shp, sub, tupd, VS1, VS2, VS3, VS4, VS5, VS6, VT1, VT2, S_impl_followedL1, SX_impl_followedL1]
theorem w_impl_followed (nZ0 : TNetwork) (startZ0 : Int) (ringZ0 : List Int) {r : List Int × Int × Bool} (h : M_impl_followed nZ0 startZ0 ringZ0 = some r) : Ok Try.prog 84 [.agg [.lst .o 1 (nZ0.Nodes.map AV.z), .lst .o 4 (nZ0.Fibers.map (e_TFiber .o))], .i startZ0, .lst .o 1 (ringZ0.map AV.i)] ((fun r => .tup [.lst .u 1 (r.1.map AV.i), .i r.2.1, .b r.2.2]) r) := by
  refine ok_of_body hmix m84 rfl ?_
  unfold M_impl_followed at h
  simp only [A84, V84, body_eq]
  obtain ⟨oZ20, hoZ20, h⟩ := bind_s h
  try simp only [VS1, VS2, VS3, VS4, VS5, VS6, VT1, VT2, finM_ret, finM_nrm, decide_true, decide_false, List.nodup_nil, List.nodup_cons, oks_p, oks_m, oks_h, ne_eq, not_false_eq_true, Int.reduceEq, Int.reduceNe, true_and, Nat.reduceSub, Nat.reduceMul, ↓reduceIte, reduceCtorEq, Nat.reduceEqDiff, Nat.reduceAdd, Nat.reduceLeDiff, Int.reduceLE]
  refine join_rule (o := oZ20) (blk_rule sideR (loop_rule (w_impl_followedL1 nZ0 ringZ0) hoZ20 ?_)) (fun vZ21 hv => ?_) (fun xZ22 hv e τ hne hq => ?_)
  · all_goals simp [qL, qJ, qJ0, qS, qX, qR, qM, Shp, sub, tupd, VS1, VS2, VS3, VS4, VS5, VS6, VT1, VT2, S_impl_followedL1, SX_impl_followedL1]
  · subst hv
    simp only [] at h
    simp only [SX_impl_followedL1, A84R3]
    cases h
    try simp only [VS1, VS2, VS3, VS4, VS5, VS6, VT1, VT2, finM_ret, finM_nrm, decide_true, decide_false, List.nodup_nil, List.nodup_cons, oks_p, oks_m, oks_h, ne_eq, not_false_eq_true, Int.reduceEq, Int.reduceNe, true_and, Nat.reduceSub, Nat.reduceMul, ↓reduceIte, reduceCtorEq, Nat.reduceEqDiff, Nat.reduceAdd, Nat.reduceLeDiff, Int.reduceLE]
    all_goals simp [qL, qJ, qJ0, qS, qX, qR, qM, Shp, sub, tupd, VS1, VS2, VS3, VS4, VS5, VS6, VT1, VT2, V84]
  · subst hv
    simp only [] at h
    obtain ⟨rfl, qZ23⟩ := hq
    cases h
    exact qZ23
def S_slices_Min_Lint_intL1 (xZ0 : List Int) (v : Int × Int) : St := ⟨[(0, .lst .o 1 (xZ0.map AV.i)), (3, .i v.1), (4, .i v.2)], []⟩
def SX_slices_Min_Lint_intL1 (v : Int) : St := ⟨[(3, .i v)], []⟩
theorem w_slices_Min_Lint_intL1 (xZ0 : List Int) (sZ3 : Int × Int) (o : (Int × Int) ⊕ Int) (h : M_slices_Min_Lint_intL1 xZ0 sZ3 = some o) : AWP (OkS Try.prog) A85L1 (qL [0, 3, 4] [] (S_slices_Min_Lint_intL1 xZ0) (qX 0 [3] [] (SX_slices_Min_Lint_intL1)) o) (S_slices_Min_Lint_intL1 xZ0 sZ3) := by
  unfold M_slices_Min_Lint_intL1 at h
  simp only [S_slices_Min_Lint_intL1, A85L1]
  refine Or.elim (bt (decide (sZ3.2 < (xZ0.length : Int)))) (fun cZ4 => ?_) (fun cZ4 => ?_)
  · replace h := cond_t cZ4 h
    obtain ⟨yZ5, hyZ5, h⟩ := bind_s h
    obtain ⟨hyZ5a, hyZ5b⟩ := geti_s hyZ5
    cases h
    try simp only [VS1, VS2, VS3, VS4, VS5, VS6, VT1, VT2, finM_ret, finM_nrm, decide_true, decide_false, List.nodup_nil, List.nodup_cons, oks_p, oks_m, oks_h, ne_eq, not_false_eq_true, Int.reduceEq, Int.reduceNe, true_and, Nat.reduceSub, Nat.reduceMul, ↓reduceIte, reduceCtorEq, Nat.reduceEqDiff, Nat.reduceAdd, Nat.reduceLeDiff, Int.reduceLE, cZ4, hyZ5a, hyZ5b]
    all_goals simp [qL, qJ, qJ0, qS, qX, qR, qM, Shp, sub, tupd, VS1, VS2, VS3, VS4, VS5, VS6, VT1, VT2, S_slices_Min_Lint_intL1, SX_slices_Min_Lint_intL1]
  · replace h := cond_f cZ4 h
    cases h
    try simp only [VS1, VS2, VS3, VS4, VS5, VS6, VT1, VT2, finM_ret, finM_nrm, decide_true, decide_false, List.nodup_nil, List.nodup_cons, oks_p, oks_m, oks_h, ne_eq, not_false_eq_true, Int.reduceEq, Int.reduceNe, true_and, Nat.reduceSub, Nat.reduceMul, ↓reduceIte, reduceCtorEq, Nat.reduceEqDiff, Nat.reduceAdd, Nat.reduceLeDiff, Int.reduceLE, cZ4]
    all_goals simp [qL, qJ, qJ0, qS, qX, qR, qM, Shp, sub, tupd, VS1, VS2, VS3, VS4, VS5, VS6, VT1, VT2, S_slices_Min_Lint_intL1, SX_slices_Min_Lint_intL1]
theorem w_slices_Min_Lint_int (xZ0 : List Int) {r : Int} (h : M_slices_Min_Lint_int xZ0 = some r) : Ok Try.prog 85 [.lst .o 1 (xZ0.map AV.i)] ((fun r => .i r) r) := by
  refine ok_of_body hmix m85 rfl ?_
  unfold M_slices_Min_Lint_int at h
  simp only [A85, V85, body_eq]
  refine Or.elim (bt (decide ((xZ0.length : Int) < 1))) (fun cZ1 => ?_) (fun cZ1 => ?_)
  · replace h := cond_t cZ1 h
    cases h
  · replace h := cond_f cZ1 h
    obtain ⟨yZ2, hyZ2, h⟩ := bind_s h
    obtain ⟨hyZ2a, hyZ2b⟩ := geti_s hyZ2
    obtain ⟨oZ6, hoZ6, h⟩ := bind_s h
    try simp only [VS1, VS2, VS3, VS4, VS5, VS6, VT1, VT2, finM_ret, finM_nrm, decide_true, decide_false, List.nodup_nil, List.nodup_cons, oks_p, oks_m, oks_h, ne_eq, not_false_eq_true, Int.reduceEq, Int.reduceNe, true_and, Nat.reduceSub, Nat.reduceMul, ↓reduceIte, reduceCtorEq, Nat.reduceEqDiff, Nat.reduceAdd, Nat.reduceLeDiff, Int.reduceLE, cZ1, hyZ2a, hyZ2b]
    refine join_rule0 (blk_rule0 (loop_rule (w_slices_Min_Lint_intL1 xZ0) hoZ6 ?_)) ?_
    · all_goals simp [qL, qJ, qJ0, qS, qX, qR, qM, Shp, sub, tupd, VS1, VS2, VS3, VS4, VS5, VS6, VT1, VT2, S_slices_Min_Lint_intL1, SX_slices_Min_Lint_intL1]
    · simp only [SX_slices_Min_Lint_intL1, A85R2]
      cases h
      try simp only [VS1, VS2, VS3, VS4, VS5, VS6, VT1, VT2, finM_ret, finM_nrm, decide_true, decide_false, List.nodup_nil, List.nodup_cons, oks_p, oks_m, oks_h, ne_eq, not_false_eq_true, Int.reduceEq, Int.reduceNe, true_and, Nat.reduceSub, Nat.reduceMul, ↓reduceIte, reduceCtorEq, Nat.reduceEqDiff, Nat.reduceAdd, Nat.reduceLeDiff, Int.reduceLE, cZ1, hyZ2a, hyZ2b]
      all_goals simp [qL, qJ, qJ0, qS, qX, qR, qM, Shp, sub, tupd, VS1, VS2, VS3, VS4, VS5, VS6, VT1, VT2, V85]
theorem w_slices_Clone_Lint_int (sZ0 : List Int) {r : List Int} (h : M_slices_Clone_Lint_int sZ0 = some r) : Ok Try.prog 86 [.lst .o 1 (sZ0.map AV.i)] ((fun r => .lst .u 1 (r.map AV.i)) r) := by
  refine ok_of_body hmix m86 rfl ?_
  unfold M_slices_Clone_Lint_int at h
  simp only [A86, V86, body_eq]
  refine Or.elim (bt (sZ0.isEmpty)) (fun cZ1 => ?_) (fun cZ1 => ?_)
  · replace h := cond_t cZ1 h
    simp only [VS1, VS2, VS3, VS4, VS5, VS6, VT1, VT2, finM_ret, finM_nrm, decide_true, decide_false, List.nodup_nil, List.nodup_cons, oks_p, oks_m, oks_h, ne_eq, not_false_eq_true, Int.reduceEq, Int.reduceNe, true_and, Nat.reduceSub, Nat.reduceMul, ↓reduceIte, reduceCtorEq, Nat.reduceEqDiff, Nat.reduceAdd, Nat.reduceLeDiff, Int.reduceLE, cZ1]
    refine And.intro ?_ ?_
    · replace h := amb_l h
      cases h
      try simp only [VS1, VS2, VS3, VS4, VS5, VS6, VT1, VT2, finM_ret, finM_nrm, decide_true, decide_false, List.nodup_nil, List.nodup_cons, oks_p, oks_m, oks_h, ne_eq, not_false_eq_true, Int.reduceEq, Int.reduceNe, true_and, Nat.reduceSub, Nat.reduceMul, ↓reduceIte, reduceCtorEq, Nat.reduceEqDiff, Nat.reduceAdd, Nat.reduceLeDiff, Int.reduceLE, cZ1]
      all_goals simp [qL, qJ, qJ0, qS, qX, qR, qM, Shp, sub, tupd, VS1, VS2, VS3, VS4, VS5, VS6, VT1, VT2, V86]
    · replace h := amb_r h
      obtain ⟨uZ2, huZ2, h⟩ := bind_s h
      have huZ2g := grd_s huZ2
      cases h
      try simp only [VS1, VS2, VS3, VS4, VS5, VS6, VT1, VT2, finM_ret, finM_nrm, decide_true, decide_false, List.nodup_nil, List.nodup_cons, oks_p, oks_m, oks_h, ne_eq, not_false_eq_true, Int.reduceEq, Int.reduceNe, true_and, Nat.reduceSub, Nat.reduceMul, ↓reduceIte, reduceCtorEq, Nat.reduceEqDiff, Nat.reduceAdd, Nat.reduceLeDiff, Int.reduceLE, cZ1, huZ2g]
      all_goals simp [qL, qJ, qJ0, qS, qX, qR, qM, Shp, sub, tupd, VS1, VS2, VS3, VS4, VS5, VS6, VT1, VT2, V86]
  · replace h := cond_f cZ1 h
    obtain ⟨uZ3, huZ3, h⟩ := bind_s h
    have huZ3g := grd_s huZ3
    cases h
    try simp only [VS1, VS2, VS3, VS4, VS5, VS6, VT1, VT2, finM_ret, finM_nrm, decide_true, decide_false, List.nodup_nil, List.nodup_cons, oks_p, oks_m, oks_h, ne_eq, not_false_eq_true, Int.reduceEq, Int.reduceNe, true_and, Nat.reduceSub, Nat.reduceMul, ↓reduceIte, reduceCtorEq, Nat.reduceEqDiff, Nat.reduceAdd, Nat.reduceLeDiff, Int.reduceLE, cZ1, huZ3g]
    all_goals simp [qL, qJ, qJ0, qS, qX, qR, qM, Shp, sub, tupd, VS1, VS2, VS3, VS4, VS5, VS6, VT1, VT2, V86]
def S_slices_Reverse_Lint_intM1L1 (v : Int × Int × List Int) : St := ⟨[(0, .sl 1000000000 0 v.2.2.length), (2, .i v.1), (3, .i v.2.1)], [(1000000000, .arr 1 (v.2.2.map AV.i))]⟩
def SX_slices_Reverse_Lint_intM1L1 (v : List Int) : St := ⟨[], [(1000000000, .arr 1 (v.map AV.i))]⟩
theorem w_slices_Reverse_Lint_intM1L1 (sZ1 : Int × Int × List Int) (o : (Int × Int × List Int) ⊕ (List Int)) (h : M_slices_Reverse_Lint_intM1L1 sZ1 = some o) : AWP (OkS Try.prog) A87M1L1 (qL [0, 2, 3] [1000000000] (S_slices_Reverse_Lint_intM1L1) (qX 0 [] [1000000000] (SX_slices_Reverse_Lint_intM1L1)) o) (S_slices_Reverse_Lint_intM1L1 sZ1) := by
  unfold M_slices_Reverse_Lint_intM1L1 at h
  simp only [S_slices_Reverse_Lint_intM1L1, A87M1L1]
  refine Or.elim (bt (decide (sZ1.1 < sZ1.2.1))) (fun cZ2 => ?_) (fun cZ2 => ?_)
  · replace h := cond_t cZ2 h
    obtain ⟨kZ3, hkZ3, h⟩ := bind_s h
    obtain ⟨hkZ3a, hkZ3b⟩ := grd_s hkZ3
    obtain ⟨yZ4, hyZ4, h⟩ := bind_s h
    obtain ⟨kZ5, hkZ5, h⟩ := bind_s h
    obtain ⟨hkZ5a, hkZ5b⟩ := grd_s hkZ5
    obtain ⟨yZ6, hyZ6, h⟩ := bind_s h
    obtain ⟨lZ7, hlZ7, h⟩ := bnd_s h
    have eZ8 : (sZ1.2.2.map AV.i).set (Int.toNat sZ1.1) (.i yZ4) = lZ7.map AV.i := by rw [← hlZ7, List.map_set]
    obtain ⟨yZ9, hyZ9, h⟩ := bind_s h
    obtain ⟨lZ10, hlZ10, h⟩ := bnd_s h
    have eZ11 : (lZ7.map AV.i).set (Int.toNat sZ1.2.1) (.i yZ6) = lZ10.map AV.i := by rw [← hlZ10, List.map_set]
    cases h
    try simp only [VS1, VS2, VS3, VS4, VS5, VS6, VT1, VT2, finM_ret, finM_nrm, decide_true, decide_false, List.nodup_nil, List.nodup_cons, oks_p, oks_m, oks_h, ne_eq, not_false_eq_true, Int.reduceEq, Int.reduceNe, true_and, Nat.reduceSub, Nat.reduceMul, ↓reduceIte, reduceCtorEq, Nat.reduceEqDiff, Nat.reduceAdd, Nat.reduceLeDiff, Int.reduceLE, cZ2, hkZ3a, hkZ3b, hyZ4, hkZ5a, hkZ5b, hyZ6, eZ8, hyZ9, eZ11]
    all_goals simp [qL, qJ, qJ0, qS, qX, qR, qM, Shp, sub, tupd, VS1, VS2, VS3, VS4, VS5, VS6, VT1, VT2, S_slices_Reverse_Lint_intM1L1, SX_slices_Reverse_Lint_intM1L1, ← hlZ7, ← hlZ10]
  · replace h := cond_f cZ2 h
    cases h
    try simp only [VS1, VS2, VS3, VS4, VS5, VS6, VT1, VT2, finM_ret, finM_nrm, decide_true, decide_false, List.nodup_nil, List.nodup_cons, oks_p, oks_m, oks_h, ne_eq, not_false_eq_true, Int.reduceEq, Int.reduceNe, true_and, Nat.reduceSub, Nat.reduceMul, ↓reduceIte, reduceCtorEq, Nat.reduceEqDiff, Nat.reduceAdd, Nat.reduceLeDiff, Int.reduceLE, cZ2]
    all_goals simp [qL, qJ, qJ0, qS, qX, qR, qM, Shp, sub, tupd, VS1, VS2, VS3, VS4, VS5, VS6, VT1, VT2, S_slices_Reverse_Lint_intM1L1, SX_slices_Reverse_Lint_intM1L1]
theorem w_slices_Reverse_Lint_intM1 (aaZ0 : List Int) {r : List Int} (h : M_slices_Reverse_Lint_intM1 aaZ0 = some r) : OkM Try.prog 87 [.sl 1000000000 0 aaZ0.length] [(1000000000, .arr 1 (aaZ0.map AV.i))] ((fun (r : List Int) => .tup []) r) ((fun (r : List Int) => [(1000000000, .arr 1 (r.map AV.i))]) r) := by
  refine okM_of_body (lr := [1000000000]) hmix m87M1 rfl rfl ?_
  unfold M_slices_Reverse_Lint_intM1 at h
  simp only [A87M1, V87M1]
  obtain ⟨oZ12, hoZ12, h⟩ := bind_s h
  try simp only [VS1, VS2, VS3, VS4, VS5, VS6, VT1, VT2, finM_ret, finM_nrm, decide_true, decide_false, List.nodup_nil, List.nodup_cons, oks_p, oks_m, oks_h, ne_eq, not_false_eq_true, Int.reduceEq, Int.reduceNe, true_and, Nat.reduceSub, Nat.reduceMul, ↓reduceIte, reduceCtorEq, Nat.reduceEqDiff, Nat.reduceAdd, Nat.reduceLeDiff, Int.reduceLE]
  first | refine tail_rule0 (blk_rule0 (loop_rule (w_slices_Reverse_Lint_intM1L1) hoZ12 ?_)) (fun τ qZ13 => ?_) | refine tail_blk0 (loop_rule (w_slices_Reverse_Lint_intM1L1) hoZ12 ?_) (fun τ qZ13 => ?_)
  · all_goals simp [qL, qJ, qJ0, qS, qX, qR, qM, Shp, sub, tupd, VS1, VS2, VS3, VS4, VS5, VS6, VT1, VT2, S_slices_Reverse_Lint_intM1L1, SX_slices_Reverse_Lint_intM1L1]
  · cases h
    refine finM_shp qZ13 (by decide) ?_ rfl
    all_goals simp [qL, qJ, qJ0, qS, qX, qR, qM, Shp, sub, tupd, VS1, VS2, VS3, VS4, VS5, VS6, VT1, VT2, V87M1, SX_slices_Reverse_Lint_intM1L1]
def S_slices_Compare_Lint_intL1 (s1Z0 : List Int) (s2Z0 : List Int) (v : Int) : St := ⟨[(0, .lst .o 1 (s1Z0.map AV.i)), (1, .lst .o 1 (s2Z0.map AV.i)), (9, .lst .o 1 (s1Z0.map AV.i)), (10, .i (s1Z0.length : Int)), (11, .i v)], []⟩
def SX_slices_Compare_Lint_intL1 (s1Z0 : List Int) (s2Z0 : List Int) (v : Unit) : St := ⟨[(0, .lst .o 1 (s1Z0.map AV.i)), (1, .lst .o 1 (s2Z0.map AV.i))], []⟩
theorem w_slices_Compare_Lint_intL1 (s1Z0 : List Int) (s2Z0 : List Int) (sZ1 : Int) (o : Int ⊕ (Unit ⊕ Int)) (h : M_slices_Compare_Lint_intL1 s1Z0 s2Z0 sZ1 = some o) : AWP (OkS Try.prog) A88L1 (qL [0, 1, 9, 10, 11] [] (S_slices_Compare_Lint_intL1 s1Z0 s2Z0) (qS (qX 0 [0, 1] [] (SX_slices_Compare_Lint_intL1 s1Z0 s2Z0)) (qR V88 (fun r => .i r))) o) (S_slices_Compare_Lint_intL1 s1Z0 s2Z0 sZ1) := by
  unfold M_slices_Compare_Lint_intL1 at h
  simp only [S_slices_Compare_Lint_intL1, A88L1]
  refine Or.elim (bt (decide (sZ1 < (s1Z0.length : Int)))) (fun cZ2 => ?_) (fun cZ2 => ?_)
  · replace h := cond_t cZ2 h
    obtain ⟨yZ3, hyZ3, h⟩ := bind_s h
    obtain ⟨hyZ3a, hyZ3b⟩ := geti_s hyZ3
    refine Or.elim (bt (decide ((s2Z0.length : Int) ≤ sZ1))) (fun cZ4 => ?_) (fun cZ4 => ?_)
    · replace h := cond_t cZ4 h
      cases h
      try simp only [VS1, VS2, VS3, VS4, VS5, VS6, VT1, VT2, finM_ret, finM_nrm, decide_true, decide_false, List.nodup_nil, List.nodup_cons, oks_p, oks_m, oks_h, ne_eq, not_false_eq_true, Int.reduceEq, Int.reduceNe, true_and, Nat.reduceSub, Nat.reduceMul, ↓reduceIte, reduceCtorEq, Nat.reduceEqDiff, Nat.reduceAdd, Nat.reduceLeDiff, Int.reduceLE, cZ2, hyZ3a, hyZ3b, cZ4]
      all_goals simp [qL, qJ, qJ0, qS, qX, qR, qM, Shp, sub, tupd, VS1, VS2, VS3, VS4, VS5, VS6, VT1, VT2, V88]
    · replace h := cond_f cZ4 h
      obtain ⟨yZ5, hyZ5, h⟩ := bind_s h
      obtain ⟨hyZ5a, hyZ5b⟩ := geti_s hyZ5
      obtain ⟨rZ6, hrZ6, h⟩ := bind_s h
      simp only [VS1, VS2, VS3, VS4, VS5, VS6, VT1, VT2, finM_ret, finM_nrm, decide_true, decide_false, List.nodup_nil, List.nodup_cons, oks_p, oks_m, oks_h, ne_eq, not_false_eq_true, Int.reduceEq, Int.reduceNe, true_and, Nat.reduceSub, Nat.reduceMul, ↓reduceIte, reduceCtorEq, Nat.reduceEqDiff, Nat.reduceAdd, Nat.reduceLeDiff, Int.reduceLE, cZ2, hyZ3a, hyZ3b, cZ4, hyZ5a, hyZ5b]
      refine call_s (by simp only [VS1, VS2, VS3, VS4, VS5, VS6, VT1, VT2, finM_ret, finM_nrm, decide_true, decide_false, List.nodup_nil, List.nodup_cons, oks_p, oks_m, oks_h, ne_eq, not_false_eq_true, Int.reduceEq, Int.reduceNe, true_and, Nat.reduceSub, Nat.reduceMul, ↓reduceIte, reduceCtorEq, Nat.reduceEqDiff, Nat.reduceAdd, Nat.reduceLeDiff, Int.reduceLE, cZ2, hyZ3a, hyZ3b, cZ4, hyZ5a, hyZ5b]; exact w_cmp_Compare_int _ _ hrZ6 ) ?_
      simp only [VA, VF1, ↓reduceIte, Nat.reduceEqDiff, Nat.reduceAdd, Nat.reduceMul, Nat.reduceSub, Nat.reduceLeDiff]
      refine Or.elim (bt (rZ6 != 0)) (fun cZ7 => ?_) (fun cZ7 => ?_)
      · replace h := cond_t cZ7 h
        cases h
        try simp only [VS1, VS2, VS3, VS4, VS5, VS6, VT1, VT2, finM_ret, finM_nrm, decide_true, decide_false, List.nodup_nil, List.nodup_cons, oks_p, oks_m, oks_h, ne_eq, not_false_eq_true, Int.reduceEq, Int.reduceNe, true_and, Nat.reduceSub, Nat.reduceMul, ↓reduceIte, reduceCtorEq, Nat.reduceEqDiff, Nat.reduceAdd, Nat.reduceLeDiff, Int.reduceLE, cZ2, hyZ3a, hyZ3b, cZ4, hyZ5a, hyZ5b, cZ7]
        all_goals simp [qL, qJ, qJ0, qS, qX, qR, qM, Shp, sub, tupd, VS1, VS2, VS3, VS4, VS5, VS6, VT1, VT2, V88]
      · replace h := cond_f cZ7 h
        cases h
        try simp only [VS1, VS2, VS3, VS4, VS5, VS6, VT1, VT2, finM_ret, finM_nrm, decide_true, decide_false, List.nodup_nil, List.nodup_cons, oks_p, oks_m, oks_h, ne_eq, not_false_eq_true, Int.reduceEq, Int.reduceNe, true_and, Nat.reduceSub, Nat.reduceMul, ↓reduceIte, reduceCtorEq, Nat.reduceEqDiff, Nat.reduceAdd, Nat.reduceLeDiff, Int.reduceLE, cZ2, hyZ3a, hyZ3b, cZ4, hyZ5a, hyZ5b, cZ7]
        all_goals simp [qL, qJ, qJ0, qS, qX, qR, qM, Shp, sub, tupd, VS1, VS2, VS3, VS4, VS5, VS6, VT1, VT2, S_slices_Compare_Lint_intL1, SX_slices_Compare_Lint_intL1]
  · replace h := cond_f cZ2 h
    cases h
    try simp only [VS1, VS2, VS3, VS4, VS5, VS6, VT1, VT2, finM_ret, finM_nrm, decide_true, decide_false, List.nodup_nil, List.nodup_cons, oks_p, oks_m, oks_h, ne_eq, not_false_eq_true, Int.reduceEq, Int.reduceNe, true_and, Nat.reduceSub, Nat.reduceMul, ↓reduceIte, reduceCtorEq, Nat.reduceEqDiff, Nat.reduceAdd, Nat.reduceLeDiff, Int.reduceLE, cZ2]
    all_goals simp [qL, qJ, qJ0, qS, qX, qR, qM, Shp, sub, tupd, VS1, VS2, VS3, VS4, VS5, VS6, VT1, VT2, S_slices_Compare_Lint_intL1, SX_slices_Compare_Lint_intL1]
theorem w_slices_Compare_Lint_int (s1Z0 : List Int) (s2Z0 : List Int) {r : Int} (h : M_slices_Compare_Lint_int s1Z0 s2Z0 = some r) : Ok Try.prog 88 [.lst .o 1 (s1Z0.map AV.i), .lst .o 1 (s2Z0.map AV.i)] ((fun r => .i r) r) := by
  refine ok_of_body hmix m88 rfl ?_
  unfold M_slices_Compare_Lint_int at h
  simp only [A88, V88, body_eq]
  obtain ⟨oZ8, hoZ8, h⟩ := bind_s h
  try simp only [VS1, VS2, VS3, VS4, VS5, VS6, VT1, VT2, finM_ret, finM_nrm, decide_true, decide_false, List.nodup_nil, List.nodup_cons, oks_p, oks_m, oks_h, ne_eq, not_false_eq_true, Int.reduceEq, Int.reduceNe, true_and, Nat.reduceSub, Nat.reduceMul, ↓reduceIte, reduceCtorEq, Nat.reduceEqDiff, Nat.reduceAdd, Nat.reduceLeDiff, Int.reduceLE]
  refine join_rule (o := oZ8) (blk_rule sideR (loop_rule (w_slices_Compare_Lint_intL1 s1Z0 s2Z0) hoZ8 ?_)) (fun vZ9 hv => ?_) (fun xZ10 hv e τ hne hq => ?_)
  · all_goals simp [qL, qJ, qJ0, qS, qX, qR, qM, Shp, sub, tupd, VS1, VS2, VS3, VS4, VS5, VS6, VT1, VT2, S_slices_Compare_Lint_intL1, SX_slices_Compare_Lint_intL1]
  · subst hv
    simp only [] at h
    simp only [SX_slices_Compare_Lint_intL1, A88R2]
    refine Or.elim (bt (decide ((s1Z0.length : Int) < (s2Z0.length : Int)))) (fun cZ11 => ?_) (fun cZ11 => ?_)
    · replace h := cond_t cZ11 h
      cases h
      try simp only [VS1, VS2, VS3, VS4, VS5, VS6, VT1, VT2, finM_ret, finM_nrm, decide_true, decide_false, List.nodup_nil, List.nodup_cons, oks_p, oks_m, oks_h, ne_eq, not_false_eq_true, Int.reduceEq, Int.reduceNe, true_and, Nat.reduceSub, Nat.reduceMul, ↓reduceIte, reduceCtorEq, Nat.reduceEqDiff, Nat.reduceAdd, Nat.reduceLeDiff, Int.reduceLE, cZ11]
      all_goals simp [qL, qJ, qJ0, qS, qX, qR, qM, Shp, sub, tupd, VS1, VS2, VS3, VS4, VS5, VS6, VT1, VT2, V88]
    · replace h := cond_f cZ11 h
      cases h
      try simp only [VS1, VS2, VS3, VS4, VS5, VS6, VT1, VT2, finM_ret, finM_nrm, decide_true, decide_false, List.nodup_nil, List.nodup_cons, oks_p, oks_m, oks_h, ne_eq, not_false_eq_true, Int.reduceEq, Int.reduceNe, true_and, Nat.reduceSub, Nat.reduceMul, ↓reduceIte, reduceCtorEq, Nat.reduceEqDiff, Nat.reduceAdd, Nat.reduceLeDiff, Int.reduceLE, cZ11]
      all_goals simp [qL, qJ, qJ0, qS, qX, qR, qM, Shp, sub, tupd, VS1, VS2, VS3, VS4, VS5, VS6, VT1, VT2, V88]
  · subst hv
    simp only [] at h
    obtain ⟨rfl, qZ12⟩ := hq
    cases h
    exact qZ12
def S_impl_aroundL1 (ringZ0 : List Int) (rZ8 : List Int × Int × Bool) (v : Int) : St := ⟨[(1, .lst .o 1 (ringZ0.map AV.i)), (7, .sl 7 0 rZ8.1.length), (56, .sl 7 0 rZ8.1.length), (57, .i (rZ8.1.length : Int)), (58, .i v)], [(7, .arr 1 (rZ8.1.map AV.i))]⟩
def SX_impl_aroundL1 (ringZ0 : List Int) (rZ8 : List Int × Int × Bool) (v : Unit) : St := ⟨[(1, .lst .o 1 (ringZ0.map AV.i)), (7, .sl 7 0 rZ8.1.length)], [(7, .arr 1 (rZ8.1.map AV.i))]⟩
theorem w_impl_aroundL1 (ringZ0 : List Int) (rZ8 : List Int × Int × Bool) (sZ14 : Int) (o : Int ⊕ (Unit ⊕ (List Int × Bool))) (h : M_impl_aroundL1 rZ8 sZ14 = some o) : AWP (OkS Try.prog) A48L3 (qL [1, 7, 56, 57, 58] [7] (S_impl_aroundL1 ringZ0 rZ8) (qS (qX 0 [1, 7] [7] (SX_impl_aroundL1 ringZ0 rZ8)) (qR V48 (fun r => .tup [.lst .u 1 (r.1.map AV.i), .b r.2]))) o) (S_impl_aroundL1 ringZ0 rZ8 sZ14) := by
  unfold M_impl_aroundL1 at h
  simp only [S_impl_aroundL1, A48L3]
  refine Or.elim (bt (decide (sZ14 < (rZ8.1.length : Int)))) (fun cZ15 => ?_) (fun cZ15 => ?_)
  · replace h := cond_t cZ15 h
    obtain ⟨kZ16, hkZ16, h⟩ := bind_s h
    obtain ⟨hkZ16a, hkZ16b⟩ := grd_s hkZ16
    obtain ⟨yZ17, hyZ17, h⟩ := bind_s h
    obtain ⟨uZ18, huZ18, h⟩ := bind_s h
    obtain ⟨huZ18a, huZ18b, huZ18c, huZ18d⟩ := grd_s huZ18
    obtain ⟨lZ19, hlZ19, h⟩ := bnd_s h
    have eZ20 : sub (rZ8.1.map AV.i) 0 (Int.toNat sZ14) = lZ19.map AV.i := by rw [sub_mapT, hlZ19]
    obtain ⟨rZ21, hrZ21, h⟩ := bind_s h
    simp only [VS1, VS2, VS3, VS4, VS5, VS6, VT1, VT2, finM_ret, finM_nrm, decide_true, decide_false, List.nodup_nil, List.nodup_cons, oks_p, oks_m, oks_h, ne_eq, not_false_eq_true, Int.reduceEq, Int.reduceNe, true_and, Nat.reduceSub, Nat.reduceMul, ↓reduceIte, reduceCtorEq, Nat.reduceEqDiff, Nat.reduceAdd, Nat.reduceLeDiff, Int.reduceLE, cZ15, hkZ16a, hkZ16b, hyZ17, huZ18a, huZ18b, huZ18c, huZ18d, eZ20]
    refine call_s (by simp only [VS1, VS2, VS3, VS4, VS5, VS6, VT1, VT2, finM_ret, finM_nrm, decide_true, decide_false, List.nodup_nil, List.nodup_cons, oks_p, oks_m, oks_h, ne_eq, not_false_eq_true, Int.reduceEq, Int.reduceNe, true_and, Nat.reduceSub, Nat.reduceMul, ↓reduceIte, reduceCtorEq, Nat.reduceEqDiff, Nat.reduceAdd, Nat.reduceLeDiff, Int.reduceLE, cZ15, hkZ16a, hkZ16b, hyZ17, huZ18a, huZ18b, huZ18c, huZ18d, eZ20]; exact w_slices_Contains_Lint_int _ _ hrZ21 ) ?_
    simp only [VA, VF1, ↓reduceIte, Nat.reduceEqDiff, Nat.reduceAdd, Nat.reduceMul, Nat.reduceSub, Nat.reduceLeDiff]
    refine Or.elim (bt (rZ21)) (fun cZ22 => ?_) (fun cZ22 => ?_)
    · replace h := cond_t cZ22 h
      cases h
      try simp only [VS1, VS2, VS3, VS4, VS5, VS6, VT1, VT2, finM_ret, finM_nrm, decide_true, decide_false, List.nodup_nil, List.nodup_cons, oks_p, oks_m, oks_h, ne_eq, not_false_eq_true, Int.reduceEq, Int.reduceNe, true_and, Nat.reduceSub, Nat.reduceMul, ↓reduceIte, reduceCtorEq, Nat.reduceEqDiff, Nat.reduceAdd, Nat.reduceLeDiff, Int.reduceLE, cZ15, hkZ16a, hkZ16b, hyZ17, huZ18a, huZ18b, huZ18c, huZ18d, eZ20, cZ22]
      all_goals simp [qL, qJ, qJ0, qS, qX, qR, qM, Shp, sub, tupd, VS1, VS2, VS3, VS4, VS5, VS6, VT1, VT2, V48]
    · replace h := cond_f cZ22 h
      cases h
      try simp only [VS1, VS2, VS3, VS4, VS5, VS6, VT1, VT2, finM_ret, finM_nrm, decide_true, decide_false, List.nodup_nil, List.nodup_cons, oks_p, oks_m, oks_h, ne_eq, not_false_eq_true, Int.reduceEq, Int.reduceNe, true_and, Nat.reduceSub, Nat.reduceMul, ↓reduceIte, reduceCtorEq, Nat.reduceEqDiff, Nat.reduceAdd, Nat.reduceLeDiff, Int.reduceLE, cZ15, hkZ16a, hkZ16b, hyZ17, huZ18a, huZ18b, huZ18c, huZ18d, eZ20, cZ22]
      all_goals simp [qL, qJ, qJ0, qS, qX, qR, qM, Shp, sub, tupd, VS1, VS2, VS3, VS4, VS5, VS6, VT1, VT2, S_impl_aroundL1, SX_impl_aroundL1]
  · replace h := cond_f cZ15 h
    cases h
    try simp only [VS1, VS2, VS3, VS4, VS5, VS6, VT1, VT2, finM_ret, finM_nrm, decide_true, decide_false, List.nodup_nil, List.nodup_cons, oks_p, oks_m, oks_h, ne_eq, not_false_eq_true, Int.reduceEq, Int.reduceNe, true_and, Nat.reduceSub, Nat.reduceMul, ↓reduceIte, reduceCtorEq, Nat.reduceEqDiff, Nat.reduceAdd, Nat.reduceLeDiff, Int.reduceLE, cZ15]
    all_goals simp [qL, qJ, qJ0, qS, qX, qR, qM, Shp, sub, tupd, VS1, VS2, VS3, VS4, VS5, VS6, VT1, VT2, S_impl_aroundL1, SX_impl_aroundL1]
theorem w_impl_around (nZ0 : TNetwork) (ringZ0 : List Int) {r : List Int × Bool} (h : M_impl_around nZ0 ringZ0 = some r) : Ok Try.prog 48 [.agg [.lst .o 1 (nZ0.Nodes.map AV.z), .lst .o 4 (nZ0.Fibers.map (e_TFiber .o))], .lst .o 1 (ringZ0.map AV.i)] ((fun r => .tup [.lst .u 1 (r.1.map AV.i), .b r.2]) r) := by
  refine ok_of_body hmix m48 rfl ?_
  unfold M_impl_around at h
  simp only [A48, V48, body_eq]
  obtain ⟨oZ4, hoZ4, h⟩ := bind_s h
  try simp only [VS1, VS2, VS3, VS4, VS5, VS6, VT1, VT2, finM_ret, finM_nrm, decide_true, decide_false, List.nodup_nil, List.nodup_cons, oks_p, oks_m, oks_h, ne_eq, not_false_eq_true, Int.reduceEq, Int.reduceNe, true_and, Nat.reduceSub, Nat.reduceMul, ↓reduceIte, reduceCtorEq, Nat.reduceEqDiff, Nat.reduceAdd, Nat.reduceLeDiff, Int.reduceLE]
  refine join_rule0 (sh := (fun v => ⟨[(1, .lst .o 1 (ringZ0.map AV.i)), (2, .pt 2 0 0), (26, .b v)], [(2, .var (.agg [.lst .o 1 (nZ0.Nodes.map AV.z), .lst .o 4 (nZ0.Fibers.map (e_TFiber .o))]))]⟩)) (s := oZ4) ?_ ?_
  · replace h := hoZ4
    refine Or.elim (bt (decide ((ringZ0.length : Int) < 2))) (fun cZ1 => ?_) (fun cZ1 => ?_)
    · replace h := cond_t cZ1 h
      cases h
      try simp only [VS1, VS2, VS3, VS4, VS5, VS6, VT1, VT2, finM_ret, finM_nrm, decide_true, decide_false, List.nodup_nil, List.nodup_cons, oks_p, oks_m, oks_h, ne_eq, not_false_eq_true, Int.reduceEq, Int.reduceNe, true_and, Nat.reduceSub, Nat.reduceMul, ↓reduceIte, reduceCtorEq, Nat.reduceEqDiff, Nat.reduceAdd, Nat.reduceLeDiff, Int.reduceLE, cZ1]
      all_goals simp [qL, qJ, qJ0, qS, qX, qR, qM, Shp, sub, tupd, VS1, VS2, VS3, VS4, VS5, VS6, VT1, VT2]
    · replace h := cond_f cZ1 h
      obtain ⟨yZ2, hyZ2, h⟩ := bind_s h
      obtain ⟨hyZ2a, hyZ2b⟩ := geti_s hyZ2
      obtain ⟨rZ3, hrZ3, h⟩ := bind_s h
      simp only [VS1, VS2, VS3, VS4, VS5, VS6, VT1, VT2, finM_ret, finM_nrm, decide_true, decide_false, List.nodup_nil, List.nodup_cons, oks_p, oks_m, oks_h, ne_eq, not_false_eq_true, Int.reduceEq, Int.reduceNe, true_and, Nat.reduceSub, Nat.reduceMul, ↓reduceIte, reduceCtorEq, Nat.reduceEqDiff, Nat.reduceAdd, Nat.reduceLeDiff, Int.reduceLE, cZ1, hyZ2a, hyZ2b]
      refine call_s (by simp only [VS1, VS2, VS3, VS4, VS5, VS6, VT1, VT2, finM_ret, finM_nrm, decide_true, decide_false, List.nodup_nil, List.nodup_cons, oks_p, oks_m, oks_h, ne_eq, not_false_eq_true, Int.reduceEq, Int.reduceNe, true_and, Nat.reduceSub, Nat.reduceMul, ↓reduceIte, reduceCtorEq, Nat.reduceEqDiff, Nat.reduceAdd, Nat.reduceLeDiff, Int.reduceLE, cZ1, hyZ2a, hyZ2b]; exact w_impl_within _ _ _ hrZ3 ) ?_
      simp only [VA, VF1, ↓reduceIte, Nat.reduceEqDiff, Nat.reduceAdd, Nat.reduceMul, Nat.reduceSub, Nat.reduceLeDiff]
      cases h
      try simp only [VS1, VS2, VS3, VS4, VS5, VS6, VT1, VT2, finM_ret, finM_nrm, decide_true, decide_false, List.nodup_nil, List.nodup_cons, oks_p, oks_m, oks_h, ne_eq, not_false_eq_true, Int.reduceEq, Int.reduceNe, true_and, Nat.reduceSub, Nat.reduceMul, ↓reduceIte, reduceCtorEq, Nat.reduceEqDiff, Nat.reduceAdd, Nat.reduceLeDiff, Int.reduceLE, cZ1, hyZ2a, hyZ2b]
      all_goals simp [qL, qJ, qJ0, qS, qX, qR, qM, Shp, sub, tupd, VS1, VS2, VS3, VS4, VS5, VS6, VT1, VT2]
  · simp only [A48R1]
    refine Or.elim (bt (oZ4)) (fun cZ5 => ?_) (fun cZ5 => ?_)
    · replace h := cond_t cZ5 h
      cases h
      try simp only [VS1, VS2, VS3, VS4, VS5, VS6, VT1, VT2, finM_ret, finM_nrm, decide_true, decide_false, List.nodup_nil, List.nodup_cons, oks_p, oks_m, oks_h, ne_eq, not_false_eq_true, Int.reduceEq, Int.reduceNe, true_and, Nat.reduceSub, Nat.reduceMul, ↓reduceIte, reduceCtorEq, Nat.reduceEqDiff, Nat.reduceAdd, Nat.reduceLeDiff, Int.reduceLE, cZ5]
      all_goals simp [qL, qJ, qJ0, qS, qX, qR, qM, Shp, sub, tupd, VS1, VS2, VS3, VS4, VS5, VS6, VT1, VT2, V48]
    · replace h := cond_f cZ5 h
      obtain ⟨yZ6, hyZ6, h⟩ := bind_s h
      obtain ⟨hyZ6a, hyZ6b⟩ := geti_s hyZ6
      obtain ⟨yZ7, hyZ7, h⟩ := bind_s h
      obtain ⟨hyZ7a, hyZ7b⟩ := geti_s hyZ7
      obtain ⟨rZ8, hrZ8, h⟩ := bind_s h
      simp only [VS1, VS2, VS3, VS4, VS5, VS6, VT1, VT2, finM_ret, finM_nrm, decide_true, decide_false, List.nodup_nil, List.nodup_cons, oks_p, oks_m, oks_h, ne_eq, not_false_eq_true, Int.reduceEq, Int.reduceNe, true_and, Nat.reduceSub, Nat.reduceMul, ↓reduceIte, reduceCtorEq, Nat.reduceEqDiff, Nat.reduceAdd, Nat.reduceLeDiff, Int.reduceLE, cZ5, hyZ6a, hyZ6b, hyZ7a, hyZ7b]
      refine call_u (by simp only [VS1, VS2, VS3, VS4, VS5, VS6, VT1, VT2, finM_ret, finM_nrm, decide_true, decide_false, List.nodup_nil, List.nodup_cons, oks_p, oks_m, oks_h, ne_eq, not_false_eq_true, Int.reduceEq, Int.reduceNe, true_and, Nat.reduceSub, Nat.reduceMul, ↓reduceIte, reduceCtorEq, Nat.reduceEqDiff, Nat.reduceAdd, Nat.reduceLeDiff, Int.reduceLE, cZ5, hyZ6a, hyZ6b, hyZ7a, hyZ7b]; exact w_impl_followed _ _ _ hrZ8 ) (by simp [AV.allU, allUL, allUL_iff, VT1, VT2]) (by simp only [VS1, VS2, VS3, VS4, VS5, VS6, VT1, VT2, finM_ret, finM_nrm, decide_true, decide_false, List.nodup_nil, List.nodup_cons, oks_p, oks_m, oks_h, ne_eq, not_false_eq_true, Int.reduceEq, Int.reduceNe, true_and, Nat.reduceSub, Nat.reduceMul, ↓reduceIte, reduceCtorEq, Nat.reduceEqDiff, Nat.reduceAdd, Nat.reduceLeDiff, Int.reduceLE, Nat.reduceLT]) ?_
      simp only [VA, VF1, ↓reduceIte, Nat.reduceEqDiff, Nat.reduceAdd, Nat.reduceMul, Nat.reduceSub, Nat.reduceLeDiff]
      obtain ⟨oZ12, hoZ12, h⟩ := bind_s h
      try simp only [VS1, VS2, VS3, VS4, VS5, VS6, VT1, VT2, finM_ret, finM_nrm, decide_true, decide_false, List.nodup_nil, List.nodup_cons, oks_p, oks_m, oks_h, ne_eq, not_false_eq_true, Int.reduceEq, Int.reduceNe, true_and, Nat.reduceSub, Nat.reduceMul, ↓reduceIte, reduceCtorEq, Nat.reduceEqDiff, Nat.reduceAdd, Nat.reduceLeDiff, Int.reduceLE, cZ5, hyZ6a, hyZ6b, hyZ7a, hyZ7b]
      refine join_rule0 (sh := (fun v => ⟨[(1, .lst .o 1 (ringZ0.map AV.i)), (7, .sl 7 0 rZ8.1.length), (55, .b v)], [(7, .arr 1 (rZ8.1.map AV.i))]⟩)) (s := oZ12) ?_ ?_
      · replace h := hoZ12
        refine Or.elim (bt (!rZ8.2.2)) (fun cZ9 => ?_) (fun cZ9 => ?_)
        · replace h := cond_t cZ9 h
          cases h
          try simp only [VS1, VS2, VS3, VS4, VS5, VS6, VT1, VT2, finM_ret, finM_nrm, decide_true, decide_false, List.nodup_nil, List.nodup_cons, oks_p, oks_m, oks_h, ne_eq, not_false_eq_true, Int.reduceEq, Int.reduceNe, true_and, Nat.reduceSub, Nat.reduceMul, ↓reduceIte, reduceCtorEq, Nat.reduceEqDiff, Nat.reduceAdd, Nat.reduceLeDiff, Int.reduceLE, cZ5, hyZ6a, hyZ6b, hyZ7a, hyZ7b, cZ9]
          all_goals simp [qL, qJ, qJ0, qS, qX, qR, qM, Shp, sub, tupd, VS1, VS2, VS3, VS4, VS5, VS6, VT1, VT2]
        · replace h := cond_f cZ9 h
          refine Or.elim (bt (rZ8.2.1 != yZ7.A)) (fun cZ10 => ?_) (fun cZ10 => ?_)
          · replace h := cond_t cZ10 h
            cases h
            try simp only [VS1, VS2, VS3, VS4, VS5, VS6, VT1, VT2, finM_ret, finM_nrm, decide_true, decide_false, List.nodup_nil, List.nodup_cons, oks_p, oks_m, oks_h, ne_eq, not_false_eq_true, Int.reduceEq, Int.reduceNe, true_and, Nat.reduceSub, Nat.reduceMul, ↓reduceIte, reduceCtorEq, Nat.reduceEqDiff, Nat.reduceAdd, Nat.reduceLeDiff, Int.reduceLE, cZ5, hyZ6a, hyZ6b, hyZ7a, hyZ7b, cZ9, cZ10]
            all_goals simp [qL, qJ, qJ0, qS, qX, qR, qM, Shp, sub, tupd, VS1, VS2, VS3, VS4, VS5, VS6, VT1, VT2]
          · replace h := cond_f cZ10 h
            obtain ⟨rZ11, hrZ11, h⟩ := bind_s h
            simp only [VS1, VS2, VS3, VS4, VS5, VS6, VT1, VT2, finM_ret, finM_nrm, decide_true, decide_false, List.nodup_nil, List.nodup_cons, oks_p, oks_m, oks_h, ne_eq, not_false_eq_true, Int.reduceEq, Int.reduceNe, true_and, Nat.reduceSub, Nat.reduceMul, ↓reduceIte, reduceCtorEq, Nat.reduceEqDiff, Nat.reduceAdd, Nat.reduceLeDiff, Int.reduceLE, cZ5, hyZ6a, hyZ6b, hyZ7a, hyZ7b, cZ9, cZ10]
            refine call_s (by simp only [VS1, VS2, VS3, VS4, VS5, VS6, VT1, VT2, finM_ret, finM_nrm, decide_true, decide_false, List.nodup_nil, List.nodup_cons, oks_p, oks_m, oks_h, ne_eq, not_false_eq_true, Int.reduceEq, Int.reduceNe, true_and, Nat.reduceSub, Nat.reduceMul, ↓reduceIte, reduceCtorEq, Nat.reduceEqDiff, Nat.reduceAdd, Nat.reduceLeDiff, Int.reduceLE, cZ5, hyZ6a, hyZ6b, hyZ7a, hyZ7b, cZ9, cZ10]; exact w_slices_Min_Lint_int _ hrZ11 ) ?_
            simp only [VA, VF1, ↓reduceIte, Nat.reduceEqDiff, Nat.reduceAdd, Nat.reduceMul, Nat.reduceSub, Nat.reduceLeDiff]
            cases h
            try simp only [VS1, VS2, VS3, VS4, VS5, VS6, VT1, VT2, finM_ret, finM_nrm, decide_true, decide_false, List.nodup_nil, List.nodup_cons, oks_p, oks_m, oks_h, ne_eq, not_false_eq_true, Int.reduceEq, Int.reduceNe, true_and, Nat.reduceSub, Nat.reduceMul, ↓reduceIte, reduceCtorEq, Nat.reduceEqDiff, Nat.reduceAdd, Nat.reduceLeDiff, Int.reduceLE, cZ5, hyZ6a, hyZ6b, hyZ7a, hyZ7b, cZ9, cZ10]
            all_goals simp [qL, qJ, qJ0, qS, qX, qR, qM, Shp, sub, tupd, VS1, VS2, VS3, VS4, VS5, VS6, VT1, VT2]
      · simp only [A48R2]
        refine Or.elim (bt (oZ12)) (fun cZ13 => ?_) (fun cZ13 => ?_)
        · replace h := cond_t cZ13 h
          cases h
          try simp only [VS1, VS2, VS3, VS4, VS5, VS6, VT1, VT2, finM_ret, finM_nrm, decide_true, decide_false, List.nodup_nil, List.nodup_cons, oks_p, oks_m, oks_h, ne_eq, not_false_eq_true, Int.reduceEq, Int.reduceNe, true_and, Nat.reduceSub, Nat.reduceMul, ↓reduceIte, reduceCtorEq, Nat.reduceEqDiff, Nat.reduceAdd, Nat.reduceLeDiff, Int.reduceLE, cZ5, hyZ6a, hyZ6b, hyZ7a, hyZ7b, cZ13]
          all_goals simp [qL, qJ, qJ0, qS, qX, qR, qM, Shp, sub, tupd, VS1, VS2, VS3, VS4, VS5, VS6, VT1, VT2, V48]
        · replace h := cond_f cZ13 h
          obtain ⟨oZ23, hoZ23, h⟩ := bind_s h
          try simp only [VS1, VS2, VS3, VS4, VS5, VS6, VT1, VT2, finM_ret, finM_nrm, decide_true, decide_false, List.nodup_nil, List.nodup_cons, oks_p, oks_m, oks_h, ne_eq, not_false_eq_true, Int.reduceEq, Int.reduceNe, true_and, Nat.reduceSub, Nat.reduceMul, ↓reduceIte, reduceCtorEq, Nat.reduceEqDiff, Nat.reduceAdd, Nat.reduceLeDiff, Int.reduceLE, cZ5, hyZ6a, hyZ6b, hyZ7a, hyZ7b, cZ13]
          refine join_rule (o := oZ23) (blk_rule sideR (loop_rule (w_impl_aroundL1 ringZ0 rZ8) hoZ23 ?_)) (fun vZ24 hv => ?_) (fun xZ25 hv e τ hne hq => ?_)
          · all_goals simp [qL, qJ, qJ0, qS, qX, qR, qM, Shp, sub, tupd, VS1, VS2, VS3, VS4, VS5, VS6, VT1, VT2, S_impl_aroundL1, SX_impl_aroundL1]
          · subst hv
            simp only [] at h
            simp only [SX_impl_aroundL1, A48R4]
            obtain ⟨rZ26, hrZ26, h⟩ := bind_s h
            simp only [VS1, VS2, VS3, VS4, VS5, VS6, VT1, VT2, finM_ret, finM_nrm, decide_true, decide_false, List.nodup_nil, List.nodup_cons, oks_p, oks_m, oks_h, ne_eq, not_false_eq_true, Int.reduceEq, Int.reduceNe, true_and, Nat.reduceSub, Nat.reduceMul, ↓reduceIte, reduceCtorEq, Nat.reduceEqDiff, Nat.reduceAdd, Nat.reduceLeDiff, Int.reduceLE, cZ5, hyZ6a, hyZ6b, hyZ7a, hyZ7b, cZ13]
            refine call_u (by simp only [VS1, VS2, VS3, VS4, VS5, VS6, VT1, VT2, finM_ret, finM_nrm, decide_true, decide_false, List.nodup_nil, List.nodup_cons, oks_p, oks_m, oks_h, ne_eq, not_false_eq_true, Int.reduceEq, Int.reduceNe, true_and, Nat.reduceSub, Nat.reduceMul, ↓reduceIte, reduceCtorEq, Nat.reduceEqDiff, Nat.reduceAdd, Nat.reduceLeDiff, Int.reduceLE, cZ5, hyZ6a, hyZ6b, hyZ7a, hyZ7b, cZ13]; exact w_slices_Clone_Lint_int _ hrZ26 ) (by simp [AV.allU, allUL, allUL_iff, VT1, VT2]) (by simp only [VS1, VS2, VS3, VS4, VS5, VS6, VT1, VT2, finM_ret, finM_nrm, decide_true, decide_false, List.nodup_nil, List.nodup_cons, oks_p, oks_m, oks_h, ne_eq, not_false_eq_true, Int.reduceEq, Int.reduceNe, true_and, Nat.reduceSub, Nat.reduceMul, ↓reduceIte, reduceCtorEq, Nat.reduceEqDiff, Nat.reduceAdd, Nat.reduceLeDiff, Int.reduceLE, Nat.reduceLT]) ?_
            simp only [VA, VF1, ↓reduceIte, Nat.reduceEqDiff, Nat.reduceAdd, Nat.reduceMul, Nat.reduceSub, Nat.reduceLeDiff]
            obtain ⟨rZ27, hrZ27, h⟩ := bind_s h
            simp only [VS1, VS2, VS3, VS4, VS5, VS6, VT1, VT2, finM_ret, finM_nrm, decide_true, decide_false, List.nodup_nil, List.nodup_cons, oks_p, oks_m, oks_h, ne_eq, not_false_eq_true, Int.reduceEq, Int.reduceNe, true_and, Nat.reduceSub, Nat.reduceMul, ↓reduceIte, reduceCtorEq, Nat.reduceEqDiff, Nat.reduceAdd, Nat.reduceLeDiff, Int.reduceLE, cZ5, hyZ6a, hyZ6b, hyZ7a, hyZ7b, cZ13]
            refine call_m (by simp only [VS1, VS2, VS3, VS4, VS5, VS6, VT1, VT2, finM_ret, finM_nrm, decide_true, decide_false, List.nodup_nil, List.nodup_cons, oks_p, oks_m, oks_h, ne_eq, not_false_eq_true, Int.reduceEq, Int.reduceNe, true_and, Nat.reduceSub, Nat.reduceMul, ↓reduceIte, reduceCtorEq, Nat.reduceEqDiff, Nat.reduceAdd, Nat.reduceLeDiff, Int.reduceLE, cZ5, hyZ6a, hyZ6b, hyZ7a, hyZ7b, cZ13]; first | exact w_slices_Reverse_Lint_intM1 _ hrZ27 | (have hw := w_slices_Reverse_Lint_intM1 _ hrZ27; simp only [VS1, VS2, VS3, VS4, VS5, VS6, VT1, VT2, finM_ret, finM_nrm, decide_true, decide_false, List.nodup_nil, List.nodup_cons, oks_p, oks_m, oks_h, ne_eq, not_false_eq_true, Int.reduceEq, Int.reduceNe, true_and, Nat.reduceSub, Nat.reduceMul, ↓reduceIte, reduceCtorEq, Nat.reduceEqDiff, Nat.reduceAdd, Nat.reduceLeDiff, Int.reduceLE, cZ5, hyZ6a, hyZ6b, hyZ7a, hyZ7b, cZ13] at hw; exact hw)) (by simp [VS1, VS2, VS3, VS4, VS5, VS6, VT1, VT2]) (by first | exact nm_ok [1000000000] rfl (by decide +kernel) | exact nm_ok2 [1000000000] [] rfl (by decide +kernel) (by simp [VS1, VS2, VS3, VS4, VS5, VS6, VT1, VT2]) | simp [VS1, VS2, VS3, VS4, VS5, VS6, VT1, VT2]) ?_
            simp only [VA, VF1, ↓reduceIte, Nat.reduceEqDiff, Nat.reduceAdd, Nat.reduceMul, Nat.reduceSub, Nat.reduceLeDiff]
            obtain ⟨lZ28, hlZ28, h⟩ := bnd_s h
            have eZ29 : sub (rZ27.map AV.i) 0 rZ26.length = lZ28.map AV.i := by rw [sub_mapT, hlZ28]
            obtain ⟨rZ30, hrZ30, h⟩ := bind_s h
            simp only [VS1, VS2, VS3, VS4, VS5, VS6, VT1, VT2, finM_ret, finM_nrm, decide_true, decide_false, List.nodup_nil, List.nodup_cons, oks_p, oks_m, oks_h, ne_eq, not_false_eq_true, Int.reduceEq, Int.reduceNe, true_and, Nat.reduceSub, Nat.reduceMul, ↓reduceIte, reduceCtorEq, Nat.reduceEqDiff, Nat.reduceAdd, Nat.reduceLeDiff, Int.reduceLE, cZ5, hyZ6a, hyZ6b, hyZ7a, hyZ7b, cZ13, eZ29]
            refine call_s (by simp only [VS1, VS2, VS3, VS4, VS5, VS6, VT1, VT2, finM_ret, finM_nrm, decide_true, decide_false, List.nodup_nil, List.nodup_cons, oks_p, oks_m, oks_h, ne_eq, not_false_eq_true, Int.reduceEq, Int.reduceNe, true_and, Nat.reduceSub, Nat.reduceMul, ↓reduceIte, reduceCtorEq, Nat.reduceEqDiff, Nat.reduceAdd, Nat.reduceLeDiff, Int.reduceLE, cZ5, hyZ6a, hyZ6b, hyZ7a, hyZ7b, cZ13, eZ29]; exact w_slices_Compare_Lint_int _ _ hrZ30 ) ?_
            simp only [VA, VF1, ↓reduceIte, Nat.reduceEqDiff, Nat.reduceAdd, Nat.reduceMul, Nat.reduceSub, Nat.reduceLeDiff]
            cases h
            try simp only [VS1, VS2, VS3, VS4, VS5, VS6, VT1, VT2, finM_ret, finM_nrm, decide_true, decide_false, List.nodup_nil, List.nodup_cons, oks_p, oks_m, oks_h, ne_eq, not_false_eq_true, Int.reduceEq, Int.reduceNe, true_and, Nat.reduceSub, Nat.reduceMul, ↓reduceIte, reduceCtorEq, Nat.reduceEqDiff, Nat.reduceAdd, Nat.reduceLeDiff, Int.reduceLE, cZ5, hyZ6a, hyZ6b, hyZ7a, hyZ7b, cZ13, eZ29]
            all_goals simp [qL, qJ, qJ0, qS, qX, qR, qM, Shp, sub, tupd, VS1, VS2, VS3, VS4, VS5, VS6, VT1, VT2, V48]
          · subst hv
            simp only [] at h
            obtain ⟨rfl, qZ31⟩ := hq
            cases h
            exact qZ31
theorem w_impl_RingNodes (nZ0 : TNetwork) (ringZ0 : List Int) {r : List Int × Bool} (h : M_impl_RingNodes nZ0 ringZ0 = some r) : Ok Try.prog 18 [.agg [.lst .o 1 (nZ0.Nodes.map AV.z), .lst .o 4 (nZ0.Fibers.map (e_TFiber .o))], .lst .o 1 (ringZ0.map AV.i)] ((fun r => .tup [.lst .u 1 (r.1.map AV.i), .b r.2]) r) := by
  refine ok_of_body hmix m18 rfl ?_
  unfold M_impl_RingNodes at h
  simp only [A18, V18, body_eq]
  obtain ⟨rZ1, hrZ1, h⟩ := bind_s h
  simp only [VS1, VS2, VS3, VS4, VS5, VS6, VT1, VT2, finM_ret, finM_nrm, decide_true, decide_false, List.nodup_nil, List.nodup_cons, oks_p, oks_m, oks_h, ne_eq, not_false_eq_true, Int.reduceEq, Int.reduceNe, true_and, Nat.reduceSub, Nat.reduceMul, ↓reduceIte, reduceCtorEq, Nat.reduceEqDiff, Nat.reduceAdd, Nat.reduceLeDiff, Int.reduceLE]
  refine call_s (by simp only [VS1, VS2, VS3, VS4, VS5, VS6, VT1, VT2, finM_ret, finM_nrm, decide_true, decide_false, List.nodup_nil, List.nodup_cons, oks_p, oks_m, oks_h, ne_eq, not_false_eq_true, Int.reduceEq, Int.reduceNe, true_and, Nat.reduceSub, Nat.reduceMul, ↓reduceIte, reduceCtorEq, Nat.reduceEqDiff, Nat.reduceAdd, Nat.reduceLeDiff, Int.reduceLE]; exact w_impl_IsValidNetwork _ hrZ1 ) ?_
  simp only [VA, VF1, ↓reduceIte, Nat.reduceEqDiff, Nat.reduceAdd, Nat.reduceMul, Nat.reduceSub, Nat.reduceLeDiff]
  refine Or.elim (bt (!rZ1)) (fun cZ2 => ?_) (fun cZ2 => ?_)
  · replace h := cond_t cZ2 h
    cases h
    try simp only [VS1, VS2, VS3, VS4, VS5, VS6, VT1, VT2, finM_ret, finM_nrm, decide_true, decide_false, List.nodup_nil, List.nodup_cons, oks_p, oks_m, oks_h, ne_eq, not_false_eq_true, Int.reduceEq, Int.reduceNe, true_and, Nat.reduceSub, Nat.reduceMul, ↓reduceIte, reduceCtorEq, Nat.reduceEqDiff, Nat.reduceAdd, Nat.reduceLeDiff, Int.reduceLE, cZ2]
    all_goals simp [qL, qJ, qJ0, qS, qX, qR, qM, Shp, sub, tupd, VS1, VS2, VS3, VS4, VS5, VS6, VT1, VT2, V18]
  · replace h := cond_f cZ2 h
    obtain ⟨rZ3, hrZ3, h⟩ := bind_s h
    simp only [VS1, VS2, VS3, VS4, VS5, VS6, VT1, VT2, finM_ret, finM_nrm, decide_true, decide_false, List.nodup_nil, List.nodup_cons, oks_p, oks_m, oks_h, ne_eq, not_false_eq_true, Int.reduceEq, Int.reduceNe, true_and, Nat.reduceSub, Nat.reduceMul, ↓reduceIte, reduceCtorEq, Nat.reduceEqDiff, Nat.reduceAdd, Nat.reduceLeDiff, Int.reduceLE, cZ2]
    refine call_u (by simp only [VS1, VS2, VS3, VS4, VS5, VS6, VT1, VT2, finM_ret, finM_nrm, decide_true, decide_false, List.nodup_nil, List.nodup_cons, oks_p, oks_m, oks_h, ne_eq, not_false_eq_true, Int.reduceEq, Int.reduceNe, true_and, Nat.reduceSub, Nat.reduceMul, ↓reduceIte, reduceCtorEq, Nat.reduceEqDiff, Nat.reduceAdd, Nat.reduceLeDiff, Int.reduceLE, cZ2]; exact w_impl_around _ _ hrZ3 ) (by simp [AV.allU, allUL, allUL_iff, VT1, VT2]) (by simp only [VS1, VS2, VS3, VS4, VS5, VS6, VT1, VT2, finM_ret, finM_nrm, decide_true, decide_false, List.nodup_nil, List.nodup_cons, oks_p, oks_m, oks_h, ne_eq, not_false_eq_true, Int.reduceEq, Int.reduceNe, true_and, Nat.reduceSub, Nat.reduceMul, ↓reduceIte, reduceCtorEq, Nat.reduceEqDiff, Nat.reduceAdd, Nat.reduceLeDiff, Int.reduceLE, Nat.reduceLT]) ?_
    simp only [VA, VF1, ↓reduceIte, Nat.reduceEqDiff, Nat.reduceAdd, Nat.reduceMul, Nat.reduceSub, Nat.reduceLeDiff]
    refine Or.elim (bt (!rZ3.2)) (fun cZ4 => ?_) (fun cZ4 => ?_)
    · replace h := cond_t cZ4 h
      cases h
      try simp only [VS1, VS2, VS3, VS4, VS5, VS6, VT1, VT2, finM_ret, finM_nrm, decide_true, decide_false, List.nodup_nil, List.nodup_cons, oks_p, oks_m, oks_h, ne_eq, not_false_eq_true, Int.reduceEq, Int.reduceNe, true_and, Nat.reduceSub, Nat.reduceMul, ↓reduceIte, reduceCtorEq, Nat.reduceEqDiff, Nat.reduceAdd, Nat.reduceLeDiff, Int.reduceLE, cZ2, cZ4]
      all_goals simp [qL, qJ, qJ0, qS, qX, qR, qM, Shp, sub, tupd, VS1, VS2, VS3, VS4, VS5, VS6, VT1, VT2, V18]
    · replace h := cond_f cZ4 h
      cases h
      try simp only [VS1, VS2, VS3, VS4, VS5, VS6, VT1, VT2, finM_ret, finM_nrm, decide_true, decide_false, List.nodup_nil, List.nodup_cons, oks_p, oks_m, oks_h, ne_eq, not_false_eq_true, Int.reduceEq, Int.reduceNe, true_and, Nat.reduceSub, Nat.reduceMul, ↓reduceIte, reduceCtorEq, Nat.reduceEqDiff, Nat.reduceAdd, Nat.reduceLeDiff, Int.reduceLE, cZ2, cZ4]
      all_goals simp [qL, qJ, qJ0, qS, qX, qR, qM, Shp, sub, tupd, VS1, VS2, VS3, VS4, VS5, VS6, VT1, VT2, V18]
theorem w_impl_IsRing (nZ0 : TNetwork) (ringZ0 : List Int) {r : Bool} (h : M_impl_IsRing nZ0 ringZ0 = some r) : Ok Try.prog 14 [.agg [.lst .o 1 (nZ0.Nodes.map AV.z), .lst .o 4 (nZ0.Fibers.map (e_TFiber .o))], .lst .o 1 (ringZ0.map AV.i)] ((fun r => .b r) r) := by
  refine ok_of_body hmix m14 rfl ?_
  unfold M_impl_IsRing at h
  simp only [A14, V14, body_eq]
  obtain ⟨rZ1, hrZ1, h⟩ := bind_s h
  simp only [VS1, VS2, VS3, VS4, VS5, VS6, VT1, VT2, finM_ret, finM_nrm, decide_true, decide_false, List.nodup_nil, List.nodup_cons, oks_p, oks_m, oks_h, ne_eq, not_false_eq_true, Int.reduceEq, Int.reduceNe, true_and, Nat.reduceSub, Nat.reduceMul, ↓reduceIte, reduceCtorEq, Nat.reduceEqDiff, Nat.reduceAdd, Nat.reduceLeDiff, Int.reduceLE]
  refine call_u (by simp only [VS1, VS2, VS3, VS4, VS5, VS6, VT1, VT2, finM_ret, finM_nrm, decide_true, decide_false, List.nodup_nil, List.nodup_cons, oks_p, oks_m, oks_h, ne_eq, not_false_eq_true, Int.reduceEq, Int.reduceNe, true_and, Nat.reduceSub, Nat.reduceMul, ↓reduceIte, reduceCtorEq, Nat.reduceEqDiff, Nat.reduceAdd, Nat.reduceLeDiff, Int.reduceLE]; exact w_impl_RingNodes _ _ hrZ1 ) (by simp [AV.allU, allUL, allUL_iff, VT1, VT2]) (by simp only [VS1, VS2, VS3, VS4, VS5, VS6, VT1, VT2, finM_ret, finM_nrm, decide_true, decide_false, List.nodup_nil, List.nodup_cons, oks_p, oks_m, oks_h, ne_eq, not_false_eq_true, Int.reduceEq, Int.reduceNe, true_and, Nat.reduceSub, Nat.reduceMul, ↓reduceIte, reduceCtorEq, Nat.reduceEqDiff, Nat.reduceAdd, Nat.reduceLeDiff, Int.reduceLE, Nat.reduceLT]) ?_
  simp only [VA, VF1, ↓reduceIte, Nat.reduceEqDiff, Nat.reduceAdd, Nat.reduceMul, Nat.reduceSub, Nat.reduceLeDiff]
  cases h
  try simp only [VS1, VS2, VS3, VS4, VS5, VS6, VT1, VT2, finM_ret, finM_nrm, decide_true, decide_false, List.nodup_nil, List.nodup_cons, oks_p, oks_m, oks_h, ne_eq, not_false_eq_true, Int.reduceEq, Int.reduceNe, true_and, Nat.reduceSub, Nat.reduceMul, ↓reduceIte, reduceCtorEq, Nat.reduceEqDiff, Nat.reduceAdd, Nat.reduceLeDiff, Int.reduceLE]
  all_goals simp [qL, qJ, qJ0, qS, qX, qR, qM, Shp, sub, tupd, VS1, VS2, VS3, VS4, VS5, VS6, VT1, VT2, V14]
def S_laws_eqStringSL1 (aZ0 : List ByteArray) (bZ0 : List ByteArray) (v : Int) : St := ⟨[(0, .lst .o 1 (aZ0.map AV.z)), (1, .lst .o 1 (bZ0.map AV.z)), (5, .i v)], []⟩
def SX_laws_eqStringSL1 (v : Unit) : St := ⟨[], []⟩
theorem w_laws_eqStringSL1 (aZ0 : List ByteArray) (bZ0 : List ByteArray) (sZ2 : Int) (o : Int ⊕ (Unit ⊕ Bool)) (h : M_laws_eqStringSL1 aZ0 bZ0 sZ2 = some o) : AWP (OkS Try.prog) A44L1 (qL [0, 1, 5] [] (S_laws_eqStringSL1 aZ0 bZ0) (qS (qX 0 [] [] (SX_laws_eqStringSL1)) (qR V44 (fun r => .b r))) o) (S_laws_eqStringSL1 aZ0 bZ0 sZ2) := by
  unfold M_laws_eqStringSL1 at h
  simp only [S_laws_eqStringSL1, A44L1]
  refine Or.elim (bt (decide (sZ2 < (aZ0.length : Int)))) (fun cZ3 => ?_) (fun cZ3 => ?_)
  · replace h := cond_t cZ3 h
    obtain ⟨yZ4, hyZ4, h⟩ := bind_s h
    obtain ⟨hyZ4a, hyZ4b⟩ := geti_s hyZ4
    obtain ⟨yZ5, hyZ5, h⟩ := bind_s h
    obtain ⟨hyZ5a, hyZ5b⟩ := geti_s hyZ5
    refine Or.elim (bt (!(yZ4.toList == yZ5.toList))) (fun cZ6 => ?_) (fun cZ6 => ?_)
    · replace h := cond_t cZ6 h
      cases h
      try simp only [VS1, VS2, VS3, VS4, VS5, VS6, VT1, VT2, finM_ret, finM_nrm, decide_true, decide_false, List.nodup_nil, List.nodup_cons, oks_p, oks_m, oks_h, ne_eq, not_false_eq_true, Int.reduceEq, Int.reduceNe, true_and, Nat.reduceSub, Nat.reduceMul, ↓reduceIte, reduceCtorEq, Nat.reduceEqDiff, Nat.reduceAdd, Nat.reduceLeDiff, Int.reduceLE, cZ3, hyZ4a, hyZ4b, hyZ5a, hyZ5b, cZ6]
      all_goals simp [qL, qJ, qJ0, qS, qX, qR, qM, Shp, sub, tupd, VS1, VS2, VS3, VS4, VS5, VS6, VT1, VT2, V44]
    · replace h := cond_f cZ6 h
      cases h
      try simp only [VS1, VS2, VS3, VS4, VS5, VS6, VT1, VT2, finM_ret, finM_nrm, decide_true, decide_false, List.nodup_nil, List.nodup_cons, oks_p, oks_m, oks_h, ne_eq, not_false_eq_true, Int.reduceEq, Int.reduceNe, true_and, Nat.reduceSub, Nat.reduceMul, ↓reduceIte, reduceCtorEq, Nat.reduceEqDiff, Nat.reduceAdd, Nat.reduceLeDiff, Int.reduceLE, cZ3, hyZ4a, hyZ4b, hyZ5a, hyZ5b, cZ6]
      all_goals simp [qL, qJ, qJ0, qS, qX, qR, qM, Shp, sub, tupd, VS1, VS2, VS3, VS4, VS5, VS6, VT1, VT2, S_laws_eqStringSL1, SX_laws_eqStringSL1]
  · replace h := cond_f cZ3 h
    cases h
    try simp only [VS1, VS2, VS3, VS4, VS5, VS6, VT1, VT2, finM_ret, finM_nrm, decide_true, decide_false, List.nodup_nil, List.nodup_cons, oks_p, oks_m, oks_h, ne_eq, not_false_eq_true, Int.reduceEq, Int.reduceNe, true_and, Nat.reduceSub, Nat.reduceMul, ↓reduceIte, reduceCtorEq, Nat.reduceEqDiff, Nat.reduceAdd, Nat.reduceLeDiff, Int.reduceLE, cZ3]
    all_goals simp [qL, qJ, qJ0, qS, qX, qR, qM, Shp, sub, tupd, VS1, VS2, VS3, VS4, VS5, VS6, VT1, VT2, S_laws_eqStringSL1, SX_laws_eqStringSL1]
theorem w_laws_eqStringS (aZ0 : List ByteArray) (bZ0 : List ByteArray) {r : Bool} (h : M_laws_eqStringS aZ0 bZ0 = some r) : Ok Try.prog 44 [.lst .o 1 (aZ0.map AV.z), .lst .o 1 (bZ0.map AV.z)] ((fun r => .b r) r) := by
  refine ok_of_body hmix m44 rfl ?_
  unfold M_laws_eqStringS at h
  simp only [A44, V44, body_eq]
  refine Or.elim (bt ((aZ0.length : Int) != (bZ0.length : Int))) (fun cZ1 => ?_) (fun cZ1 => ?_)
  · replace h := cond_t cZ1 h
    cases h
    try simp only [VS1, VS2, VS3, VS4, VS5, VS6, VT1, VT2, finM_ret, finM_nrm, decide_true, decide_false, List.nodup_nil, List.nodup_cons, oks_p, oks_m, oks_h, ne_eq, not_false_eq_true, Int.reduceEq, Int.reduceNe, true_and, Nat.reduceSub, Nat.reduceMul, ↓reduceIte, reduceCtorEq, Nat.reduceEqDiff, Nat.reduceAdd, Nat.reduceLeDiff, Int.reduceLE, cZ1]
    all_goals simp [qL, qJ, qJ0, qS, qX, qR, qM, Shp, sub, tupd, VS1, VS2, VS3, VS4, VS5, VS6, VT1, VT2, V44]
  · replace h := cond_f cZ1 h
    obtain ⟨oZ7, hoZ7, h⟩ := bind_s h
    try simp only [VS1, VS2, VS3, VS4, VS5, VS6, VT1, VT2, finM_ret, finM_nrm, decide_true, decide_false, List.nodup_nil, List.nodup_cons, oks_p, oks_m, oks_h, ne_eq, not_false_eq_true, Int.reduceEq, Int.reduceNe, true_and, Nat.reduceSub, Nat.reduceMul, ↓reduceIte, reduceCtorEq, Nat.reduceEqDiff, Nat.reduceAdd, Nat.reduceLeDiff, Int.reduceLE, cZ1]
    refine join_rule (o := oZ7) (blk_rule sideR (loop_rule (w_laws_eqStringSL1 aZ0 bZ0) hoZ7 ?_)) (fun vZ8 hv => ?_) (fun xZ9 hv e τ hne hq => ?_)
    · all_goals simp [qL, qJ, qJ0, qS, qX, qR, qM, Shp, sub, tupd, VS1, VS2, VS3, VS4, VS5, VS6, VT1, VT2, S_laws_eqStringSL1, SX_laws_eqStringSL1]
    · subst hv
      simp only [] at h
      simp only [SX_laws_eqStringSL1, A44R2]
      cases h
      try simp only [VS1, VS2, VS3, VS4, VS5, VS6, VT1, VT2, finM_ret, finM_nrm, decide_true, decide_false, List.nodup_nil, List.nodup_cons, oks_p, oks_m, oks_h, ne_eq, not_false_eq_true, Int.reduceEq, Int.reduceNe, true_and, Nat.reduceSub, Nat.reduceMul, ↓reduceIte, reduceCtorEq, Nat.reduceEqDiff, Nat.reduceAdd, Nat.reduceLeDiff, Int.reduceLE, cZ1]
      all_goals simp [qL, qJ, qJ0, qS, qX, qR, qM, Shp, sub, tupd, VS1, VS2, VS3, VS4, VS5, VS6, VT1, VT2, V44]
    · subst hv
      simp only [] at h
      obtain ⟨rfl, qZ10⟩ := hq
      cases h
      exact qZ10
theorem w_laws_eqFiber (aZ0 : TFiber) (bZ0 : TFiber) {r : Bool} (h : M_laws_eqFiber aZ0 bZ0 = some r) : Ok Try.prog 80 [.agg [.i aZ0.A, .i aZ0.B, .i aZ0.Length, .i aZ0.Risk], .agg [.i bZ0.A, .i bZ0.B, .i bZ0.Length, .i bZ0.Risk]] ((fun r => .b r) r) := by
  refine ok_of_body hmix m80 rfl ?_
  unfold M_laws_eqFiber at h
  simp only [A80, V80, body_eq]
  refine Or.elim (bt (aZ0.A != bZ0.A)) (fun cZ1 => ?_) (fun cZ1 => ?_)
  · replace h := cond_t cZ1 h
    cases h
    try simp only [VS1, VS2, VS3, VS4, VS5, VS6, VT1, VT2, finM_ret, finM_nrm, decide_true, decide_false, List.nodup_nil, List.nodup_cons, oks_p, oks_m, oks_h, ne_eq, not_false_eq_true, Int.reduceEq, Int.reduceNe, true_and, Nat.reduceSub, Nat.reduceMul, ↓reduceIte, reduceCtorEq, Nat.reduceEqDiff, Nat.reduceAdd, Nat.reduceLeDiff, Int.reduceLE, cZ1]
    all_goals simp [qL, qJ, qJ0, qS, qX, qR, qM, Shp, sub, tupd, VS1, VS2, VS3, VS4, VS5, VS6, VT1, VT2, V80]
  · replace h := cond_f cZ1 h
    refine Or.elim (bt (aZ0.B != bZ0.B)) (fun cZ2 => ?_) (fun cZ2 => ?_)
    · replace h := cond_t cZ2 h
      cases h
      try simp only [VS1, VS2, VS3, VS4, VS5, VS6, VT1, VT2, finM_ret, finM_nrm, decide_true, decide_false, List.nodup_nil, List.nodup_cons, oks_p, oks_m, oks_h, ne_eq, not_false_eq_true, Int.reduceEq, Int.reduceNe, true_and, Nat.reduceSub, Nat.reduceMul, ↓reduceIte, reduceCtorEq, Nat.reduceEqDiff, Nat.reduceAdd, Nat.reduceLeDiff, Int.reduceLE, cZ1, cZ2]
      all_goals simp [qL, qJ, qJ0, qS, qX, qR, qM, Shp, sub, tupd, VS1, VS2, VS3, VS4, VS5, VS6, VT1, VT2, V80]
    · replace h := cond_f cZ2 h
      refine Or.elim (bt (aZ0.Length != bZ0.Length)) (fun cZ3 => ?_) (fun cZ3 => ?_)
      · replace h := cond_t cZ3 h
        cases h
        try simp only [VS1, VS2, VS3, VS4, VS5, VS6, VT1, VT2, finM_ret, finM_nrm, decide_true, decide_false, List.nodup_nil, List.nodup_cons, oks_p, oks_m, oks_h, ne_eq, not_false_eq_true, Int.reduceEq, Int.reduceNe, true_and, Nat.reduceSub, Nat.reduceMul, ↓reduceIte, reduceCtorEq, Nat.reduceEqDiff, Nat.reduceAdd, Nat.reduceLeDiff, Int.reduceLE, cZ1, cZ2, cZ3]
        all_goals simp [qL, qJ, qJ0, qS, qX, qR, qM, Shp, sub, tupd, VS1, VS2, VS3, VS4, VS5, VS6, VT1, VT2, V80]
      · replace h := cond_f cZ3 h
        refine Or.elim (bt (aZ0.Risk != bZ0.Risk)) (fun cZ4 => ?_) (fun cZ4 => ?_)
        · replace h := cond_t cZ4 h
          cases h
          try simp only [VS1, VS2, VS3, VS4, VS5, VS6, VT1, VT2, finM_ret, finM_nrm, decide_true, decide_false, List.nodup_nil, List.nodup_cons, oks_p, oks_m, oks_h, ne_eq, not_false_eq_true, Int.reduceEq, Int.reduceNe, true_and, Nat.reduceSub, Nat.reduceMul, ↓reduceIte, reduceCtorEq, Nat.reduceEqDiff, Nat.reduceAdd, Nat.reduceLeDiff, Int.reduceLE, cZ1, cZ2, cZ3, cZ4]
          all_goals simp [qL, qJ, qJ0, qS, qX, qR, qM, Shp, sub, tupd, VS1, VS2, VS3, VS4, VS5, VS6, VT1, VT2, V80]
        · replace h := cond_f cZ4 h
          cases h
          try simp only [VS1, VS2, VS3, VS4, VS5, VS6, VT1, VT2, finM_ret, finM_nrm, decide_true, decide_false, List.nodup_nil, List.nodup_cons, oks_p, oks_m, oks_h, ne_eq, not_false_eq_true, Int.reduceEq, Int.reduceNe, true_and, Nat.reduceSub, Nat.reduceMul, ↓reduceIte, reduceCtorEq, Nat.reduceEqDiff, Nat.reduceAdd, Nat.reduceLeDiff, Int.reduceLE, cZ1, cZ2, cZ3, cZ4]
          all_goals simp [qL, qJ, qJ0, qS, qX, qR, qM, Shp, sub, tupd, VS1, VS2, VS3, VS4, VS5, VS6, VT1, VT2, V80]
def S_laws_eqFiberSL1 (aZ0 : List TFiber) (bZ0 : List TFiber) (v : Int) : St := ⟨[(0, .lst .o 4 (aZ0.map (e_TFiber .o))), (1, .lst .o 4 (bZ0.map (e_TFiber .o))), (5, .i v)], []⟩
def SX_laws_eqFiberSL1 (v : Unit) : St := ⟨[], []⟩
theorem w_laws_eqFiberSL1 (aZ0 : List TFiber) (bZ0 : List TFiber) (sZ2 : Int) (o : Int ⊕ (Unit ⊕ Bool)) (h : M_laws_eqFiberSL1 aZ0 bZ0 sZ2 = some o) : AWP (OkS Try.prog) A45L1 (qL [0, 1, 5] [] (S_laws_eqFiberSL1 aZ0 bZ0) (qS (qX 0 [] [] (SX_laws_eqFiberSL1)) (qR V45 (fun r => .b r))) o) (S_laws_eqFiberSL1 aZ0 bZ0 sZ2) := by
  unfold M_laws_eqFiberSL1 at h
  simp only [S_laws_eqFiberSL1, A45L1]
  refine Or.elim (bt (decide (sZ2 < (aZ0.length : Int)))) (fun cZ3 => ?_) (fun cZ3 => ?_)
  · replace h := cond_t cZ3 h
    obtain ⟨yZ4, hyZ4, h⟩ := bind_s h
    obtain ⟨hyZ4a, hyZ4b⟩ := geti_s hyZ4
    obtain ⟨yZ5, hyZ5, h⟩ := bind_s h
    obtain ⟨hyZ5a, hyZ5b⟩ := geti_s hyZ5
    obtain ⟨rZ6, hrZ6, h⟩ := bind_s h
    simp only [VS1, VS2, VS3, VS4, VS5, VS6, VT1, VT2, finM_ret, finM_nrm, decide_true, decide_false, List.nodup_nil, List.nodup_cons, oks_p, oks_m, oks_h, ne_eq, not_false_eq_true, Int.reduceEq, Int.reduceNe, true_and, Nat.reduceSub, Nat.reduceMul, ↓reduceIte, reduceCtorEq, Nat.reduceEqDiff, Nat.reduceAdd, Nat.reduceLeDiff, Int.reduceLE, cZ3, hyZ4a, hyZ4b, hyZ5a, hyZ5b]
    refine call_s (by simp only [VS1, VS2, VS3, VS4, VS5, VS6, VT1, VT2, finM_ret, finM_nrm, decide_true, decide_false, List.nodup_nil, List.nodup_cons, oks_p, oks_m, oks_h, ne_eq, not_false_eq_true, Int.reduceEq, Int.reduceNe, true_and, Nat.reduceSub, Nat.reduceMul, ↓reduceIte, reduceCtorEq, Nat.reduceEqDiff, Nat.reduceAdd, Nat.reduceLeDiff, Int.reduceLE, cZ3, hyZ4a, hyZ4b, hyZ5a, hyZ5b]; exact w_laws_eqFiber _ _ hrZ6 ) ?_
    simp only [VA, VF1, ↓reduceIte, Nat.reduceEqDiff, Nat.reduceAdd, Nat.reduceMul, Nat.reduceSub, Nat.reduceLeDiff]
    refine Or.elim (bt (!rZ6)) (fun cZ7 => ?_) (fun cZ7 => ?_)
    · replace h := cond_t cZ7 h
      cases h
      try simp only [VS1, VS2, VS3, VS4, VS5, VS6, VT1, VT2, finM_ret, finM_nrm, decide_true, decide_false, List.nodup_nil, List.nodup_cons, oks_p, oks_m, oks_h, ne_eq, not_false_eq_true, Int.reduceEq, Int.reduceNe, true_and, Nat.reduceSub, Nat.reduceMul, ↓reduceIte, reduceCtorEq, Nat.reduceEqDiff, Nat.reduceAdd, Nat.reduceLeDiff, Int.reduceLE, cZ3, hyZ4a, hyZ4b, hyZ5a, hyZ5b, cZ7]
      all_goals simp [qL, qJ, qJ0, qS, qX, qR, qM, Shp, sub, tupd, VS1, VS2, VS3, VS4, VS5, VS6, VT1, VT2, V45]
    · replace h := cond_f cZ7 h
      cases h
      try simp only [VS1, VS2, VS3, VS4, VS5, VS6, VT1, VT2, finM_ret, finM_nrm, decide_true, decide_false, List.nodup_nil, List.nodup_cons, oks_p, oks_m, oks_h, ne_eq, not_false_eq_true, Int.reduceEq, Int.reduceNe, true_and, Nat.reduceSub, Nat.reduceMul, ↓reduceIte, reduceCtorEq, Nat.reduceEqDiff, Nat.reduceAdd, Nat.reduceLeDiff, Int.reduceLE, cZ3, hyZ4a, hyZ4b, hyZ5a, hyZ5b, cZ7]
      all_goals simp [qL, qJ, qJ0, qS, qX, qR, qM, Shp, sub, tupd, VS1, VS2, VS3, VS4, VS5, VS6, VT1, VT2, S_laws_eqFiberSL1, SX_laws_eqFiberSL1]
  · replace h := cond_f cZ3 h
    cases h
    try simp only [VS1, VS2, VS3, VS4, VS5, VS6, VT1, VT2, finM_ret, finM_nrm, decide_true, decide_false, List.nodup_nil, List.nodup_cons, oks_p, oks_m, oks_h, ne_eq, not_false_eq_true, Int.reduceEq, Int.reduceNe, true_and, Nat.reduceSub, Nat.reduceMul, ↓reduceIte, reduceCtorEq, Nat.reduceEqDiff, Nat.reduceAdd, Nat.reduceLeDiff, Int.reduceLE, cZ3]
    all_goals simp [qL, qJ, qJ0, qS, qX, qR, qM, Shp, sub, tupd, VS1, VS2, VS3, VS4, VS5, VS6, VT1, VT2, S_laws_eqFiberSL1, SX_laws_eqFiberSL1]
theorem w_laws_eqFiberS (aZ0 : List TFiber) (bZ0 : List TFiber) {r : Bool} (h : M_laws_eqFiberS aZ0 bZ0 = some r) : Ok Try.prog 45 [.lst .o 4 (aZ0.map (e_TFiber .o)), .lst .o 4 (bZ0.map (e_TFiber .o))] ((fun r => .b r) r) := by
  refine ok_of_body hmix m45 rfl ?_
  unfold M_laws_eqFiberS at h
  simp only [A45, V45, body_eq]
  refine Or.elim (bt ((aZ0.length : Int) != (bZ0.length : Int))) (fun cZ1 => ?_) (fun cZ1 => ?_)
  · replace h := cond_t cZ1 h
    cases h
    try simp only [VS1, VS2, VS3, VS4, VS5, VS6, VT1, VT2, finM_ret, finM_nrm, decide_true, decide_false, List.nodup_nil, List.nodup_cons, oks_p, oks_m, oks_h, ne_eq, not_false_eq_true, Int.reduceEq, Int.reduceNe, true_and, Nat.reduceSub, Nat.reduceMul, ↓reduceIte, reduceCtorEq, Nat.reduceEqDiff, Nat.reduceAdd, Nat.reduceLeDiff, Int.reduceLE, cZ1]
    all_goals simp [qL, qJ, qJ0, qS, qX, qR, qM, Shp, sub, tupd, VS1, VS2, VS3, VS4, VS5, VS6, VT1, VT2, V45]
  · replace h := cond_f cZ1 h
    obtain ⟨oZ8, hoZ8, h⟩ := bind_s h
    try simp only [VS1, VS2, VS3, VS4, VS5, VS6, VT1, VT2, finM_ret, finM_nrm, decide_true, decide_false, List.nodup_nil, List.nodup_cons, oks_p, oks_m, oks_h, ne_eq, not_false_eq_true, Int.reduceEq, Int.reduceNe, true_and, Nat.reduceSub, Nat.reduceMul, ↓reduceIte, reduceCtorEq, Nat.reduceEqDiff, Nat.reduceAdd, Nat.reduceLeDiff, Int.reduceLE, cZ1]
    refine join_rule (o := oZ8) (blk_rule sideR (loop_rule (w_laws_eqFiberSL1 aZ0 bZ0) hoZ8 ?_)) (fun vZ9 hv => ?_) (fun xZ10 hv e τ hne hq => ?_)
    · all_goals simp [qL, qJ, qJ0, qS, qX, qR, qM, Shp, sub, tupd, VS1, VS2, VS3, VS4, VS5, VS6, VT1, VT2, S_laws_eqFiberSL1, SX_laws_eqFiberSL1]
    · subst hv
      simp only [] at h
      simp only [SX_laws_eqFiberSL1, A45R2]
      cases h
      try simp only [VS1, VS2, VS3, VS4, VS5, VS6, VT1, VT2, finM_ret, finM_nrm, decide_true, decide_false, List.nodup_nil, List.nodup_cons, oks_p, oks_m, oks_h, ne_eq, not_false_eq_true, Int.reduceEq, Int.reduceNe, true_and, Nat.reduceSub, Nat.reduceMul, ↓reduceIte, reduceCtorEq, Nat.reduceEqDiff, Nat.reduceAdd, Nat.reduceLeDiff, Int.reduceLE, cZ1]
      all_goals simp [qL, qJ, qJ0, qS, qX, qR, qM, Shp, sub, tupd, VS1, VS2, VS3, VS4, VS5, VS6, VT1, VT2, V45]
    · subst hv
      simp only [] at h
      obtain ⟨rfl, qZ11⟩ := hq
      cases h
      exact qZ11
theorem w_laws_eqNetwork (aZ0 : TNetwork) (bZ0 : TNetwork) {r : Bool} (h : M_laws_eqNetwork aZ0 bZ0 = some r) : Ok Try.prog 15 [.agg [.lst .o 1 (aZ0.Nodes.map AV.z), .lst .o 4 (aZ0.Fibers.map (e_TFiber .o))], .agg [.lst .o 1 (bZ0.Nodes.map AV.z), .lst .o 4 (bZ0.Fibers.map (e_TFiber .o))]] ((fun r => .b r) r) := by
  refine ok_of_body hmix m15 rfl ?_
  unfold M_laws_eqNetwork at h
  simp only [A15, V15, body_eq]
  obtain ⟨rZ1, hrZ1, h⟩ := bind_s h
  simp only [VS1, VS2, VS3, VS4, VS5, VS6, VT1, VT2, finM_ret, finM_nrm, decide_true, decide_false, List.nodup_nil, List.nodup_cons, oks_p, oks_m, oks_h, ne_eq, not_false_eq_true, Int.reduceEq, Int.reduceNe, true_and, Nat.reduceSub, Nat.reduceMul, ↓reduceIte, reduceCtorEq, Nat.reduceEqDiff, Nat.reduceAdd, Nat.reduceLeDiff, Int.reduceLE]
  refine call_s (by simp only [VS1, VS2, VS3, VS4, VS5, VS6, VT1, VT2, finM_ret, finM_nrm, decide_true, decide_false, List.nodup_nil, List.nodup_cons, oks_p, oks_m, oks_h, ne_eq, not_false_eq_true, Int.reduceEq, Int.reduceNe, true_and, Nat.reduceSub, Nat.reduceMul, ↓reduceIte, reduceCtorEq, Nat.reduceEqDiff, Nat.reduceAdd, Nat.reduceLeDiff, Int.reduceLE]; exact w_laws_eqStringS _ _ hrZ1 ) ?_
  simp only [VA, VF1, ↓reduceIte, Nat.reduceEqDiff, Nat.reduceAdd, Nat.reduceMul, Nat.reduceSub, Nat.reduceLeDiff]
  refine Or.elim (bt (!rZ1)) (fun cZ2 => ?_) (fun cZ2 => ?_)
  · replace h := cond_t cZ2 h
    cases h
    try simp only [VS1, VS2, VS3, VS4, VS5, VS6, VT1, VT2, finM_ret, finM_nrm, decide_true, decide_false, List.nodup_nil, List.nodup_cons, oks_p, oks_m, oks_h, ne_eq, not_false_eq_true, Int.reduceEq, Int.reduceNe, true_and, Nat.reduceSub, Nat.reduceMul, ↓reduceIte, reduceCtorEq, Nat.reduceEqDiff, Nat.reduceAdd, Nat.reduceLeDiff, Int.reduceLE, cZ2]
    all_goals simp [qL, qJ, qJ0, qS, qX, qR, qM, Shp, sub, tupd, VS1, VS2, VS3, VS4, VS5, VS6, VT1, VT2, V15]
  · replace h := cond_f cZ2 h
    obtain ⟨rZ3, hrZ3, h⟩ := bind_s h
    simp only [VS1, VS2, VS3, VS4, VS5, VS6, VT1, VT2, finM_ret, finM_nrm, decide_true, decide_false, List.nodup_nil, List.nodup_cons, oks_p, oks_m, oks_h, ne_eq, not_false_eq_true, Int.reduceEq, Int.reduceNe, true_and, Nat.reduceSub, Nat.reduceMul, ↓reduceIte, reduceCtorEq, Nat.reduceEqDiff, Nat.reduceAdd, Nat.reduceLeDiff, Int.reduceLE, cZ2]
    refine call_s (by simp only [VS1, VS2, VS3, VS4, VS5, VS6, VT1, VT2, finM_ret, finM_nrm, decide_true, decide_false, List.nodup_nil, List.nodup_cons, oks_p, oks_m, oks_h, ne_eq, not_false_eq_true, Int.reduceEq, Int.reduceNe, true_and, Nat.reduceSub, Nat.reduceMul, ↓reduceIte, reduceCtorEq, Nat.reduceEqDiff, Nat.reduceAdd, Nat.reduceLeDiff, Int.reduceLE, cZ2]; exact w_laws_eqFiberS _ _ hrZ3 ) ?_
    simp only [VA, VF1, ↓reduceIte, Nat.reduceEqDiff, Nat.reduceAdd, Nat.reduceMul, Nat.reduceSub, Nat.reduceLeDiff]
    refine Or.elim (bt (!rZ3)) (fun cZ4 => ?_) (fun cZ4 => ?_)
    · replace h := cond_t cZ4 h
      cases h
      try simp only [VS1, VS2, VS3, VS4, VS5, VS6, VT1, VT2, finM_ret, finM_nrm, decide_true, decide_false, List.nodup_nil, List.nodup_cons, oks_p, oks_m, oks_h, ne_eq, not_false_eq_true, Int.reduceEq, Int.reduceNe, true_and, Nat.reduceSub, Nat.reduceMul, ↓reduceIte, reduceCtorEq, Nat.reduceEqDiff, Nat.reduceAdd, Nat.reduceLeDiff, Int.reduceLE, cZ2, cZ4]
      all_goals simp [qL, qJ, qJ0, qS, qX, qR, qM, Shp, sub, tupd, VS1, VS2, VS3, VS4, VS5, VS6, VT1, VT2, V15]
    · replace h := cond_f cZ4 h
      cases h
      try simp only [VS1, VS2, VS3, VS4, VS5, VS6, VT1, VT2, finM_ret, finM_nrm, decide_true, decide_false, List.nodup_nil, List.nodup_cons, oks_p, oks_m, oks_h, ne_eq, not_false_eq_true, Int.reduceEq, Int.reduceNe, true_and, Nat.reduceSub, Nat.reduceMul, ↓reduceIte, reduceCtorEq, Nat.reduceEqDiff, Nat.reduceAdd, Nat.reduceLeDiff, Int.reduceLE, cZ2, cZ4]
      all_goals simp [qL, qJ, qJ0, qS, qX, qR, qM, Shp, sub, tupd, VS1, VS2, VS3, VS4, VS5, VS6, VT1, VT2, V15]
def S_laws_eqIntSL1 (aZ0 : List Int) (bZ0 : List Int) (v : Int) : St := ⟨[(0, .lst .o 1 (aZ0.map AV.i)), (1, .lst .o 1 (bZ0.map AV.i)), (5, .i v)], []⟩
def SX_laws_eqIntSL1 (v : Unit) : St := ⟨[], []⟩
theorem w_laws_eqIntSL1 (aZ0 : List Int) (bZ0 : List Int) (sZ2 : Int) (o : Int ⊕ (Unit ⊕ Bool)) (h : M_laws_eqIntSL1 aZ0 bZ0 sZ2 = some o) : AWP (OkS Try.prog) A16L1 (qL [0, 1, 5] [] (S_laws_eqIntSL1 aZ0 bZ0) (qS (qX 0 [] [] (SX_laws_eqIntSL1)) (qR V16 (fun r => .b r))) o) (S_laws_eqIntSL1 aZ0 bZ0 sZ2) := by
  unfold M_laws_eqIntSL1 at h
  simp only [S_laws_eqIntSL1, A16L1]
  refine Or.elim (bt (decide (sZ2 < (aZ0.length : Int)))) (fun cZ3 => ?_) (fun cZ3 => ?_)
  · replace h := cond_t cZ3 h
    obtain ⟨yZ4, hyZ4, h⟩ := bind_s h
    obtain ⟨hyZ4a, hyZ4b⟩ := geti_s hyZ4
    obtain ⟨yZ5, hyZ5, h⟩ := bind_s h
    obtain ⟨hyZ5a, hyZ5b⟩ := geti_s hyZ5
    refine Or.elim (bt (yZ4 != yZ5)) (fun cZ6 => ?_) (fun cZ6 => ?_)
    · replace h := cond_t cZ6 h
      cases h
      try simp only [VS1, VS2, VS3, VS4, VS5, VS6, VT1, VT2, finM_ret, finM_nrm, decide_true, decide_false, List.nodup_nil, List.nodup_cons, oks_p, oks_m, oks_h, ne_eq, not_false_eq_true, Int.reduceEq, Int.reduceNe, true_and, Nat.reduceSub, Nat.reduceMul, ↓reduceIte, reduceCtorEq, Nat.reduceEqDiff, Nat.reduceAdd, Nat.reduceLeDiff, Int.reduceLE, cZ3, hyZ4a, hyZ4b, hyZ5a, hyZ5b, cZ6]
      all_goals simp [qL, qJ, qJ0, qS, qX, qR, qM, Shp, sub, tupd, VS1, VS2, VS3, VS4, VS5, VS6, VT1, VT2, V16]
    · replace h := cond_f cZ6 h
      cases h
      try simp only [VS1, VS2, VS3, VS4, VS5, VS6, VT1, VT2, finM_ret, finM_nrm, decide_true, decide_false, List.nodup_nil, List.nodup_cons, oks_p, oks_m, oks_h, ne_eq, not_false_eq_true, Int.reduceEq, Int.reduceNe, true_and, Nat.reduceSub, Nat.reduceMul, ↓reduceIte, reduceCtorEq, Nat.reduceEqDiff, Nat.reduceAdd, Nat.reduceLeDiff, Int.reduceLE, cZ3, hyZ4a, hyZ4b, hyZ5a, hyZ5b, cZ6]
      all_goals simp [qL, qJ, qJ0, qS, qX, qR, qM, Shp, sub, tupd, VS1, VS2, VS3, VS4, VS5, VS6, VT1, VT2, S_laws_eqIntSL1, SX_laws_eqIntSL1]
  · replace h := cond_f cZ3 h
    cases h
    try simp only [VS1, VS2, VS3, VS4, VS5, VS6, VT1, VT2, finM_ret, finM_nrm, decide_true, decide_false, List.nodup_nil, List.nodup_cons, oks_p, oks_m, oks_h, ne_eq, not_false_eq_true, Int.reduceEq, Int.reduceNe, true_and, Nat.reduceSub, Nat.reduceMul, ↓reduceIte, reduceCtorEq, Nat.reduceEqDiff, Nat.reduceAdd, Nat.reduceLeDiff, Int.reduceLE, cZ3]
    all_goals simp [qL, qJ, qJ0, qS, qX, qR, qM, Shp, sub, tupd, VS1, VS2, VS3, VS4, VS5, VS6, VT1, VT2, S_laws_eqIntSL1, SX_laws_eqIntSL1]
theorem w_laws_eqIntS (aZ0 : List Int) (bZ0 : List Int) {r : Bool} (h : M_laws_eqIntS aZ0 bZ0 = some r) : Ok Try.prog 16 [.lst .o 1 (aZ0.map AV.i), .lst .o 1 (bZ0.map AV.i)] ((fun r => .b r) r) := by
  refine ok_of_body hmix m16 rfl ?_
  unfold M_laws_eqIntS at h
  simp only [A16, V16, body_eq]
  refine Or.elim (bt ((aZ0.length : Int) != (bZ0.length : Int))) (fun cZ1 => ?_) (fun cZ1 => ?_)
  · replace h := cond_t cZ1 h
    cases h
    try simp only [VS1, VS2, VS3, VS4, VS5, VS6, VT1, VT2, finM_ret, finM_nrm, decide_true, decide_false, List.nodup_nil, List.nodup_cons, oks_p, oks_m, oks_h, ne_eq, not_false_eq_true, Int.reduceEq, Int.reduceNe, true_and, Nat.reduceSub, Nat.reduceMul, ↓reduceIte, reduceCtorEq, Nat.reduceEqDiff, Nat.reduceAdd, Nat.reduceLeDiff, Int.reduceLE, cZ1]
    all_goals simp [qL, qJ, qJ0, qS, qX, qR, qM, Shp, sub, tupd, VS1, VS2, VS3, VS4, VS5, VS6, VT1, VT2, V16]
  · replace h := cond_f cZ1 h
    obtain ⟨oZ7, hoZ7, h⟩ := bind_s h
    try simp only [VS1, VS2, VS3, VS4, VS5, VS6, VT1, VT2, finM_ret, finM_nrm, decide_true, decide_false, List.nodup_nil, List.nodup_cons, oks_p, oks_m, oks_h, ne_eq, not_false_eq_true, Int.reduceEq, Int.reduceNe, true_and, Nat.reduceSub, Nat.reduceMul, ↓reduceIte, reduceCtorEq, Nat.reduceEqDiff, Nat.reduceAdd, Nat.reduceLeDiff, Int.reduceLE, cZ1]
    refine join_rule (o := oZ7) (blk_rule sideR (loop_rule (w_laws_eqIntSL1 aZ0 bZ0) hoZ7 ?_)) (fun vZ8 hv => ?_) (fun xZ9 hv e τ hne hq => ?_)
    · all_goals simp [qL, qJ, qJ0, qS, qX, qR, qM, Shp, sub, tupd, VS1, VS2, VS3, VS4, VS5, VS6, VT1, VT2, S_laws_eqIntSL1, SX_laws_eqIntSL1]
    · subst hv
      simp only [] at h
      simp only [SX_laws_eqIntSL1, A16R2]
      cases h
      try simp only [VS1, VS2, VS3, VS4, VS5, VS6, VT1, VT2, finM_ret, finM_nrm, decide_true, decide_false, List.nodup_nil, List.nodup_cons, oks_p, oks_m, oks_h, ne_eq, not_false_eq_true, Int.reduceEq, Int.reduceNe, true_and, Nat.reduceSub, Nat.reduceMul, ↓reduceIte, reduceCtorEq, Nat.reduceEqDiff, Nat.reduceAdd, Nat.reduceLeDiff, Int.reduceLE, cZ1]
      all_goals simp [qL, qJ, qJ0, qS, qX, qR, qM, Shp, sub, tupd, VS1, VS2, VS3, VS4, VS5, VS6, VT1, VT2, V16]
    · subst hv
      simp only [] at h
      obtain ⟨rfl, qZ10⟩ := hq
      cases h
      exact qZ10
theorem w_laws_FnExactIsRing (aNZ0 : TNetwork) (aRingZ0 : List Int) {r : Bool} (h : M_laws_FnExactIsRing aNZ0 aRingZ0 = some r) : Ok Try.prog 3 [.agg [.lst .o 1 (aNZ0.Nodes.map AV.z), .lst .o 4 (aNZ0.Fibers.map (e_TFiber .o))], .lst .o 1 (aRingZ0.map AV.i)] ((fun r => .b r) r) := by
  refine ok_of_body hmix m3 rfl ?_
  unfold M_laws_FnExactIsRing at h
  simp only [A3, V3, body_eq]
  refine Or.elim (bt (decide (1048576 < (aRingZ0.length : Int)))) (fun cZ1 => ?_) (fun cZ1 => ?_)
  · replace h := cond_t cZ1 h
    cases h
    try simp only [VS1, VS2, VS3, VS4, VS5, VS6, VT1, VT2, finM_ret, finM_nrm, decide_true, decide_false, List.nodup_nil, List.nodup_cons, oks_p, oks_m, oks_h, ne_eq, not_false_eq_true, Int.reduceEq, Int.reduceNe, true_and, Nat.reduceSub, Nat.reduceMul, ↓reduceIte, reduceCtorEq, Nat.reduceEqDiff, Nat.reduceAdd, Nat.reduceLeDiff, Int.reduceLE, cZ1]
    all_goals simp [qL, qJ, qJ0, qS, qX, qR, qM, Shp, sub, tupd, VS1, VS2, VS3, VS4, VS5, VS6, VT1, VT2, V3]
  · replace h := cond_f cZ1 h
    obtain ⟨rZ2, hrZ2, h⟩ := bind_s h
    simp only [VS1, VS2, VS3, VS4, VS5, VS6, VT1, VT2, finM_ret, finM_nrm, decide_true, decide_false, List.nodup_nil, List.nodup_cons, oks_p, oks_m, oks_h, ne_eq, not_false_eq_true, Int.reduceEq, Int.reduceNe, true_and, Nat.reduceSub, Nat.reduceMul, ↓reduceIte, reduceCtorEq, Nat.reduceEqDiff, Nat.reduceAdd, Nat.reduceLeDiff, Int.reduceLE, cZ1]
    refine call_s (by simp only [VS1, VS2, VS3, VS4, VS5, VS6, VT1, VT2, finM_ret, finM_nrm, decide_true, decide_false, List.nodup_nil, List.nodup_cons, oks_p, oks_m, oks_h, ne_eq, not_false_eq_true, Int.reduceEq, Int.reduceNe, true_and, Nat.reduceSub, Nat.reduceMul, ↓reduceIte, reduceCtorEq, Nat.reduceEqDiff, Nat.reduceAdd, Nat.reduceLeDiff, Int.reduceLE, cZ1]; exact w_laws_szNetwork _ _ hrZ2 ) ?_
    simp only [VA, VF1, ↓reduceIte, Nat.reduceEqDiff, Nat.reduceAdd, Nat.reduceMul, Nat.reduceSub, Nat.reduceLeDiff]
    refine Or.elim (bt (decide (rZ2 < 0))) (fun cZ3 => ?_) (fun cZ3 => ?_)
    · replace h := cond_t cZ3 h
      cases h
      try simp only [VS1, VS2, VS3, VS4, VS5, VS6, VT1, VT2, finM_ret, finM_nrm, decide_true, decide_false, List.nodup_nil, List.nodup_cons, oks_p, oks_m, oks_h, ne_eq, not_false_eq_true, Int.reduceEq, Int.reduceNe, true_and, Nat.reduceSub, Nat.reduceMul, ↓reduceIte, reduceCtorEq, Nat.reduceEqDiff, Nat.reduceAdd, Nat.reduceLeDiff, Int.reduceLE, cZ1, cZ3]
      all_goals simp [qL, qJ, qJ0, qS, qX, qR, qM, Shp, sub, tupd, VS1, VS2, VS3, VS4, VS5, VS6, VT1, VT2, V3]
    · replace h := cond_f cZ3 h
      obtain ⟨rZ4, hrZ4, h⟩ := bind_s h
      simp only [VS1, VS2, VS3, VS4, VS5, VS6, VT1, VT2, finM_ret, finM_nrm, decide_true, decide_false, List.nodup_nil, List.nodup_cons, oks_p, oks_m, oks_h, ne_eq, not_false_eq_true, Int.reduceEq, Int.reduceNe, true_and, Nat.reduceSub, Nat.reduceMul, ↓reduceIte, reduceCtorEq, Nat.reduceEqDiff, Nat.reduceAdd, Nat.reduceLeDiff, Int.reduceLE, cZ1, cZ3]
      refine call_u (by simp only [VS1, VS2, VS3, VS4, VS5, VS6, VT1, VT2, finM_ret, finM_nrm, decide_true, decide_false, List.nodup_nil, List.nodup_cons, oks_p, oks_m, oks_h, ne_eq, not_false_eq_true, Int.reduceEq, Int.reduceNe, true_and, Nat.reduceSub, Nat.reduceMul, ↓reduceIte, reduceCtorEq, Nat.reduceEqDiff, Nat.reduceAdd, Nat.reduceLeDiff, Int.reduceLE, cZ1, cZ3]; exact w_laws_toNetwork _ hrZ4 ) (by simp [AV.allU, allUL, allUL_iff, VT1, VT2]) (by simp only [VS1, VS2, VS3, VS4, VS5, VS6, VT1, VT2, finM_ret, finM_nrm, decide_true, decide_false, List.nodup_nil, List.nodup_cons, oks_p, oks_m, oks_h, ne_eq, not_false_eq_true, Int.reduceEq, Int.reduceNe, true_and, Nat.reduceSub, Nat.reduceMul, ↓reduceIte, reduceCtorEq, Nat.reduceEqDiff, Nat.reduceAdd, Nat.reduceLeDiff, Int.reduceLE, Nat.reduceLT]) ?_
      simp only [VA, VF1, ↓reduceIte, Nat.reduceEqDiff, Nat.reduceAdd, Nat.reduceMul, Nat.reduceSub, Nat.reduceLeDiff]
      obtain ⟨rZ5, hrZ5, h⟩ := bind_s h
      simp only [VS1, VS2, VS3, VS4, VS5, VS6, VT1, VT2, finM_ret, finM_nrm, decide_true, decide_false, List.nodup_nil, List.nodup_cons, oks_p, oks_m, oks_h, ne_eq, not_false_eq_true, Int.reduceEq, Int.reduceNe, true_and, Nat.reduceSub, Nat.reduceMul, ↓reduceIte, reduceCtorEq, Nat.reduceEqDiff, Nat.reduceAdd, Nat.reduceLeDiff, Int.reduceLE, cZ1, cZ3]
      refine call_u (by simp only [VS1, VS2, VS3, VS4, VS5, VS6, VT1, VT2, finM_ret, finM_nrm, decide_true, decide_false, List.nodup_nil, List.nodup_cons, oks_p, oks_m, oks_h, ne_eq, not_false_eq_true, Int.reduceEq, Int.reduceNe, true_and, Nat.reduceSub, Nat.reduceMul, ↓reduceIte, reduceCtorEq, Nat.reduceEqDiff, Nat.reduceAdd, Nat.reduceLeDiff, Int.reduceLE, cZ1, cZ3]; exact w_laws_toIntS _ hrZ5 ) (by simp [AV.allU, allUL, allUL_iff, VT1, VT2]) (by simp only [VS1, VS2, VS3, VS4, VS5, VS6, VT1, VT2, finM_ret, finM_nrm, decide_true, decide_false, List.nodup_nil, List.nodup_cons, oks_p, oks_m, oks_h, ne_eq, not_false_eq_true, Int.reduceEq, Int.reduceNe, true_and, Nat.reduceSub, Nat.reduceMul, ↓reduceIte, reduceCtorEq, Nat.reduceEqDiff, Nat.reduceAdd, Nat.reduceLeDiff, Int.reduceLE, Nat.reduceLT]) ?_
      simp only [VA, VF1, ↓reduceIte, Nat.reduceEqDiff, Nat.reduceAdd, Nat.reduceMul, Nat.reduceSub, Nat.reduceLeDiff]
      obtain ⟨rZ6, hrZ6, h⟩ := bind_s h
      simp only [VS1, VS2, VS3, VS4, VS5, VS6, VT1, VT2, finM_ret, finM_nrm, decide_true, decide_false, List.nodup_nil, List.nodup_cons, oks_p, oks_m, oks_h, ne_eq, not_false_eq_true, Int.reduceEq, Int.reduceNe, true_and, Nat.reduceSub, Nat.reduceMul, ↓reduceIte, reduceCtorEq, Nat.reduceEqDiff, Nat.reduceAdd, Nat.reduceLeDiff, Int.reduceLE, cZ1, cZ3]
      refine call_s (by simp only [VS1, VS2, VS3, VS4, VS5, VS6, VT1, VT2, finM_ret, finM_nrm, decide_true, decide_false, List.nodup_nil, List.nodup_cons, oks_p, oks_m, oks_h, ne_eq, not_false_eq_true, Int.reduceEq, Int.reduceNe, true_and, Nat.reduceSub, Nat.reduceMul, ↓reduceIte, reduceCtorEq, Nat.reduceEqDiff, Nat.reduceAdd, Nat.reduceLeDiff, Int.reduceLE, cZ1, cZ3]; exact w_spec_IsRing _ _ hrZ6 ) ?_
      simp only [VA, VF1, ↓reduceIte, Nat.reduceEqDiff, Nat.reduceAdd, Nat.reduceMul, Nat.reduceSub, Nat.reduceLeDiff]
      obtain ⟨rZ7, hrZ7, h⟩ := bind_s h
      simp only [VS1, VS2, VS3, VS4, VS5, VS6, VT1, VT2, finM_ret, finM_nrm, decide_true, decide_false, List.nodup_nil, List.nodup_cons, oks_p, oks_m, oks_h, ne_eq, not_false_eq_true, Int.reduceEq, Int.reduceNe, true_and, Nat.reduceSub, Nat.reduceMul, ↓reduceIte, reduceCtorEq, Nat.reduceEqDiff, Nat.reduceAdd, Nat.reduceLeDiff, Int.reduceLE, cZ1, cZ3]
      refine call_u (by simp only [VS1, VS2, VS3, VS4, VS5, VS6, VT1, VT2, finM_ret, finM_nrm, decide_true, decide_false, List.nodup_nil, List.nodup_cons, oks_p, oks_m, oks_h, ne_eq, not_false_eq_true, Int.reduceEq, Int.reduceNe, true_and, Nat.reduceSub, Nat.reduceMul, ↓reduceIte, reduceCtorEq, Nat.reduceEqDiff, Nat.reduceAdd, Nat.reduceLeDiff, Int.reduceLE, cZ1, cZ3]; exact w_laws_toNetwork _ hrZ7 ) (by simp [AV.allU, allUL, allUL_iff, VT1, VT2]) (by simp only [VS1, VS2, VS3, VS4, VS5, VS6, VT1, VT2, finM_ret, finM_nrm, decide_true, decide_false, List.nodup_nil, List.nodup_cons, oks_p, oks_m, oks_h, ne_eq, not_false_eq_true, Int.reduceEq, Int.reduceNe, true_and, Nat.reduceSub, Nat.reduceMul, ↓reduceIte, reduceCtorEq, Nat.reduceEqDiff, Nat.reduceAdd, Nat.reduceLeDiff, Int.reduceLE, Nat.reduceLT]) ?_
      simp only [VA, VF1, ↓reduceIte, Nat.reduceEqDiff, Nat.reduceAdd, Nat.reduceMul, Nat.reduceSub, Nat.reduceLeDiff]
      obtain ⟨rZ8, hrZ8, h⟩ := bind_s h
      simp only [VS1, VS2, VS3, VS4, VS5, VS6, VT1, VT2, finM_ret, finM_nrm, decide_true, decide_false, List.nodup_nil, List.nodup_cons, oks_p, oks_m, oks_h, ne_eq, not_false_eq_true, Int.reduceEq, Int.reduceNe, true_and, Nat.reduceSub, Nat.reduceMul, ↓reduceIte, reduceCtorEq, Nat.reduceEqDiff, Nat.reduceAdd, Nat.reduceLeDiff, Int.reduceLE, cZ1, cZ3]
      refine call_u (by simp only [VS1, VS2, VS3, VS4, VS5, VS6, VT1, VT2, finM_ret, finM_nrm, decide_true, decide_false, List.nodup_nil, List.nodup_cons, oks_p, oks_m, oks_h, ne_eq, not_false_eq_true, Int.reduceEq, Int.reduceNe, true_and, Nat.reduceSub, Nat.reduceMul, ↓reduceIte, reduceCtorEq, Nat.reduceEqDiff, Nat.reduceAdd, Nat.reduceLeDiff, Int.reduceLE, cZ1, cZ3]; exact w_laws_toIntS _ hrZ8 ) (by simp [AV.allU, allUL, allUL_iff, VT1, VT2]) (by simp only [VS1, VS2, VS3, VS4, VS5, VS6, VT1, VT2, finM_ret, finM_nrm, decide_true, decide_false, List.nodup_nil, List.nodup_cons, oks_p, oks_m, oks_h, ne_eq, not_false_eq_true, Int.reduceEq, Int.reduceNe, true_and, Nat.reduceSub, Nat.reduceMul, ↓reduceIte, reduceCtorEq, Nat.reduceEqDiff, Nat.reduceAdd, Nat.reduceLeDiff, Int.reduceLE, Nat.reduceLT]) ?_
      simp only [VA, VF1, ↓reduceIte, Nat.reduceEqDiff, Nat.reduceAdd, Nat.reduceMul, Nat.reduceSub, Nat.reduceLeDiff]
      obtain ⟨rZ9, hrZ9, h⟩ := bind_s h
      simp only [VS1, VS2, VS3, VS4, VS5, VS6, VT1, VT2, finM_ret, finM_nrm, decide_true, decide_false, List.nodup_nil, List.nodup_cons, oks_p, oks_m, oks_h, ne_eq, not_false_eq_true, Int.reduceEq, Int.reduceNe, true_and, Nat.reduceSub, Nat.reduceMul, ↓reduceIte, reduceCtorEq, Nat.reduceEqDiff, Nat.reduceAdd, Nat.reduceLeDiff, Int.reduceLE, cZ1, cZ3]
      refine call_s (by simp only [VS1, VS2, VS3, VS4, VS5, VS6, VT1, VT2, finM_ret, finM_nrm, decide_true, decide_false, List.nodup_nil, List.nodup_cons, oks_p, oks_m, oks_h, ne_eq, not_false_eq_true, Int.reduceEq, Int.reduceNe, true_and, Nat.reduceSub, Nat.reduceMul, ↓reduceIte, reduceCtorEq, Nat.reduceEqDiff, Nat.reduceAdd, Nat.reduceLeDiff, Int.reduceLE, cZ1, cZ3]; exact w_impl_IsRing _ _ hrZ9 ) ?_
      simp only [VA, VF1, ↓reduceIte, Nat.reduceEqDiff, Nat.reduceAdd, Nat.reduceMul, Nat.reduceSub, Nat.reduceLeDiff]
      refine Or.elim (bt (!(rZ9 == rZ6))) (fun cZ10 => ?_) (fun cZ10 => ?_)
      · replace h := cond_t cZ10 h
        cases h
        try simp only [VS1, VS2, VS3, VS4, VS5, VS6, VT1, VT2, finM_ret, finM_nrm, decide_true, decide_false, List.nodup_nil, List.nodup_cons, oks_p, oks_m, oks_h, ne_eq, not_false_eq_true, Int.reduceEq, Int.reduceNe, true_and, Nat.reduceSub, Nat.reduceMul, ↓reduceIte, reduceCtorEq, Nat.reduceEqDiff, Nat.reduceAdd, Nat.reduceLeDiff, Int.reduceLE, cZ1, cZ3, cZ10]
        all_goals simp [qL, qJ, qJ0, qS, qX, qR, qM, Shp, sub, tupd, VS1, VS2, VS3, VS4, VS5, VS6, VT1, VT2, V3]
      · replace h := cond_f cZ10 h
        obtain ⟨rZ11, hrZ11, h⟩ := bind_s h
        simp only [VS1, VS2, VS3, VS4, VS5, VS6, VT1, VT2, finM_ret, finM_nrm, decide_true, decide_false, List.nodup_nil, List.nodup_cons, oks_p, oks_m, oks_h, ne_eq, not_false_eq_true, Int.reduceEq, Int.reduceNe, true_and, Nat.reduceSub, Nat.reduceMul, ↓reduceIte, reduceCtorEq, Nat.reduceEqDiff, Nat.reduceAdd, Nat.reduceLeDiff, Int.reduceLE, cZ1, cZ3, cZ10]
        refine call_u (by simp only [VS1, VS2, VS3, VS4, VS5, VS6, VT1, VT2, finM_ret, finM_nrm, decide_true, decide_false, List.nodup_nil, List.nodup_cons, oks_p, oks_m, oks_h, ne_eq, not_false_eq_true, Int.reduceEq, Int.reduceNe, true_and, Nat.reduceSub, Nat.reduceMul, ↓reduceIte, reduceCtorEq, Nat.reduceEqDiff, Nat.reduceAdd, Nat.reduceLeDiff, Int.reduceLE, cZ1, cZ3, cZ10]; exact w_laws_toNetwork _ hrZ11 ) (by simp [AV.allU, allUL, allUL_iff, VT1, VT2]) (by simp only [VS1, VS2, VS3, VS4, VS5, VS6, VT1, VT2, finM_ret, finM_nrm, decide_true, decide_false, List.nodup_nil, List.nodup_cons, oks_p, oks_m, oks_h, ne_eq, not_false_eq_true, Int.reduceEq, Int.reduceNe, true_and, Nat.reduceSub, Nat.reduceMul, ↓reduceIte, reduceCtorEq, Nat.reduceEqDiff, Nat.reduceAdd, Nat.reduceLeDiff, Int.reduceLE, Nat.reduceLT]) ?_
        simp only [VA, VF1, ↓reduceIte, Nat.reduceEqDiff, Nat.reduceAdd, Nat.reduceMul, Nat.reduceSub, Nat.reduceLeDiff]
        obtain ⟨rZ12, hrZ12, h⟩ := bind_s h
        simp only [VS1, VS2, VS3, VS4, VS5, VS6, VT1, VT2, finM_ret, finM_nrm, decide_true, decide_false, List.nodup_nil, List.nodup_cons, oks_p, oks_m, oks_h, ne_eq, not_false_eq_true, Int.reduceEq, Int.reduceNe, true_and, Nat.reduceSub, Nat.reduceMul, ↓reduceIte, reduceCtorEq, Nat.reduceEqDiff, Nat.reduceAdd, Nat.reduceLeDiff, Int.reduceLE, cZ1, cZ3, cZ10]
        refine call_s (by simp only [VS1, VS2, VS3, VS4, VS5, VS6, VT1, VT2, finM_ret, finM_nrm, decide_true, decide_false, List.nodup_nil, List.nodup_cons, oks_p, oks_m, oks_h, ne_eq, not_false_eq_true, Int.reduceEq, Int.reduceNe, true_and, Nat.reduceSub, Nat.reduceMul, ↓reduceIte, reduceCtorEq, Nat.reduceEqDiff, Nat.reduceAdd, Nat.reduceLeDiff, Int.reduceLE, cZ1, cZ3, cZ10]; exact w_laws_eqNetwork _ _ hrZ12 ) ?_
        simp only [VA, VF1, ↓reduceIte, Nat.reduceEqDiff, Nat.reduceAdd, Nat.reduceMul, Nat.reduceSub, Nat.reduceLeDiff]
        refine Or.elim (bt (!rZ12)) (fun cZ13 => ?_) (fun cZ13 => ?_)
        · replace h := cond_t cZ13 h
          cases h
          try simp only [VS1, VS2, VS3, VS4, VS5, VS6, VT1, VT2, finM_ret, finM_nrm, decide_true, decide_false, List.nodup_nil, List.nodup_cons, oks_p, oks_m, oks_h, ne_eq, not_false_eq_true, Int.reduceEq, Int.reduceNe, true_and, Nat.reduceSub, Nat.reduceMul, ↓reduceIte, reduceCtorEq, Nat.reduceEqDiff, Nat.reduceAdd, Nat.reduceLeDiff, Int.reduceLE, cZ1, cZ3, cZ10, cZ13]
          all_goals simp [qL, qJ, qJ0, qS, qX, qR, qM, Shp, sub, tupd, VS1, VS2, VS3, VS4, VS5, VS6, VT1, VT2, V3]
        · replace h := cond_f cZ13 h
          obtain ⟨rZ14, hrZ14, h⟩ := bind_s h
          simp only [VS1, VS2, VS3, VS4, VS5, VS6, VT1, VT2, finM_ret, finM_nrm, decide_true, decide_false, List.nodup_nil, List.nodup_cons, oks_p, oks_m, oks_h, ne_eq, not_false_eq_true, Int.reduceEq, Int.reduceNe, true_and, Nat.reduceSub, Nat.reduceMul, ↓reduceIte, reduceCtorEq, Nat.reduceEqDiff, Nat.reduceAdd, Nat.reduceLeDiff, Int.reduceLE, cZ1, cZ3, cZ10, cZ13]
          refine call_u (by simp only [VS1, VS2, VS3, VS4, VS5, VS6, VT1, VT2, finM_ret, finM_nrm, decide_true, decide_false, List.nodup_nil, List.nodup_cons, oks_p, oks_m, oks_h, ne_eq, not_false_eq_true, Int.reduceEq, Int.reduceNe, true_and, Nat.reduceSub, Nat.reduceMul, ↓reduceIte, reduceCtorEq, Nat.reduceEqDiff, Nat.reduceAdd, Nat.reduceLeDiff, Int.reduceLE, cZ1, cZ3, cZ10, cZ13]; exact w_laws_toIntS _ hrZ14 ) (by simp [AV.allU, allUL, allUL_iff, VT1, VT2]) (by simp only [VS1, VS2, VS3, VS4, VS5, VS6, VT1, VT2, finM_ret, finM_nrm, decide_true, decide_false, List.nodup_nil, List.nodup_cons, oks_p, oks_m, oks_h, ne_eq, not_false_eq_true, Int.reduceEq, Int.reduceNe, true_and, Nat.reduceSub, Nat.reduceMul, ↓reduceIte, reduceCtorEq, Nat.reduceEqDiff, Nat.reduceAdd, Nat.reduceLeDiff, Int.reduceLE, Nat.reduceLT]) ?_
          simp only [VA, VF1, ↓reduceIte, Nat.reduceEqDiff, Nat.reduceAdd, Nat.reduceMul, Nat.reduceSub, Nat.reduceLeDiff]
          obtain ⟨rZ15, hrZ15, h⟩ := bind_s h
          simp only [VS1, VS2, VS3, VS4, VS5, VS6, VT1, VT2, finM_ret, finM_nrm, decide_true, decide_false, List.nodup_nil, List.nodup_cons, oks_p, oks_m, oks_h, ne_eq, not_false_eq_true, Int.reduceEq, Int.reduceNe, true_and, Nat.reduceSub, Nat.reduceMul, ↓reduceIte, reduceCtorEq, Nat.reduceEqDiff, Nat.reduceAdd, Nat.reduceLeDiff, Int.reduceLE, cZ1, cZ3, cZ10, cZ13]
          refine call_s (by simp only [VS1, VS2, VS3, VS4, VS5, VS6, VT1, VT2, finM_ret, finM_nrm, decide_true, decide_false, List.nodup_nil, List.nodup_cons, oks_p, oks_m, oks_h, ne_eq, not_false_eq_true, Int.reduceEq, Int.reduceNe, true_and, Nat.reduceSub, Nat.reduceMul, ↓reduceIte, reduceCtorEq, Nat.reduceEqDiff, Nat.reduceAdd, Nat.reduceLeDiff, Int.reduceLE, cZ1, cZ3, cZ10, cZ13]; exact w_laws_eqIntS _ _ hrZ15 ) ?_
          simp only [VA, VF1, ↓reduceIte, Nat.reduceEqDiff, Nat.reduceAdd, Nat.reduceMul, Nat.reduceSub, Nat.reduceLeDiff]
          refine Or.elim (bt (!rZ15)) (fun cZ16 => ?_) (fun cZ16 => ?_)
          · replace h := cond_t cZ16 h
            cases h
            try simp only [VS1, VS2, VS3, VS4, VS5, VS6, VT1, VT2, finM_ret, finM_nrm, decide_true, decide_false, List.nodup_nil, List.nodup_cons, oks_p, oks_m, oks_h, ne_eq, not_false_eq_true, Int.reduceEq, Int.reduceNe, true_and, Nat.reduceSub, Nat.reduceMul, ↓reduceIte, reduceCtorEq, Nat.reduceEqDiff, Nat.reduceAdd, Nat.reduceLeDiff, Int.reduceLE, cZ1, cZ3, cZ10, cZ13, cZ16]
            all_goals simp [qL, qJ, qJ0, qS, qX, qR, qM, Shp, sub, tupd, VS1, VS2, VS3, VS4, VS5, VS6, VT1, VT2, V3]
          · replace h := cond_f cZ16 h
            cases h
            try simp only [VS1, VS2, VS3, VS4, VS5, VS6, VT1, VT2, finM_ret, finM_nrm, decide_true, decide_false, List.nodup_nil, List.nodup_cons, oks_p, oks_m, oks_h, ne_eq, not_false_eq_true, Int.reduceEq, Int.reduceNe, true_and, Nat.reduceSub, Nat.reduceMul, ↓reduceIte, reduceCtorEq, Nat.reduceEqDiff, Nat.reduceAdd, Nat.reduceLeDiff, Int.reduceLE, cZ1, cZ3, cZ10, cZ13, cZ16]
            all_goals simp [qL, qJ, qJ0, qS, qX, qR, qM, Shp, sub, tupd, VS1, VS2, VS3, VS4, VS5, VS6, VT1, VT2, V3]
end Vs

