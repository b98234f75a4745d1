/-
  Part of the proof that the law FnExactBlockedRate returns true at every input; no condition beside the row's own.
-/
import Derived.Test.YtgbifbhfdjdhbaaAa
set_option linter.unusedSimpArgs false
set_option linter.unusedVariables false
set_option maxHeartbeats 1000000
namespace Vs
open Go Go.Proofs
attribute [local irreducible] AWP stOps eff awpC callA callM
theorem VT1 : (∀ (f : Fl) (x : TTributary), e_TTributary f x = .agg [.i x.From, .i x.To, .i x.Rate]) ∧
  (∀ (f : Fl) (x : TLink), e_TLink f x = .agg [.i x.A, .i x.B, .i x.Capacity]) ∧
  (∀ (f : Fl) (x : TFiber), e_TFiber f x = .agg [.i x.A, .i x.B, .i x.Length, .i x.Risk]) ∧
  (∀ (f : Fl) (x : List Int), e_Li f x = .lst f 1 (x.map AV.i)) := ⟨fun _ _ => rfl, fun _ _ => rfl, fun _ _ => rfl, fun _ _ => rfl⟩
theorem VT2 : (∀ (f : Fl) (x : TTributary), (e_TTributary f x).nrm = e_TTributary .o x) ∧
  (∀ (f : Fl) (xs : List TTributary), (xs.map (e_TTributary f)).map AV.nrm = xs.map (e_TTributary .o)) ∧
  (∀ (f : Fl) (x : TTributary), (e_TTributary f x).als = e_TTributary f.als x) ∧
  (∀ (f : Fl) (xs : List TTributary), (xs.map (e_TTributary f)).map AV.als = xs.map (e_TTributary f.als)) ∧
  (∀ (f : Fl) (x : TTributary), (e_TTributary f x).fix = e_TTributary f.fix x) ∧
  (∀ (f : Fl) (xs : List TTributary), (xs.map (e_TTributary f)).map AV.fix = xs.map (e_TTributary f.fix)) ∧
  (∀ (f : Fl) (x : TLink), (e_TLink f x).nrm = e_TLink .o x) ∧
  (∀ (f : Fl) (xs : List TLink), (xs.map (e_TLink f)).map AV.nrm = xs.map (e_TLink .o)) ∧
  (∀ (f : Fl) (x : TLink), (e_TLink f x).als = e_TLink f.als x) ∧
  (∀ (f : Fl) (xs : List TLink), (xs.map (e_TLink f)).map AV.als = xs.map (e_TLink f.als)) ∧
  (∀ (f : Fl) (x : TLink), (e_TLink f x).fix = e_TLink f.fix x) ∧
  (∀ (f : Fl) (xs : List TLink), (xs.map (e_TLink f)).map AV.fix = xs.map (e_TLink f.fix)) ∧
  (∀ (f : Fl) (x : TFiber), (e_TFiber f x).nrm = e_TFiber .o x) ∧
  (∀ (f : Fl) (xs : List TFiber), (xs.map (e_TFiber f)).map AV.nrm = xs.map (e_TFiber .o)) ∧
  (∀ (f : Fl) (x : TFiber), (e_TFiber f x).als = e_TFiber f.als x) ∧
  (∀ (f : Fl) (xs : List TFiber), (xs.map (e_TFiber f)).map AV.als = xs.map (e_TFiber f.als)) ∧
  (∀ (f : Fl) (x : TFiber), (e_TFiber f x).fix = e_TFiber f.fix x) ∧
  (∀ (f : Fl) (xs : List TFiber), (xs.map (e_TFiber f)).map AV.fix = xs.map (e_TFiber f.fix)) ∧
  (∀ (f : Fl) (x : List Int), (e_Li f x).nrm = e_Li .o x) ∧
  (∀ (f : Fl) (xs : List (List Int)), (xs.map (e_Li f)).map AV.nrm = xs.map (e_Li .o)) ∧
  (∀ (f : Fl) (x : List Int), (e_Li f x).als = e_Li f.als x) ∧
  (∀ (f : Fl) (xs : List (List Int)), (xs.map (e_Li f)).map AV.als = xs.map (e_Li f.als)) ∧
  (∀ (f : Fl) (x : List Int), (e_Li f x).fix = e_Li f.fix x) ∧
  (∀ (f : Fl) (xs : List (List Int)), (xs.map (e_Li f)).map AV.fix = xs.map (e_Li f.fix)) :=
  ⟨@e_TTributary_nrm, @e_TTributary_nrmm, @e_TTributary_als, @e_TTributary_alsm, @e_TTributary_fix, @e_TTributary_fixm, @e_TLink_nrm, @e_TLink_nrmm, @e_TLink_als, @e_TLink_alsm, @e_TLink_fix, @e_TLink_fixm, @e_TFiber_nrm, @e_TFiber_nrmm, @e_TFiber_als, @e_TFiber_alsm, @e_TFiber_fix, @e_TFiber_fixm, @e_Li_nrm, @e_Li_nrmm, @e_Li_als, @e_Li_alsm, @e_Li_fix, @e_Li_fixm⟩
theorem VF1 : (∀ (f : Fl) (x : TTributary), (e_TTributary f x).fix = e_TTributary f.fix x) ∧
  (∀ (f : Fl) (xs : List TTributary), (xs.map (e_TTributary f)).map AV.fix = xs.map (e_TTributary f.fix)) ∧
  (∀ (f : Fl) (x : TLink), (e_TLink f x).fix = e_TLink f.fix x) ∧
  (∀ (f : Fl) (xs : List TLink), (xs.map (e_TLink f)).map AV.fix = xs.map (e_TLink f.fix)) ∧
  (∀ (f : Fl) (x : TFiber), (e_TFiber f x).fix = e_TFiber f.fix x) ∧
  (∀ (f : Fl) (xs : List TFiber), (xs.map (e_TFiber f)).map AV.fix = xs.map (e_TFiber f.fix)) ∧
  (∀ (f : Fl) (x : List Int), (e_Li f x).fix = e_Li f.fix x) ∧
  (∀ (f : Fl) (xs : List (List Int)), (xs.map (e_Li f)).map AV.fix = xs.map (e_Li f.fix)) :=
  ⟨@e_TTributary_fix, @e_TTributary_fixm, @e_TLink_fix, @e_TLink_fixm, @e_TFiber_fix, @e_TFiber_fixm, @e_Li_fix, @e_Li_fixm⟩
theorem w_laws_szTributaryS (aZ0 : List TTributary) (leftZ0 : Int) {r : Int} (h : M_laws_szTributaryS aZ0 leftZ0 = some r) : Ok Try.prog 14 [.lst .o 3 (aZ0.map (e_TTributary .o)), .i leftZ0] ((fun r => .i r) r) := by
  refine ok_of_body hmix m14 rfl ?_
  unfold M_laws_szTributaryS at h
  simp only [A14, V14, body_eq]
  refine Or.elim (bt (decide ((IntKind.wrap .i64 (leftZ0 - (aZ0.length : Int))) < 0))) (fun cZ1 => ?_) (fun cZ1 => ?_)
  · replace h := cond_t cZ1 h
    cases h
    try simp only [VS1, VS2, VS3, VS4, VS5, VS6, VT1, VT2, finM_ret, finM_nrm, decide_true, decide_false, List.nodup_nil, List.nodup_cons, oks_p, oks_m, Nat.reduceSub, Nat.reduceMul, ↓reduceIte, reduceCtorEq, Nat.reduceEqDiff, Nat.reduceAdd, Nat.reduceLeDiff, Int.reduceLE, cZ1]
    all_goals simp [qL, qJ, qJ0, qS, qX, qR, qM, Shp, sub, VS1, VS2, VS3, VS4, VS5, VS6, VT1, VT2, V14]
  · replace h := cond_f cZ1 h
    cases h
    try simp only [VS1, VS2, VS3, VS4, VS5, VS6, VT1, VT2, finM_ret, finM_nrm, decide_true, decide_false, List.nodup_nil, List.nodup_cons, oks_p, oks_m, Nat.reduceSub, Nat.reduceMul, ↓reduceIte, reduceCtorEq, Nat.reduceEqDiff, Nat.reduceAdd, Nat.reduceLeDiff, Int.reduceLE, cZ1]
    all_goals simp [qL, qJ, qJ0, qS, qX, qR, qM, Shp, sub, VS1, VS2, VS3, VS4, VS5, VS6, VT1, VT2, V14]
theorem w_laws_toTributary (aZ0 : TTributary) {r : TTributary} (h : M_laws_toTributary aZ0 = some r) : Ok Try.prog 28 [.agg [.i aZ0.From, .i aZ0.To, .i aZ0.Rate]] ((fun r => .agg [.i r.From, .i r.To, .i r.Rate]) r) := by
  refine ok_of_body hmix m28 rfl ?_
  unfold M_laws_toTributary at h
  simp only [A28, V28, body_eq]
  cases h
  try simp only [VS1, VS2, VS3, VS4, VS5, VS6, VT1, VT2, finM_ret, finM_nrm, decide_true, decide_false, List.nodup_nil, List.nodup_cons, oks_p, oks_m, Nat.reduceSub, Nat.reduceMul, ↓reduceIte, reduceCtorEq, Nat.reduceEqDiff, Nat.reduceAdd, Nat.reduceLeDiff, Int.reduceLE]
  all_goals simp [qL, qJ, qJ0, qS, qX, qR, qM, Shp, sub, VS1, VS2, VS3, VS4, VS5, VS6, VT1, VT2, V28]
def S_laws_toTributarySL1 (aZ0 : List TTributary) (v : Int × List TTributary) : St := ⟨[(0, .lst .o 3 (aZ0.map (e_TTributary .o))), (3, .sl 3 0 v.2.length), (4, .i v.1)], [(3, .arr 3 (v.2.map (e_TTributary .u)))]⟩
def SX_laws_toTributarySL1 (v : List TTributary) : St := ⟨[(3, .sl 3 0 v.length)], [(3, .arr 3 (v.map (e_TTributary .u)))]⟩
theorem w_laws_toTributarySL1 (aZ0 : List TTributary) (sZ4 : Int × List TTributary) (o : (Int × List TTributary) ⊕ (List TTributary)) (h : M_laws_toTributarySL1 aZ0 sZ4 = some o) : AWP (OkS Try.prog) A16L1 (qL [0, 3, 4] [3] (S_laws_toTributarySL1 aZ0) (qX 0 [3] [3] (SX_laws_toTributarySL1)) o) (S_laws_toTributarySL1 aZ0 sZ4) := by
  unfold M_laws_toTributarySL1 at h
  simp only [S_laws_toTributarySL1, A16L1]
  refine Or.elim (bt (decide (sZ4.1 < (aZ0.length : Int)))) (fun cZ5 => ?_) (fun cZ5 => ?_)
  · replace h := cond_t cZ5 h
    obtain ⟨yZ6, hyZ6, h⟩ := bind_s h
    obtain ⟨hyZ6a, hyZ6b⟩ := geti_s hyZ6
    obtain ⟨rZ7, hrZ7, h⟩ := bind_s h
    simp only [VS1, VS2, VS3, VS4, VS5, VS6, VT1, VT2, finM_ret, finM_nrm, decide_true, decide_false, List.nodup_nil, List.nodup_cons, oks_p, oks_m, Nat.reduceSub, Nat.reduceMul, ↓reduceIte, reduceCtorEq, Nat.reduceEqDiff, Nat.reduceAdd, Nat.reduceLeDiff, Int.reduceLE, cZ5, hyZ6a, hyZ6b]
    refine call_u (by simp only [VS1, VS2, VS3, VS4, VS5, VS6, VT1, VT2, finM_ret, finM_nrm, decide_true, decide_false, List.nodup_nil, List.nodup_cons, oks_p, oks_m, Nat.reduceSub, Nat.reduceMul, ↓reduceIte, reduceCtorEq, Nat.reduceEqDiff, Nat.reduceAdd, Nat.reduceLeDiff, Int.reduceLE, cZ5, hyZ6a, hyZ6b]; exact w_laws_toTributary _ hrZ7 ) (by simp [AV.allU, allUL, allUL_iff, VT1, VT2]) (by simp only [VS1, VS2, VS3, VS4, VS5, VS6, VT1, VT2, finM_ret, finM_nrm, decide_true, decide_false, List.nodup_nil, List.nodup_cons, oks_p, oks_m, Nat.reduceSub, Nat.reduceMul, ↓reduceIte, reduceCtorEq, Nat.reduceEqDiff, Nat.reduceAdd, Nat.reduceLeDiff, Int.reduceLE, Nat.reduceLT]) ?_
    simp only [VA, VF1, ↓reduceIte, Nat.reduceEqDiff, Nat.reduceAdd, Nat.reduceMul, Nat.reduceSub, Nat.reduceLeDiff]
    obtain ⟨kZ8, hkZ8, h⟩ := bind_s h
    obtain ⟨hkZ8a, hkZ8b⟩ := grd_s hkZ8
    obtain ⟨yZ9, hyZ9, h⟩ := bind_s h
    obtain ⟨lZ10, hlZ10, h⟩ := bnd_s h
    have eZ11 : (sZ4.2.map (e_TTributary .u)).set (Int.toNat sZ4.1) (.agg [.i rZ7.From, .i rZ7.To, .i rZ7.Rate]) = lZ10.map (e_TTributary .u) := by rw [← hlZ10, List.map_set]; rfl
    cases h
    try simp only [VS1, VS2, VS3, VS4, VS5, VS6, VT1, VT2, finM_ret, finM_nrm, decide_true, decide_false, List.nodup_nil, List.nodup_cons, oks_p, oks_m, Nat.reduceSub, Nat.reduceMul, ↓reduceIte, reduceCtorEq, Nat.reduceEqDiff, Nat.reduceAdd, Nat.reduceLeDiff, Int.reduceLE, cZ5, hyZ6a, hyZ6b, hkZ8a, hkZ8b, hyZ9, eZ11]
    all_goals simp [qL, qJ, qJ0, qS, qX, qR, qM, Shp, sub, VS1, VS2, VS3, VS4, VS5, VS6, VT1, VT2, S_laws_toTributarySL1, SX_laws_toTributarySL1, ← hlZ10]
  · replace h := cond_f cZ5 h
    cases h
    try simp only [VS1, VS2, VS3, VS4, VS5, VS6, VT1, VT2, finM_ret, finM_nrm, decide_true, decide_false, List.nodup_nil, List.nodup_cons, oks_p, oks_m, Nat.reduceSub, Nat.reduceMul, ↓reduceIte, reduceCtorEq, Nat.reduceEqDiff, Nat.reduceAdd, Nat.reduceLeDiff, Int.reduceLE, cZ5]
    all_goals simp [qL, qJ, qJ0, qS, qX, qR, qM, Shp, sub, VS1, VS2, VS3, VS4, VS5, VS6, VT1, VT2, S_laws_toTributarySL1, SX_laws_toTributarySL1]
theorem w_laws_toTributaryS (aZ0 : List TTributary) {r : List TTributary} (h : M_laws_toTributaryS aZ0 = some r) : Ok Try.prog 16 [.lst .o 3 (aZ0.map (e_TTributary .o))] ((fun r => .lst .u 3 (r.map (e_TTributary .u))) r) := by
  refine ok_of_body hmix m16 rfl ?_
  unfold M_laws_toTributaryS at h
  simp only [A16, V16, body_eq]
  obtain ⟨uZ1, huZ1, h⟩ := bind_s h
  obtain ⟨huZ11, huZ12, huZ13, huZ14⟩ := grd_s huZ1
  obtain ⟨lZ2, hlZ2, h⟩ := bnd_s h
  have eZ3 : List.replicate (Int.toNat (aZ0.length : Int)) (.agg [.i 0, .i 0, .i 0] : AV) = lZ2.map (e_TTributary .u) := by rw [← hlZ2, List.map_replicate]; rfl
  obtain ⟨oZ12, hoZ12, h⟩ := bind_s h
  try simp only [VS1, VS2, VS3, VS4, VS5, VS6, VT1, VT2, finM_ret, finM_nrm, decide_true, decide_false, List.nodup_nil, List.nodup_cons, oks_p, oks_m, Nat.reduceSub, Nat.reduceMul, ↓reduceIte, reduceCtorEq, Nat.reduceEqDiff, Nat.reduceAdd, Nat.reduceLeDiff, Int.reduceLE, huZ11, huZ12, huZ13, huZ14, eZ3]
  refine join_rule0 (blk_rule0 (loop_rule (w_laws_toTributarySL1 aZ0) hoZ12 ?_)) ?_
  · all_goals simp [qL, qJ, qJ0, qS, qX, qR, qM, Shp, sub, VS1, VS2, VS3, VS4, VS5, VS6, VT1, VT2, S_laws_toTributarySL1, SX_laws_toTributarySL1, ← hlZ2, List.length_replicate]
  · simp only [SX_laws_toTributarySL1, A16R2]
    cases h
    try simp only [VS1, VS2, VS3, VS4, VS5, VS6, VT1, VT2, finM_ret, finM_nrm, decide_true, decide_false, List.nodup_nil, List.nodup_cons, oks_p, oks_m, Nat.reduceSub, Nat.reduceMul, ↓reduceIte, reduceCtorEq, Nat.reduceEqDiff, Nat.reduceAdd, Nat.reduceLeDiff, Int.reduceLE, huZ11, huZ12, huZ13, huZ14, eZ3]
    all_goals simp [qL, qJ, qJ0, qS, qX, qR, qM, Shp, sub, VS1, VS2, VS3, VS4, VS5, VS6, VT1, VT2, V16]
theorem w_spec_l1In (xZ0 : Int) (aZ0 : Int) (bZ0 : Int) {r : Bool} (h : M_spec_l1In xZ0 aZ0 bZ0 = some r) : Ok Try.prog 67 [.i xZ0, .i aZ0, .i bZ0] ((fun r => .b r) r) := by
  refine ok_of_body hmix m67 rfl ?_
  unfold M_spec_l1In at h
  simp only [A67, V67, body_eq]
  refine Or.elim (bt (decide (aZ0 ≤ xZ0))) (fun cZ1 => ?_) (fun cZ1 => ?_)
  · replace h := cond_t cZ1 h
    cases h
    try simp only [VS1, VS2, VS3, VS4, VS5, VS6, VT1, VT2, finM_ret, finM_nrm, decide_true, decide_false, List.nodup_nil, List.nodup_cons, oks_p, oks_m, Nat.reduceSub, Nat.reduceMul, ↓reduceIte, reduceCtorEq, Nat.reduceEqDiff, Nat.reduceAdd, Nat.reduceLeDiff, Int.reduceLE, cZ1]
    all_goals simp [qL, qJ, qJ0, qS, qX, qR, qM, Shp, sub, VS1, VS2, VS3, VS4, VS5, VS6, VT1, VT2, V67]
  · replace h := cond_f cZ1 h
    cases h
    try simp only [VS1, VS2, VS3, VS4, VS5, VS6, VT1, VT2, finM_ret, finM_nrm, decide_true, decide_false, List.nodup_nil, List.nodup_cons, oks_p, oks_m, Nat.reduceSub, Nat.reduceMul, ↓reduceIte, reduceCtorEq, Nat.reduceEqDiff, Nat.reduceAdd, Nat.reduceLeDiff, Int.reduceLE, cZ1]
    all_goals simp [qL, qJ, qJ0, qS, qX, qR, qM, Shp, sub, VS1, VS2, VS3, VS4, VS5, VS6, VT1, VT2, V67]
theorem w_spec_l18Pair (aZ0 : Int) (bZ0 : Int) (nodesZ0 : Int) {r : Bool} (h : M_spec_l18Pair aZ0 bZ0 nodesZ0 = some r) : Ok Try.prog 95 [.i aZ0, .i bZ0, .i nodesZ0] ((fun r => .b r) r) := by
  refine ok_of_body hmix m95 rfl ?_
  unfold M_spec_l18Pair at h
  simp only [A95, V95, body_eq]
  obtain ⟨rZ1, hrZ1, h⟩ := bind_s h
  simp only [VS1, VS2, VS3, VS4, VS5, VS6, VT1, VT2, finM_ret, finM_nrm, decide_true, decide_false, List.nodup_nil, List.nodup_cons, oks_p, oks_m, Nat.reduceSub, Nat.reduceMul, ↓reduceIte, reduceCtorEq, Nat.reduceEqDiff, Nat.reduceAdd, Nat.reduceLeDiff, Int.reduceLE]
  refine call_s (by simp only [VS1, VS2, VS3, VS4, VS5, VS6, VT1, VT2, finM_ret, finM_nrm, decide_true, decide_false, List.nodup_nil, List.nodup_cons, oks_p, oks_m, Nat.reduceSub, Nat.reduceMul, ↓reduceIte, reduceCtorEq, Nat.reduceEqDiff, Nat.reduceAdd, Nat.reduceLeDiff, Int.reduceLE]; exact w_spec_l1In _ _ _ hrZ1 ) ?_
  simp only [VA, VF1, ↓reduceIte, Nat.reduceEqDiff, Nat.reduceAdd, Nat.reduceMul, Nat.reduceSub, Nat.reduceLeDiff]
  refine Or.elim (bt (rZ1)) (fun cZ2 => ?_) (fun cZ2 => ?_)
  · replace h := cond_t cZ2 h
    obtain ⟨rZ3, hrZ3, h⟩ := bind_s h
    simp only [VS1, VS2, VS3, VS4, VS5, VS6, VT1, VT2, finM_ret, finM_nrm, decide_true, decide_false, List.nodup_nil, List.nodup_cons, oks_p, oks_m, Nat.reduceSub, Nat.reduceMul, ↓reduceIte, reduceCtorEq, Nat.reduceEqDiff, Nat.reduceAdd, Nat.reduceLeDiff, Int.reduceLE, cZ2]
    refine call_s (by simp only [VS1, VS2, VS3, VS4, VS5, VS6, VT1, VT2, finM_ret, finM_nrm, decide_true, decide_false, List.nodup_nil, List.nodup_cons, oks_p, oks_m, Nat.reduceSub, Nat.reduceMul, ↓reduceIte, reduceCtorEq, Nat.reduceEqDiff, Nat.reduceAdd, Nat.reduceLeDiff, Int.reduceLE, cZ2]; exact w_spec_l1In _ _ _ hrZ3 ) ?_
    simp only [VA, VF1, ↓reduceIte, Nat.reduceEqDiff, Nat.reduceAdd, Nat.reduceMul, Nat.reduceSub, Nat.reduceLeDiff]
    refine Or.elim (bt (rZ3)) (fun cZ4 => ?_) (fun cZ4 => ?_)
    · replace h := cond_t cZ4 h
      cases h
      try simp only [VS1, VS2, VS3, VS4, VS5, VS6, VT1, VT2, finM_ret, finM_nrm, decide_true, decide_false, List.nodup_nil, List.nodup_cons, oks_p, oks_m, Nat.reduceSub, Nat.reduceMul, ↓reduceIte, reduceCtorEq, Nat.reduceEqDiff, Nat.reduceAdd, Nat.reduceLeDiff, Int.reduceLE, cZ2, cZ4]
      all_goals simp [qL, qJ, qJ0, qS, qX, qR, qM, Shp, sub, VS1, VS2, VS3, VS4, VS5, VS6, VT1, VT2, V95]
    · replace h := cond_f cZ4 h
      cases h
      try simp only [VS1, VS2, VS3, VS4, VS5, VS6, VT1, VT2, finM_ret, finM_nrm, decide_true, decide_false, List.nodup_nil, List.nodup_cons, oks_p, oks_m, Nat.reduceSub, Nat.reduceMul, ↓reduceIte, reduceCtorEq, Nat.reduceEqDiff, Nat.reduceAdd, Nat.reduceLeDiff, Int.reduceLE, cZ2, cZ4]
      all_goals simp [qL, qJ, qJ0, qS, qX, qR, qM, Shp, sub, VS1, VS2, VS3, VS4, VS5, VS6, VT1, VT2, V95]
  · replace h := cond_f cZ2 h
    cases h
    try simp only [VS1, VS2, VS3, VS4, VS5, VS6, VT1, VT2, finM_ret, finM_nrm, decide_true, decide_false, List.nodup_nil, List.nodup_cons, oks_p, oks_m, Nat.reduceSub, Nat.reduceMul, ↓reduceIte, reduceCtorEq, Nat.reduceEqDiff, Nat.reduceAdd, Nat.reduceLeDiff, Int.reduceLE, cZ2]
    all_goals simp [qL, qJ, qJ0, qS, qX, qR, qM, Shp, sub, VS1, VS2, VS3, VS4, VS5, VS6, VT1, VT2, V95]
def S_spec_l18GoodL1 (listZ0 : List TTributary) (nodesZ0 : Int) (v : Int) : St := ⟨[(0, .lst .o 3 (listZ0.map (e_TTributary .o))), (1, .i nodesZ0), (5, .i v)], []⟩
def SX_spec_l18GoodL1 (listZ0 : List TTributary) (nodesZ0 : Int) (v : Unit) : St := ⟨[(0, .lst .o 3 (listZ0.map (e_TTributary .o))), (1, .i nodesZ0)], []⟩
theorem w_spec_l18GoodL1 (listZ0 : List TTributary) (nodesZ0 : Int) (sZ1 : Int) (o : Int ⊕ (Unit ⊕ Bool)) (h : M_spec_l18GoodL1 listZ0 nodesZ0 sZ1 = some o) : AWP (OkS Try.prog) A54L3 (qL [0, 1, 5] [] (S_spec_l18GoodL1 listZ0 nodesZ0) (qS (qX 0 [0, 1] [] (SX_spec_l18GoodL1 listZ0 nodesZ0)) (qR V54 (fun r => .b r))) o) (S_spec_l18GoodL1 listZ0 nodesZ0 sZ1) := by
  unfold M_spec_l18GoodL1 at h
  simp only [S_spec_l18GoodL1, A54L3]
  obtain ⟨oZ3, hoZ3, h⟩ := bind_s h
  try simp only [VS1, VS2, VS3, VS4, VS5, VS6, VT1, VT2, finM_ret, finM_nrm, decide_true, decide_false, List.nodup_nil, List.nodup_cons, oks_p, oks_m, Nat.reduceSub, Nat.reduceMul, ↓reduceIte, reduceCtorEq, Nat.reduceEqDiff, Nat.reduceAdd, Nat.reduceLeDiff, Int.reduceLE]
  refine join_rule0 (sh := (fun v => ⟨[(0, .lst .o 3 (listZ0.map (e_TTributary .o))), (1, .i nodesZ0), (5, .i sZ1), (13, .b v)], []⟩)) (s := oZ3) ?_ ?_
  · replace h := hoZ3
    refine Or.elim (bt (decide (sZ1 < (listZ0.length : Int)))) (fun cZ2 => ?_) (fun cZ2 => ?_)
    · replace h := cond_t cZ2 h
      cases h
      try simp only [VS1, VS2, VS3, VS4, VS5, VS6, VT1, VT2, finM_ret, finM_nrm, decide_true, decide_false, List.nodup_nil, List.nodup_cons, oks_p, oks_m, Nat.reduceSub, Nat.reduceMul, ↓reduceIte, reduceCtorEq, Nat.reduceEqDiff, Nat.reduceAdd, Nat.reduceLeDiff, Int.reduceLE, cZ2]
      all_goals simp [qL, qJ, qJ0, qS, qX, qR, qM, Shp, sub, VS1, VS2, VS3, VS4, VS5, VS6, VT1, VT2]
    · replace h := cond_f cZ2 h
      cases h
      try simp only [VS1, VS2, VS3, VS4, VS5, VS6, VT1, VT2, finM_ret, finM_nrm, decide_true, decide_false, List.nodup_nil, List.nodup_cons, oks_p, oks_m, Nat.reduceSub, Nat.reduceMul, ↓reduceIte, reduceCtorEq, Nat.reduceEqDiff, Nat.reduceAdd, Nat.reduceLeDiff, Int.reduceLE, cZ2]
      all_goals simp [qL, qJ, qJ0, qS, qX, qR, qM, Shp, sub, VS1, VS2, VS3, VS4, VS5, VS6, VT1, VT2]
  · simp only [A54R1]
    refine Or.elim (bt (oZ3)) (fun cZ4 => ?_) (fun cZ4 => ?_)
    · replace h := cond_t cZ4 h
      obtain ⟨oZ9, hoZ9, h⟩ := bind_s h
      try simp only [VS1, VS2, VS3, VS4, VS5, VS6, VT1, VT2, finM_ret, finM_nrm, decide_true, decide_false, List.nodup_nil, List.nodup_cons, oks_p, oks_m, Nat.reduceSub, Nat.reduceMul, ↓reduceIte, reduceCtorEq, Nat.reduceEqDiff, Nat.reduceAdd, Nat.reduceLeDiff, Int.reduceLE, cZ4]
      refine join_rule0 (sh := (fun v => ⟨[(0, .lst .o 3 (listZ0.map (e_TTributary .o))), (1, .i nodesZ0), (5, .i sZ1), (37, .b v)], []⟩)) (s := oZ9) ?_ ?_
      · replace h := hoZ9
        obtain ⟨yZ5, hyZ5, h⟩ := bind_s h
        obtain ⟨hyZ5a, hyZ5b⟩ := geti_s hyZ5
        obtain ⟨rZ6, hrZ6, h⟩ := bind_s h
        simp only [VS1, VS2, VS3, VS4, VS5, VS6, VT1, VT2, finM_ret, finM_nrm, decide_true, decide_false, List.nodup_nil, List.nodup_cons, oks_p, oks_m, Nat.reduceSub, Nat.reduceMul, ↓reduceIte, reduceCtorEq, Nat.reduceEqDiff, Nat.reduceAdd, Nat.reduceLeDiff, Int.reduceLE, cZ4, hyZ5a, hyZ5b]
        refine call_s (by simp only [VS1, VS2, VS3, VS4, VS5, VS6, VT1, VT2, finM_ret, finM_nrm, decide_true, decide_false, List.nodup_nil, List.nodup_cons, oks_p, oks_m, Nat.reduceSub, Nat.reduceMul, ↓reduceIte, reduceCtorEq, Nat.reduceEqDiff, Nat.reduceAdd, Nat.reduceLeDiff, Int.reduceLE, cZ4, hyZ5a, hyZ5b]; exact w_spec_l18Pair _ _ _ hrZ6 ) ?_
        simp only [VA, VF1, ↓reduceIte, Nat.reduceEqDiff, Nat.reduceAdd, Nat.reduceMul, Nat.reduceSub, Nat.reduceLeDiff]
        refine Or.elim (bt (!rZ6)) (fun cZ7 => ?_) (fun cZ7 => ?_)
        · replace h := cond_t cZ7 h
          cases h
          try simp only [VS1, VS2, VS3, VS4, VS5, VS6, VT1, VT2, finM_ret, finM_nrm, decide_true, decide_false, List.nodup_nil, List.nodup_cons, oks_p, oks_m, Nat.reduceSub, Nat.reduceMul, ↓reduceIte, reduceCtorEq, Nat.reduceEqDiff, Nat.reduceAdd, Nat.reduceLeDiff, Int.reduceLE, cZ4, hyZ5a, hyZ5b, cZ7]
          all_goals simp [qL, qJ, qJ0, qS, qX, qR, qM, Shp, sub, VS1, VS2, VS3, VS4, VS5, VS6, VT1, VT2]
        · replace h := cond_f cZ7 h
          obtain ⟨rZ8, hrZ8, h⟩ := bind_s h
          simp only [VS1, VS2, VS3, VS4, VS5, VS6, VT1, VT2, finM_ret, finM_nrm, decide_true, decide_false, List.nodup_nil, List.nodup_cons, oks_p, oks_m, Nat.reduceSub, Nat.reduceMul, ↓reduceIte, reduceCtorEq, Nat.reduceEqDiff, Nat.reduceAdd, Nat.reduceLeDiff, Int.reduceLE, cZ4, hyZ5a, hyZ5b, cZ7]
          refine call_s (by simp only [VS1, VS2, VS3, VS4, VS5, VS6, VT1, VT2, finM_ret, finM_nrm, decide_true, decide_false, List.nodup_nil, List.nodup_cons, oks_p, oks_m, Nat.reduceSub, Nat.reduceMul, ↓reduceIte, reduceCtorEq, Nat.reduceEqDiff, Nat.reduceAdd, Nat.reduceLeDiff, Int.reduceLE, cZ4, hyZ5a, hyZ5b, cZ7]; exact w_spec_l1In _ _ _ hrZ8 ) ?_
          simp only [VA, VF1, ↓reduceIte, Nat.reduceEqDiff, Nat.reduceAdd, Nat.reduceMul, Nat.reduceSub, Nat.reduceLeDiff]
          cases h
          try simp only [VS1, VS2, VS3, VS4, VS5, VS6, VT1, VT2, finM_ret, finM_nrm, decide_true, decide_false, List.nodup_nil, List.nodup_cons, oks_p, oks_m, Nat.reduceSub, Nat.reduceMul, ↓reduceIte, reduceCtorEq, Nat.reduceEqDiff, Nat.reduceAdd, Nat.reduceLeDiff, Int.reduceLE, cZ4, hyZ5a, hyZ5b, cZ7]
          all_goals simp [qL, qJ, qJ0, qS, qX, qR, qM, Shp, sub, VS1, VS2, VS3, VS4, VS5, VS6, VT1, VT2]
      · simp only [A54R2]
        refine Or.elim (bt (oZ9)) (fun cZ10 => ?_) (fun cZ10 => ?_)
        · replace h := cond_t cZ10 h
          cases h
          try simp only [VS1, VS2, VS3, VS4, VS5, VS6, VT1, VT2, finM_ret, finM_nrm, decide_true, decide_false, List.nodup_nil, List.nodup_cons, oks_p, oks_m, Nat.reduceSub, Nat.reduceMul, ↓reduceIte, reduceCtorEq, Nat.reduceEqDiff, Nat.reduceAdd, Nat.reduceLeDiff, Int.reduceLE, cZ4, cZ10]
          all_goals simp [qL, qJ, qJ0, qS, qX, qR, qM, Shp, sub, VS1, VS2, VS3, VS4, VS5, VS6, VT1, VT2, V54]
        · replace h := cond_f cZ10 h
          cases h
          try simp only [VS1, VS2, VS3, VS4, VS5, VS6, VT1, VT2, finM_ret, finM_nrm, decide_true, decide_false, List.nodup_nil, List.nodup_cons, oks_p, oks_m, Nat.reduceSub, Nat.reduceMul, ↓reduceIte, reduceCtorEq, Nat.reduceEqDiff, Nat.reduceAdd, Nat.reduceLeDiff, Int.reduceLE, cZ4, cZ10]
          all_goals simp [qL, qJ, qJ0, qS, qX, qR, qM, Shp, sub, VS1, VS2, VS3, VS4, VS5, VS6, VT1, VT2, S_spec_l18GoodL1, SX_spec_l18GoodL1]
    · replace h := cond_f cZ4 h
      cases h
      try simp only [VS1, VS2, VS3, VS4, VS5, VS6, VT1, VT2, finM_ret, finM_nrm, decide_true, decide_false, List.nodup_nil, List.nodup_cons, oks_p, oks_m, Nat.reduceSub, Nat.reduceMul, ↓reduceIte, reduceCtorEq, Nat.reduceEqDiff, Nat.reduceAdd, Nat.reduceLeDiff, Int.reduceLE, cZ4]
      all_goals simp [qL, qJ, qJ0, qS, qX, qR, qM, Shp, sub, VS1, VS2, VS3, VS4, VS5, VS6, VT1, VT2, S_spec_l18GoodL1, SX_spec_l18GoodL1]
theorem w_spec_l18Good (listZ0 : List TTributary) (nodesZ0 : Int) {r : Bool} (h : M_spec_l18Good listZ0 nodesZ0 = some r) : Ok Try.prog 54 [.lst .o 3 (listZ0.map (e_TTributary .o)), .i nodesZ0] ((fun r => .b r) r) := by
  refine ok_of_body hmix m54 rfl ?_
  unfold M_spec_l18Good at h
  simp only [A54, V54, body_eq]
  obtain ⟨oZ11, hoZ11, h⟩ := bind_s h
  try simp only [VS1, VS2, VS3, VS4, VS5, VS6, VT1, VT2, finM_ret, finM_nrm, decide_true, decide_false, List.nodup_nil, List.nodup_cons, oks_p, oks_m, Nat.reduceSub, Nat.reduceMul, ↓reduceIte, reduceCtorEq, Nat.reduceEqDiff, Nat.reduceAdd, Nat.reduceLeDiff, Int.reduceLE]
  refine join_rule (o := oZ11) (blk_rule sideR (loop_rule (w_spec_l18GoodL1 listZ0 nodesZ0) hoZ11 ?_)) (fun vZ12 hv => ?_) (fun xZ13 hv e τ hne hq => ?_)
  · all_goals simp [qL, qJ, qJ0, qS, qX, qR, qM, Shp, sub, VS1, VS2, VS3, VS4, VS5, VS6, VT1, VT2, S_spec_l18GoodL1, SX_spec_l18GoodL1]
  · subst hv
    simp only [] at h
    simp only [SX_spec_l18GoodL1, A54R4]
    obtain ⟨rZ14, hrZ14, h⟩ := bind_s h
    simp only [VS1, VS2, VS3, VS4, VS5, VS6, VT1, VT2, finM_ret, finM_nrm, decide_true, decide_false, List.nodup_nil, List.nodup_cons, oks_p, oks_m, Nat.reduceSub, Nat.reduceMul, ↓reduceIte, reduceCtorEq, Nat.reduceEqDiff, Nat.reduceAdd, Nat.reduceLeDiff, Int.reduceLE]
    refine call_s (by simp only [VS1, VS2, VS3, VS4, VS5, VS6, VT1, VT2, finM_ret, finM_nrm, decide_true, decide_false, List.nodup_nil, List.nodup_cons, oks_p, oks_m, Nat.reduceSub, Nat.reduceMul, ↓reduceIte, reduceCtorEq, Nat.reduceEqDiff, Nat.reduceAdd, Nat.reduceLeDiff, Int.reduceLE]; exact w_spec_l1In _ _ _ hrZ14 ) ?_
    simp only [VA, VF1, ↓reduceIte, Nat.reduceEqDiff, Nat.reduceAdd, Nat.reduceMul, Nat.reduceSub, Nat.reduceLeDiff]
    refine Or.elim (bt (rZ14)) (fun cZ15 => ?_) (fun cZ15 => ?_)
    · replace h := cond_t cZ15 h
      cases h
      try simp only [VS1, VS2, VS3, VS4, VS5, VS6, VT1, VT2, finM_ret, finM_nrm, decide_true, decide_false, List.nodup_nil, List.nodup_cons, oks_p, oks_m, Nat.reduceSub, Nat.reduceMul, ↓reduceIte, reduceCtorEq, Nat.reduceEqDiff, Nat.reduceAdd, Nat.reduceLeDiff, Int.reduceLE, cZ15]
      all_goals simp [qL, qJ, qJ0, qS, qX, qR, qM, Shp, sub, VS1, VS2, VS3, VS4, VS5, VS6, VT1, VT2, V54]
    · replace h := cond_f cZ15 h
      cases h
      try simp only [VS1, VS2, VS3, VS4, VS5, VS6, VT1, VT2, finM_ret, finM_nrm, decide_true, decide_false, List.nodup_nil, List.nodup_cons, oks_p, oks_m, Nat.reduceSub, Nat.reduceMul, ↓reduceIte, reduceCtorEq, Nat.reduceEqDiff, Nat.reduceAdd, Nat.reduceLeDiff, Int.reduceLE, cZ15]
      all_goals simp [qL, qJ, qJ0, qS, qX, qR, qM, Shp, sub, VS1, VS2, VS3, VS4, VS5, VS6, VT1, VT2, V54]
  · subst hv
    simp only [] at h
    obtain ⟨rfl, qZ16⟩ := hq
    cases h
    exact qZ16
theorem w_spec_IsValidTributaries (listZ0 : List TTributary) (nodesZ0 : Int) {r : Bool} (h : M_spec_IsValidTributaries listZ0 nodesZ0 = some r) : Ok Try.prog 15 [.lst .o 3 (listZ0.map (e_TTributary .o)), .i nodesZ0] ((fun r => .b r) r) := by
  refine ok_of_body hmix m15 rfl ?_
  unfold M_spec_IsValidTributaries at h
  simp only [A15, V15, body_eq]
  obtain ⟨rZ1, hrZ1, h⟩ := bind_s h
  simp only [VS1, VS2, VS3, VS4, VS5, VS6, VT1, VT2, finM_ret, finM_nrm, decide_true, decide_false, List.nodup_nil, List.nodup_cons, oks_p, oks_m, Nat.reduceSub, Nat.reduceMul, ↓reduceIte, reduceCtorEq, Nat.reduceEqDiff, Nat.reduceAdd, Nat.reduceLeDiff, Int.reduceLE]
  refine call_s (by simp only [VS1, VS2, VS3, VS4, VS5, VS6, VT1, VT2, finM_ret, finM_nrm, decide_true, decide_false, List.nodup_nil, List.nodup_cons, oks_p, oks_m, Nat.reduceSub, Nat.reduceMul, ↓reduceIte, reduceCtorEq, Nat.reduceEqDiff, Nat.reduceAdd, Nat.reduceLeDiff, Int.reduceLE]; exact w_spec_l18Good _ _ hrZ1 ) ?_
  simp only [VA, VF1, ↓reduceIte, Nat.reduceEqDiff, Nat.reduceAdd, Nat.reduceMul, Nat.reduceSub, Nat.reduceLeDiff]
  cases h
  try simp only [VS1, VS2, VS3, VS4, VS5, VS6, VT1, VT2, finM_ret, finM_nrm, decide_true, decide_false, List.nodup_nil, List.nodup_cons, oks_p, oks_m, Nat.reduceSub, Nat.reduceMul, ↓reduceIte, reduceCtorEq, Nat.reduceEqDiff, Nat.reduceAdd, Nat.reduceLeDiff, Int.reduceLE]
  all_goals simp [qL, qJ, qJ0, qS, qX, qR, qM, Shp, sub, VS1, VS2, VS3, VS4, VS5, VS6, VT1, VT2, V15]
theorem w_impl_within (nZ0 : Int) (lowZ0 : Int) (highZ0 : Int) {r : Bool} (h : M_impl_within nZ0 lowZ0 highZ0 = some r) : Ok Try.prog 55 [.i nZ0, .i lowZ0, .i highZ0] ((fun r => .b r) r) := by
  refine ok_of_body hmix m55 rfl ?_
  unfold M_impl_within at h
  simp only [A55, V55, body_eq]
  refine Or.elim (bt (decide (lowZ0 ≤ nZ0))) (fun cZ1 => ?_) (fun cZ1 => ?_)
  · replace h := cond_t cZ1 h
    cases h
    try simp only [VS1, VS2, VS3, VS4, VS5, VS6, VT1, VT2, finM_ret, finM_nrm, decide_true, decide_false, List.nodup_nil, List.nodup_cons, oks_p, oks_m, Nat.reduceSub, Nat.reduceMul, ↓reduceIte, reduceCtorEq, Nat.reduceEqDiff, Nat.reduceAdd, Nat.reduceLeDiff, Int.reduceLE, cZ1]
    all_goals simp [qL, qJ, qJ0, qS, qX, qR, qM, Shp, sub, VS1, VS2, VS3, VS4, VS5, VS6, VT1, VT2, V55]
  · replace h := cond_f cZ1 h
    cases h
    try simp only [VS1, VS2, VS3, VS4, VS5, VS6, VT1, VT2, finM_ret, finM_nrm, decide_true, decide_false, List.nodup_nil, List.nodup_cons, oks_p, oks_m, Nat.reduceSub, Nat.reduceMul, ↓reduceIte, reduceCtorEq, Nat.reduceEqDiff, Nat.reduceAdd, Nat.reduceLeDiff, Int.reduceLE, cZ1]
    all_goals simp [qL, qJ, qJ0, qS, qX, qR, qM, Shp, sub, VS1, VS2, VS3, VS4, VS5, VS6, VT1, VT2, V55]
def S_slices_IndexFunc_TributaryL1 (sZ0 : List TTributary) (F_fZ0 : Nat) (C_fZ0 : List AV) (v : Int) : St := ⟨[(0, .lst .o 3 (sZ0.map (e_TTributary .o))), (1, .fn F_fZ0 C_fZ0), (7, .i (sZ0.length : Int)), (8, .i v)], []⟩
def SX_slices_IndexFunc_TributaryL1 (v : Unit) : St := ⟨[], []⟩
theorem w_slices_IndexFunc_TributaryL1 (sZ0 : List TTributary) (fZ0 : TTributary → Option Bool) (F_fZ0 : Nat) (C_fZ0 : List AV) (hC_fZ0 : Fixed C_fZ0) (hf_fZ0 : ∀ (x0 : TTributary) (r : Bool), fZ0 x0 = some r → Ok Try.prog F_fZ0 ((.agg [.i x0.From, .i x0.To, .i x0.Rate]) :: C_fZ0) (.b r)) (sZ1 : Int) (o : Int ⊕ (Unit ⊕ Int)) (h : M_slices_IndexFunc_TributaryL1 sZ0 fZ0 sZ1 = some o) : AWP (OkS Try.prog) A96L1 (qL [0, 1, 7, 8] [] (S_slices_IndexFunc_TributaryL1 sZ0 F_fZ0 C_fZ0) (qS (qX 0 [] [] (SX_slices_IndexFunc_TributaryL1)) (qR V96 (fun r => .i r))) o) (S_slices_IndexFunc_TributaryL1 sZ0 F_fZ0 C_fZ0 sZ1) := by
  unfold M_slices_IndexFunc_TributaryL1 at h
  simp only [S_slices_IndexFunc_TributaryL1, A96L1]
  refine Or.elim (bt (decide (sZ1 < (sZ0.length : Int)))) (fun cZ2 => ?_) (fun cZ2 => ?_)
  · replace h := cond_t cZ2 h
    obtain ⟨yZ3, hyZ3, h⟩ := bind_s h
    obtain ⟨hyZ3a, hyZ3b⟩ := geti_s hyZ3
    obtain ⟨rZ4, hrZ4, h⟩ := bind_s h
    simp only [VS1, VS2, VS3, VS4, VS5, VS6, VT1, VT2, finM_ret, finM_nrm, decide_true, decide_false, List.nodup_nil, List.nodup_cons, oks_p, oks_m, Nat.reduceSub, Nat.reduceMul, ↓reduceIte, reduceCtorEq, Nat.reduceEqDiff, Nat.reduceAdd, Nat.reduceLeDiff, Int.reduceLE, cZ2, hyZ3a, hyZ3b]
    refine call_s (by simp only [VS1, VS2, VS3, VS4, VS5, VS6, VT1, VT2, finM_ret, finM_nrm, decide_true, decide_false, List.nodup_nil, List.nodup_cons, oks_p, oks_m, Nat.reduceSub, Nat.reduceMul, ↓reduceIte, reduceCtorEq, Nat.reduceEqDiff, Nat.reduceAdd, Nat.reduceLeDiff, Int.reduceLE, cZ2, hyZ3a, hyZ3b, hC_fZ0.1 _ _]; exact hf_fZ0 _ _ hrZ4) ?_
    simp only [VA, VF1, ↓reduceIte, Nat.reduceEqDiff, Nat.reduceAdd, Nat.reduceMul, Nat.reduceSub, Nat.reduceLeDiff]
    refine Or.elim (bt (rZ4)) (fun cZ5 => ?_) (fun cZ5 => ?_)
    · replace h := cond_t cZ5 h
      cases h
      try simp only [VS1, VS2, VS3, VS4, VS5, VS6, VT1, VT2, finM_ret, finM_nrm, decide_true, decide_false, List.nodup_nil, List.nodup_cons, oks_p, oks_m, Nat.reduceSub, Nat.reduceMul, ↓reduceIte, reduceCtorEq, Nat.reduceEqDiff, Nat.reduceAdd, Nat.reduceLeDiff, Int.reduceLE, cZ2, hyZ3a, hyZ3b, cZ5]
      all_goals simp [qL, qJ, qJ0, qS, qX, qR, qM, Shp, sub, VS1, VS2, VS3, VS4, VS5, VS6, VT1, VT2, V96, hC_fZ0.2]
    · replace h := cond_f cZ5 h
      cases h
      try simp only [VS1, VS2, VS3, VS4, VS5, VS6, VT1, VT2, finM_ret, finM_nrm, decide_true, decide_false, List.nodup_nil, List.nodup_cons, oks_p, oks_m, Nat.reduceSub, Nat.reduceMul, ↓reduceIte, reduceCtorEq, Nat.reduceEqDiff, Nat.reduceAdd, Nat.reduceLeDiff, Int.reduceLE, cZ2, hyZ3a, hyZ3b, cZ5]
      all_goals simp [qL, qJ, qJ0, qS, qX, qR, qM, Shp, sub, VS1, VS2, VS3, VS4, VS5, VS6, VT1, VT2, S_slices_IndexFunc_TributaryL1, SX_slices_IndexFunc_TributaryL1, hC_fZ0.2]
  · replace h := cond_f cZ2 h
    cases h
    try simp only [VS1, VS2, VS3, VS4, VS5, VS6, VT1, VT2, finM_ret, finM_nrm, decide_true, decide_false, List.nodup_nil, List.nodup_cons, oks_p, oks_m, Nat.reduceSub, Nat.reduceMul, ↓reduceIte, reduceCtorEq, Nat.reduceEqDiff, Nat.reduceAdd, Nat.reduceLeDiff, Int.reduceLE, cZ2]
    all_goals simp [qL, qJ, qJ0, qS, qX, qR, qM, Shp, sub, VS1, VS2, VS3, VS4, VS5, VS6, VT1, VT2, S_slices_IndexFunc_TributaryL1, SX_slices_IndexFunc_TributaryL1, hC_fZ0.2]
theorem w_slices_IndexFunc_Tributary (sZ0 : List TTributary) (fZ0 : TTributary → Option Bool) {r : Int} (h : M_slices_IndexFunc_Tributary sZ0 fZ0 = some r) (F_fZ0 : Nat) (C_fZ0 : List AV) (hC_fZ0 : Fixed C_fZ0) (hf_fZ0 : ∀ (x0 : TTributary) (r : Bool), fZ0 x0 = some r → Ok Try.prog F_fZ0 ((.agg [.i x0.From, .i x0.To, .i x0.Rate]) :: C_fZ0) (.b r)) : Ok Try.prog 96 [.lst .o 3 (sZ0.map (e_TTributary .o)), .fn F_fZ0 C_fZ0] ((fun r => .i r) r) := by
  refine ok_of_body hmix m96 rfl ?_
  unfold M_slices_IndexFunc_Tributary at h
  simp only [A96, V96, body_eq]
  obtain ⟨oZ6, hoZ6, h⟩ := bind_s h
  try simp only [VS1, VS2, VS3, VS4, VS5, VS6, VT1, VT2, finM_ret, finM_nrm, decide_true, decide_false, List.nodup_nil, List.nodup_cons, oks_p, oks_m, Nat.reduceSub, Nat.reduceMul, ↓reduceIte, reduceCtorEq, Nat.reduceEqDiff, Nat.reduceAdd, Nat.reduceLeDiff, Int.reduceLE]
  refine join_rule (o := oZ6) (blk_rule sideR (loop_rule (w_slices_IndexFunc_TributaryL1 sZ0 fZ0 F_fZ0 C_fZ0 hC_fZ0 hf_fZ0) hoZ6 ?_)) (fun vZ7 hv => ?_) (fun xZ8 hv e τ hne hq => ?_)
  · all_goals simp [qL, qJ, qJ0, qS, qX, qR, qM, Shp, sub, VS1, VS2, VS3, VS4, VS5, VS6, VT1, VT2, S_slices_IndexFunc_TributaryL1, SX_slices_IndexFunc_TributaryL1, hC_fZ0.2]
  · subst hv
    simp only [] at h
    simp only [SX_slices_IndexFunc_TributaryL1, A96R2]
    cases h
    try simp only [VS1, VS2, VS3, VS4, VS5, VS6, VT1, VT2, finM_ret, finM_nrm, decide_true, decide_false, List.nodup_nil, List.nodup_cons, oks_p, oks_m, Nat.reduceSub, Nat.reduceMul, ↓reduceIte, reduceCtorEq, Nat.reduceEqDiff, Nat.reduceAdd, Nat.reduceLeDiff, Int.reduceLE]
    all_goals simp [qL, qJ, qJ0, qS, qX, qR, qM, Shp, sub, VS1, VS2, VS3, VS4, VS5, VS6, VT1, VT2, V96, hC_fZ0.2]
  · subst hv
    simp only [] at h
    obtain ⟨rfl, qZ9⟩ := hq
    cases h
    exact qZ9
theorem w_slices_ContainsFunc_Tributary (sZ0 : List TTributary) (fZ0 : TTributary → Option Bool) {r : Bool} (h : M_slices_ContainsFunc_Tributary sZ0 fZ0 = some r) (F_fZ0 : Nat) (C_fZ0 : List AV) (hC_fZ0 : Fixed C_fZ0) (hf_fZ0 : ∀ (x0 : TTributary) (r : Bool), fZ0 x0 = some r → Ok Try.prog F_fZ0 ((.agg [.i x0.From, .i x0.To, .i x0.Rate]) :: C_fZ0) (.b r)) : Ok Try.prog 56 [.lst .o 3 (sZ0.map (e_TTributary .o)), .fn F_fZ0 C_fZ0] ((fun r => .b r) r) := by
  refine ok_of_body hmix m56 rfl ?_
  unfold M_slices_ContainsFunc_Tributary at h
  simp only [A56, V56, body_eq]
  obtain ⟨rZ1, hrZ1, h⟩ := bind_s h
  simp only [VS1, VS2, VS3, VS4, VS5, VS6, VT1, VT2, finM_ret, finM_nrm, decide_true, decide_false, List.nodup_nil, List.nodup_cons, oks_p, oks_m, Nat.reduceSub, Nat.reduceMul, ↓reduceIte, reduceCtorEq, Nat.reduceEqDiff, Nat.reduceAdd, Nat.reduceLeDiff, Int.reduceLE]
  refine call_s (by simp only [VS1, VS2, VS3, VS4, VS5, VS6, VT1, VT2, finM_ret, finM_nrm, decide_true, decide_false, List.nodup_nil, List.nodup_cons, oks_p, oks_m, Nat.reduceSub, Nat.reduceMul, ↓reduceIte, reduceCtorEq, Nat.reduceEqDiff, Nat.reduceAdd, Nat.reduceLeDiff, Int.reduceLE, hC_fZ0.1 _ _]; exact w_slices_IndexFunc_Tributary _ _ hrZ1 F_fZ0 C_fZ0 hC_fZ0 hf_fZ0) ?_
  simp only [VA, VF1, ↓reduceIte, Nat.reduceEqDiff, Nat.reduceAdd, Nat.reduceMul, Nat.reduceSub, Nat.reduceLeDiff]
  cases h
  try simp only [VS1, VS2, VS3, VS4, VS5, VS6, VT1, VT2, finM_ret, finM_nrm, decide_true, decide_false, List.nodup_nil, List.nodup_cons, oks_p, oks_m, Nat.reduceSub, Nat.reduceMul, ↓reduceIte, reduceCtorEq, Nat.reduceEqDiff, Nat.reduceAdd, Nat.reduceLeDiff, Int.reduceLE]
  all_goals simp [qL, qJ, qJ0, qS, qX, qR, qM, Shp, sub, VS1, VS2, VS3, VS4, VS5, VS6, VT1, VT2, V56, hC_fZ0.2]
theorem w_impl_areEnds (aZ0 : Int) (bZ0 : Int) (nodesZ0 : Int) {r : Bool} (h : M_impl_areEnds aZ0 bZ0 nodesZ0 = some r) : Ok Try.prog 58 [.i aZ0, .i bZ0, .i nodesZ0] ((fun r => .b r) r) := by
  refine ok_of_body hmix m58 rfl ?_
  unfold M_impl_areEnds at h
  simp only [A58, V58, body_eq]
  obtain ⟨rZ1, hrZ1, h⟩ := bind_s h
  simp only [VS1, VS2, VS3, VS4, VS5, VS6, VT1, VT2, finM_ret, finM_nrm, decide_true, decide_false, List.nodup_nil, List.nodup_cons, oks_p, oks_m, Nat.reduceSub, Nat.reduceMul, ↓reduceIte, reduceCtorEq, Nat.reduceEqDiff, Nat.reduceAdd, Nat.reduceLeDiff, Int.reduceLE]
  refine call_s (by simp only [VS1, VS2, VS3, VS4, VS5, VS6, VT1, VT2, finM_ret, finM_nrm, decide_true, decide_false, List.nodup_nil, List.nodup_cons, oks_p, oks_m, Nat.reduceSub, Nat.reduceMul, ↓reduceIte, reduceCtorEq, Nat.reduceEqDiff, Nat.reduceAdd, Nat.reduceLeDiff, Int.reduceLE]; exact w_impl_within _ _ _ hrZ1 ) ?_
  simp only [VA, VF1, ↓reduceIte, Nat.reduceEqDiff, Nat.reduceAdd, Nat.reduceMul, Nat.reduceSub, Nat.reduceLeDiff]
  refine Or.elim (bt (rZ1)) (fun cZ2 => ?_) (fun cZ2 => ?_)
  · replace h := cond_t cZ2 h
    obtain ⟨rZ3, hrZ3, h⟩ := bind_s h
    simp only [VS1, VS2, VS3, VS4, VS5, VS6, VT1, VT2, finM_ret, finM_nrm, decide_true, decide_false, List.nodup_nil, List.nodup_cons, oks_p, oks_m, Nat.reduceSub, Nat.reduceMul, ↓reduceIte, reduceCtorEq, Nat.reduceEqDiff, Nat.reduceAdd, Nat.reduceLeDiff, Int.reduceLE, cZ2]
    refine call_s (by simp only [VS1, VS2, VS3, VS4, VS5, VS6, VT1, VT2, finM_ret, finM_nrm, decide_true, decide_false, List.nodup_nil, List.nodup_cons, oks_p, oks_m, Nat.reduceSub, Nat.reduceMul, ↓reduceIte, reduceCtorEq, Nat.reduceEqDiff, Nat.reduceAdd, Nat.reduceLeDiff, Int.reduceLE, cZ2]; exact w_impl_within _ _ _ hrZ3 ) ?_
    simp only [VA, VF1, ↓reduceIte, Nat.reduceEqDiff, Nat.reduceAdd, Nat.reduceMul, Nat.reduceSub, Nat.reduceLeDiff]
    refine Or.elim (bt (rZ3)) (fun cZ4 => ?_) (fun cZ4 => ?_)
    · replace h := cond_t cZ4 h
      cases h
      try simp only [VS1, VS2, VS3, VS4, VS5, VS6, VT1, VT2, finM_ret, finM_nrm, decide_true, decide_false, List.nodup_nil, List.nodup_cons, oks_p, oks_m, Nat.reduceSub, Nat.reduceMul, ↓reduceIte, reduceCtorEq, Nat.reduceEqDiff, Nat.reduceAdd, Nat.reduceLeDiff, Int.reduceLE, cZ2, cZ4]
      all_goals simp [qL, qJ, qJ0, qS, qX, qR, qM, Shp, sub, VS1, VS2, VS3, VS4, VS5, VS6, VT1, VT2, V58]
    · replace h := cond_f cZ4 h
      cases h
      try simp only [VS1, VS2, VS3, VS4, VS5, VS6, VT1, VT2, finM_ret, finM_nrm, decide_true, decide_false, List.nodup_nil, List.nodup_cons, oks_p, oks_m, Nat.reduceSub, Nat.reduceMul, ↓reduceIte, reduceCtorEq, Nat.reduceEqDiff, Nat.reduceAdd, Nat.reduceLeDiff, Int.reduceLE, cZ2, cZ4]
      all_goals simp [qL, qJ, qJ0, qS, qX, qR, qM, Shp, sub, VS1, VS2, VS3, VS4, VS5, VS6, VT1, VT2, V58]
  · replace h := cond_f cZ2 h
    cases h
    try simp only [VS1, VS2, VS3, VS4, VS5, VS6, VT1, VT2, finM_ret, finM_nrm, decide_true, decide_false, List.nodup_nil, List.nodup_cons, oks_p, oks_m, Nat.reduceSub, Nat.reduceMul, ↓reduceIte, reduceCtorEq, Nat.reduceEqDiff, Nat.reduceAdd, Nat.reduceLeDiff, Int.reduceLE, cZ2]
    all_goals simp [qL, qJ, qJ0, qS, qX, qR, qM, Shp, sub, VS1, VS2, VS3, VS4, VS5, VS6, VT1, VT2, V58]
theorem w_impl_IsValidTributaries_c1 (tZ0 : TTributary) (p1Z0 : Int) {r : Bool} (h : M_impl_IsValidTributaries_c1 tZ0 p1Z0 = some r) : Ok Try.prog 57 [.agg [.i tZ0.From, .i tZ0.To, .i tZ0.Rate], .bp (.i p1Z0) 0] ((fun r => .b r) r) := by
  refine ok_of_body hmix m57 rfl ?_
  unfold M_impl_IsValidTributaries_c1 at h
  simp only [A57, V57, body_eq]
  obtain ⟨rZ1, hrZ1, h⟩ := bind_s h
  simp only [VS1, VS2, VS3, VS4, VS5, VS6, VT1, VT2, finM_ret, finM_nrm, decide_true, decide_false, List.nodup_nil, List.nodup_cons, oks_p, oks_m, Nat.reduceSub, Nat.reduceMul, ↓reduceIte, reduceCtorEq, Nat.reduceEqDiff, Nat.reduceAdd, Nat.reduceLeDiff, Int.reduceLE]
  refine call_s (by simp only [VS1, VS2, VS3, VS4, VS5, VS6, VT1, VT2, finM_ret, finM_nrm, decide_true, decide_false, List.nodup_nil, List.nodup_cons, oks_p, oks_m, Nat.reduceSub, Nat.reduceMul, ↓reduceIte, reduceCtorEq, Nat.reduceEqDiff, Nat.reduceAdd, Nat.reduceLeDiff, Int.reduceLE]; exact w_impl_areEnds _ _ _ hrZ1 ) ?_
  simp only [VA, VF1, ↓reduceIte, Nat.reduceEqDiff, Nat.reduceAdd, Nat.reduceMul, Nat.reduceSub, Nat.reduceLeDiff]
  refine Or.elim (bt (!rZ1)) (fun cZ2 => ?_) (fun cZ2 => ?_)
  · replace h := cond_t cZ2 h
    cases h
    try simp only [VS1, VS2, VS3, VS4, VS5, VS6, VT1, VT2, finM_ret, finM_nrm, decide_true, decide_false, List.nodup_nil, List.nodup_cons, oks_p, oks_m, Nat.reduceSub, Nat.reduceMul, ↓reduceIte, reduceCtorEq, Nat.reduceEqDiff, Nat.reduceAdd, Nat.reduceLeDiff, Int.reduceLE, cZ2]
    all_goals simp [qL, qJ, qJ0, qS, qX, qR, qM, Shp, sub, VS1, VS2, VS3, VS4, VS5, VS6, VT1, VT2, V57]
  · replace h := cond_f cZ2 h
    obtain ⟨rZ3, hrZ3, h⟩ := bind_s h
    simp only [VS1, VS2, VS3, VS4, VS5, VS6, VT1, VT2, finM_ret, finM_nrm, decide_true, decide_false, List.nodup_nil, List.nodup_cons, oks_p, oks_m, Nat.reduceSub, Nat.reduceMul, ↓reduceIte, reduceCtorEq, Nat.reduceEqDiff, Nat.reduceAdd, Nat.reduceLeDiff, Int.reduceLE, cZ2]
    refine call_s (by simp only [VS1, VS2, VS3, VS4, VS5, VS6, VT1, VT2, finM_ret, finM_nrm, decide_true, decide_false, List.nodup_nil, List.nodup_cons, oks_p, oks_m, Nat.reduceSub, Nat.reduceMul, ↓reduceIte, reduceCtorEq, Nat.reduceEqDiff, Nat.reduceAdd, Nat.reduceLeDiff, Int.reduceLE, cZ2]; exact w_impl_within _ _ _ hrZ3 ) ?_
    simp only [VA, VF1, ↓reduceIte, Nat.reduceEqDiff, Nat.reduceAdd, Nat.reduceMul, Nat.reduceSub, Nat.reduceLeDiff]
    cases h
    try simp only [VS1, VS2, VS3, VS4, VS5, VS6, VT1, VT2, finM_ret, finM_nrm, decide_true, decide_false, List.nodup_nil, List.nodup_cons, oks_p, oks_m, Nat.reduceSub, Nat.reduceMul, ↓reduceIte, reduceCtorEq, Nat.reduceEqDiff, Nat.reduceAdd, Nat.reduceLeDiff, Int.reduceLE, cZ2]
    all_goals simp [qL, qJ, qJ0, qS, qX, qR, qM, Shp, sub, VS1, VS2, VS3, VS4, VS5, VS6, VT1, VT2, V57]
theorem w_impl_IsValidTributaries (listZ0 : List TTributary) (nodesZ0 : Int) {r : Bool} (h : M_impl_IsValidTributaries listZ0 nodesZ0 = some r) : Ok Try.prog 17 [.lst .o 3 (listZ0.map (e_TTributary .o)), .i nodesZ0] ((fun r => .b r) r) := by
  refine ok_of_body hmix m17 rfl ?_
  unfold M_impl_IsValidTributaries at h
  simp only [A17, V17, body_eq]
  obtain ⟨rZ1, hrZ1, h⟩ := bind_s h
  simp only [VS1, VS2, VS3, VS4, VS5, VS6, VT1, VT2, finM_ret, finM_nrm, decide_true, decide_false, List.nodup_nil, List.nodup_cons, oks_p, oks_m, Nat.reduceSub, Nat.reduceMul, ↓reduceIte, reduceCtorEq, Nat.reduceEqDiff, Nat.reduceAdd, Nat.reduceLeDiff, Int.reduceLE]
  refine call_s (by simp only [VS1, VS2, VS3, VS4, VS5, VS6, VT1, VT2, finM_ret, finM_nrm, decide_true, decide_false, List.nodup_nil, List.nodup_cons, oks_p, oks_m, Nat.reduceSub, Nat.reduceMul, ↓reduceIte, reduceCtorEq, Nat.reduceEqDiff, Nat.reduceAdd, Nat.reduceLeDiff, Int.reduceLE]; exact w_impl_within _ _ _ hrZ1 ) ?_
  simp only [VA, VF1, ↓reduceIte, Nat.reduceEqDiff, Nat.reduceAdd, Nat.reduceMul, Nat.reduceSub, Nat.reduceLeDiff]
  refine Or.elim (bt (rZ1)) (fun cZ2 => ?_) (fun cZ2 => ?_)
  · replace h := cond_t cZ2 h
    refine Or.elim (bt (decide ((listZ0.length : Int) ≤ 12))) (fun cZ3 => ?_) (fun cZ3 => ?_)
    · replace h := cond_t cZ3 h
      obtain ⟨rZ4, hrZ4, h⟩ := bind_s h
      simp only [VS1, VS2, VS3, VS4, VS5, VS6, VT1, VT2, finM_ret, finM_nrm, decide_true, decide_false, List.nodup_nil, List.nodup_cons, oks_p, oks_m, Nat.reduceSub, Nat.reduceMul, ↓reduceIte, reduceCtorEq, Nat.reduceEqDiff, Nat.reduceAdd, Nat.reduceLeDiff, Int.reduceLE, cZ2, cZ3]
      refine call_s (by simp only [VS1, VS2, VS3, VS4, VS5, VS6, VT1, VT2, finM_ret, finM_nrm, decide_true, decide_false, List.nodup_nil, List.nodup_cons, oks_p, oks_m, Nat.reduceSub, Nat.reduceMul, ↓reduceIte, reduceCtorEq, Nat.reduceEqDiff, Nat.reduceAdd, Nat.reduceLeDiff, Int.reduceLE, cZ2, cZ3]; exact w_slices_ContainsFunc_Tributary _ _ hrZ4 57 [.bp (.i nodesZ0) 0] ⟨fun ρ k => by simp only [VS1, VS2, VS3, VS4, VS5, VS6, VT1, VT2, finM_ret, finM_nrm, decide_true, decide_false, List.nodup_nil, List.nodup_cons, oks_p, oks_m, Nat.reduceSub, Nat.reduceMul, ↓reduceIte, reduceCtorEq, Nat.reduceEqDiff, Nat.reduceAdd, Nat.reduceLeDiff, Int.reduceLE], by simp [mentsL, AV.ments]⟩ (fun _ _ h => w_impl_IsValidTributaries_c1 _ _ h)) ?_
      simp only [VA, VF1, ↓reduceIte, Nat.reduceEqDiff, Nat.reduceAdd, Nat.reduceMul, Nat.reduceSub, Nat.reduceLeDiff]
      cases h
      try simp only [VS1, VS2, VS3, VS4, VS5, VS6, VT1, VT2, finM_ret, finM_nrm, decide_true, decide_false, List.nodup_nil, List.nodup_cons, oks_p, oks_m, Nat.reduceSub, Nat.reduceMul, ↓reduceIte, reduceCtorEq, Nat.reduceEqDiff, Nat.reduceAdd, Nat.reduceLeDiff, Int.reduceLE, cZ2, cZ3]
      all_goals simp [qL, qJ, qJ0, qS, qX, qR, qM, Shp, sub, VS1, VS2, VS3, VS4, VS5, VS6, VT1, VT2, V17]
    · replace h := cond_f cZ3 h
      cases h
      try simp only [VS1, VS2, VS3, VS4, VS5, VS6, VT1, VT2, finM_ret, finM_nrm, decide_true, decide_false, List.nodup_nil, List.nodup_cons, oks_p, oks_m, Nat.reduceSub, Nat.reduceMul, ↓reduceIte, reduceCtorEq, Nat.reduceEqDiff, Nat.reduceAdd, Nat.reduceLeDiff, Int.reduceLE, cZ2, cZ3]
      all_goals simp [qL, qJ, qJ0, qS, qX, qR, qM, Shp, sub, VS1, VS2, VS3, VS4, VS5, VS6, VT1, VT2, V17]
  · replace h := cond_f cZ2 h
    cases h
    try simp only [VS1, VS2, VS3, VS4, VS5, VS6, VT1, VT2, finM_ret, finM_nrm, decide_true, decide_false, List.nodup_nil, List.nodup_cons, oks_p, oks_m, Nat.reduceSub, Nat.reduceMul, ↓reduceIte, reduceCtorEq, Nat.reduceEqDiff, Nat.reduceAdd, Nat.reduceLeDiff, Int.reduceLE, cZ2]
    all_goals simp [qL, qJ, qJ0, qS, qX, qR, qM, Shp, sub, VS1, VS2, VS3, VS4, VS5, VS6, VT1, VT2, V17]
theorem w_laws_eqTributary (aZ0 : TTributary) (bZ0 : TTributary) {r : Bool} (h : M_laws_eqTributary aZ0 bZ0 = some r) : Ok Try.prog 59 [.agg [.i aZ0.From, .i aZ0.To, .i aZ0.Rate], .agg [.i bZ0.From, .i bZ0.To, .i bZ0.Rate]] ((fun r => .b r) r) := by
  refine ok_of_body hmix m59 rfl ?_
  unfold M_laws_eqTributary at h
  simp only [A59, V59, body_eq]
  refine Or.elim (bt (aZ0.From != bZ0.From)) (fun cZ1 => ?_) (fun cZ1 => ?_)
  · replace h := cond_t cZ1 h
    cases h
    try simp only [VS1, VS2, VS3, VS4, VS5, VS6, VT1, VT2, finM_ret, finM_nrm, decide_true, decide_false, List.nodup_nil, List.nodup_cons, oks_p, oks_m, Nat.reduceSub, Nat.reduceMul, ↓reduceIte, reduceCtorEq, Nat.reduceEqDiff, Nat.reduceAdd, Nat.reduceLeDiff, Int.reduceLE, cZ1]
    all_goals simp [qL, qJ, qJ0, qS, qX, qR, qM, Shp, sub, VS1, VS2, VS3, VS4, VS5, VS6, VT1, VT2, V59]
  · replace h := cond_f cZ1 h
    refine Or.elim (bt (aZ0.To != bZ0.To)) (fun cZ2 => ?_) (fun cZ2 => ?_)
    · replace h := cond_t cZ2 h
      cases h
      try simp only [VS1, VS2, VS3, VS4, VS5, VS6, VT1, VT2, finM_ret, finM_nrm, decide_true, decide_false, List.nodup_nil, List.nodup_cons, oks_p, oks_m, Nat.reduceSub, Nat.reduceMul, ↓reduceIte, reduceCtorEq, Nat.reduceEqDiff, Nat.reduceAdd, Nat.reduceLeDiff, Int.reduceLE, cZ1, cZ2]
      all_goals simp [qL, qJ, qJ0, qS, qX, qR, qM, Shp, sub, VS1, VS2, VS3, VS4, VS5, VS6, VT1, VT2, V59]
    · replace h := cond_f cZ2 h
      refine Or.elim (bt (aZ0.Rate != bZ0.Rate)) (fun cZ3 => ?_) (fun cZ3 => ?_)
      · replace h := cond_t cZ3 h
        cases h
        try simp only [VS1, VS2, VS3, VS4, VS5, VS6, VT1, VT2, finM_ret, finM_nrm, decide_true, decide_false, List.nodup_nil, List.nodup_cons, oks_p, oks_m, Nat.reduceSub, Nat.reduceMul, ↓reduceIte, reduceCtorEq, Nat.reduceEqDiff, Nat.reduceAdd, Nat.reduceLeDiff, Int.reduceLE, cZ1, cZ2, cZ3]
        all_goals simp [qL, qJ, qJ0, qS, qX, qR, qM, Shp, sub, VS1, VS2, VS3, VS4, VS5, VS6, VT1, VT2, V59]
      · replace h := cond_f cZ3 h
        cases h
        try simp only [VS1, VS2, VS3, VS4, VS5, VS6, VT1, VT2, finM_ret, finM_nrm, decide_true, decide_false, List.nodup_nil, List.nodup_cons, oks_p, oks_m, Nat.reduceSub, Nat.reduceMul, ↓reduceIte, reduceCtorEq, Nat.reduceEqDiff, Nat.reduceAdd, Nat.reduceLeDiff, Int.reduceLE, cZ1, cZ2, cZ3]
        all_goals simp [qL, qJ, qJ0, qS, qX, qR, qM, Shp, sub, VS1, VS2, VS3, VS4, VS5, VS6, VT1, VT2, V59]
def S_laws_eqTributarySL1 (aZ0 : List TTributary) (bZ0 : List TTributary) (v : Int) : St := ⟨[(0, .lst .o 3 (aZ0.map (e_TTributary .o))), (1, .lst .o 3 (bZ0.map (e_TTributary .o))), (5, .i v)], []⟩
def SX_laws_eqTributarySL1 (v : Unit) : St := ⟨[], []⟩
theorem w_laws_eqTributarySL1 (aZ0 : List TTributary) (bZ0 : List TTributary) (sZ2 : Int) (o : Int ⊕ (Unit ⊕ Bool)) (h : M_laws_eqTributarySL1 aZ0 bZ0 sZ2 = some o) : AWP (OkS Try.prog) A18L1 (qL [0, 1, 5] [] (S_laws_eqTributarySL1 aZ0 bZ0) (qS (qX 0 [] [] (SX_laws_eqTributarySL1)) (qR V18 (fun r => .b r))) o) (S_laws_eqTributarySL1 aZ0 bZ0 sZ2) := by
  unfold M_laws_eqTributarySL1 at h
  simp only [S_laws_eqTributarySL1, A18L1]
  refine Or.elim (bt (decide (sZ2 < (aZ0.length : Int)))) (fun cZ3 => ?_) (fun cZ3 => ?_)
  · replace h := cond_t cZ3 h
    obtain ⟨yZ4, hyZ4, h⟩ := bind_s h
    obtain ⟨hyZ4a, hyZ4b⟩ := geti_s hyZ4
    obtain ⟨yZ5, hyZ5, h⟩ := bind_s h
    obtain ⟨hyZ5a, hyZ5b⟩ := geti_s hyZ5
    obtain ⟨rZ6, hrZ6, h⟩ := bind_s h
    simp only [VS1, VS2, VS3, VS4, VS5, VS6, VT1, VT2, finM_ret, finM_nrm, decide_true, decide_false, List.nodup_nil, List.nodup_cons, oks_p, oks_m, Nat.reduceSub, Nat.reduceMul, ↓reduceIte, reduceCtorEq, Nat.reduceEqDiff, Nat.reduceAdd, Nat.reduceLeDiff, Int.reduceLE, cZ3, hyZ4a, hyZ4b, hyZ5a, hyZ5b]
    refine call_s (by simp only [VS1, VS2, VS3, VS4, VS5, VS6, VT1, VT2, finM_ret, finM_nrm, decide_true, decide_false, List.nodup_nil, List.nodup_cons, oks_p, oks_m, Nat.reduceSub, Nat.reduceMul, ↓reduceIte, reduceCtorEq, Nat.reduceEqDiff, Nat.reduceAdd, Nat.reduceLeDiff, Int.reduceLE, cZ3, hyZ4a, hyZ4b, hyZ5a, hyZ5b]; exact w_laws_eqTributary _ _ hrZ6 ) ?_
    simp only [VA, VF1, ↓reduceIte, Nat.reduceEqDiff, Nat.reduceAdd, Nat.reduceMul, Nat.reduceSub, Nat.reduceLeDiff]
    refine Or.elim (bt (!rZ6)) (fun cZ7 => ?_) (fun cZ7 => ?_)
    · replace h := cond_t cZ7 h
      cases h
      try simp only [VS1, VS2, VS3, VS4, VS5, VS6, VT1, VT2, finM_ret, finM_nrm, decide_true, decide_false, List.nodup_nil, List.nodup_cons, oks_p, oks_m, Nat.reduceSub, Nat.reduceMul, ↓reduceIte, reduceCtorEq, Nat.reduceEqDiff, Nat.reduceAdd, Nat.reduceLeDiff, Int.reduceLE, cZ3, hyZ4a, hyZ4b, hyZ5a, hyZ5b, cZ7]
      all_goals simp [qL, qJ, qJ0, qS, qX, qR, qM, Shp, sub, VS1, VS2, VS3, VS4, VS5, VS6, VT1, VT2, V18]
    · replace h := cond_f cZ7 h
      cases h
      try simp only [VS1, VS2, VS3, VS4, VS5, VS6, VT1, VT2, finM_ret, finM_nrm, decide_true, decide_false, List.nodup_nil, List.nodup_cons, oks_p, oks_m, Nat.reduceSub, Nat.reduceMul, ↓reduceIte, reduceCtorEq, Nat.reduceEqDiff, Nat.reduceAdd, Nat.reduceLeDiff, Int.reduceLE, cZ3, hyZ4a, hyZ4b, hyZ5a, hyZ5b, cZ7]
      all_goals simp [qL, qJ, qJ0, qS, qX, qR, qM, Shp, sub, VS1, VS2, VS3, VS4, VS5, VS6, VT1, VT2, S_laws_eqTributarySL1, SX_laws_eqTributarySL1]
  · replace h := cond_f cZ3 h
    cases h
    try simp only [VS1, VS2, VS3, VS4, VS5, VS6, VT1, VT2, finM_ret, finM_nrm, decide_true, decide_false, List.nodup_nil, List.nodup_cons, oks_p, oks_m, Nat.reduceSub, Nat.reduceMul, ↓reduceIte, reduceCtorEq, Nat.reduceEqDiff, Nat.reduceAdd, Nat.reduceLeDiff, Int.reduceLE, cZ3]
    all_goals simp [qL, qJ, qJ0, qS, qX, qR, qM, Shp, sub, VS1, VS2, VS3, VS4, VS5, VS6, VT1, VT2, S_laws_eqTributarySL1, SX_laws_eqTributarySL1]
theorem w_laws_eqTributaryS (aZ0 : List TTributary) (bZ0 : List TTributary) {r : Bool} (h : M_laws_eqTributaryS aZ0 bZ0 = some r) : Ok Try.prog 18 [.lst .o 3 (aZ0.map (e_TTributary .o)), .lst .o 3 (bZ0.map (e_TTributary .o))] ((fun r => .b r) r) := by
  refine ok_of_body hmix m18 rfl ?_
  unfold M_laws_eqTributaryS at h
  simp only [A18, V18, body_eq]
  refine Or.elim (bt ((aZ0.length : Int) != (bZ0.length : Int))) (fun cZ1 => ?_) (fun cZ1 => ?_)
  · replace h := cond_t cZ1 h
    cases h
    try simp only [VS1, VS2, VS3, VS4, VS5, VS6, VT1, VT2, finM_ret, finM_nrm, decide_true, decide_false, List.nodup_nil, List.nodup_cons, oks_p, oks_m, Nat.reduceSub, Nat.reduceMul, ↓reduceIte, reduceCtorEq, Nat.reduceEqDiff, Nat.reduceAdd, Nat.reduceLeDiff, Int.reduceLE, cZ1]
    all_goals simp [qL, qJ, qJ0, qS, qX, qR, qM, Shp, sub, VS1, VS2, VS3, VS4, VS5, VS6, VT1, VT2, V18]
  · replace h := cond_f cZ1 h
    obtain ⟨oZ8, hoZ8, h⟩ := bind_s h
    try simp only [VS1, VS2, VS3, VS4, VS5, VS6, VT1, VT2, finM_ret, finM_nrm, decide_true, decide_false, List.nodup_nil, List.nodup_cons, oks_p, oks_m, Nat.reduceSub, Nat.reduceMul, ↓reduceIte, reduceCtorEq, Nat.reduceEqDiff, Nat.reduceAdd, Nat.reduceLeDiff, Int.reduceLE, cZ1]
    refine join_rule (o := oZ8) (blk_rule sideR (loop_rule (w_laws_eqTributarySL1 aZ0 bZ0) hoZ8 ?_)) (fun vZ9 hv => ?_) (fun xZ10 hv e τ hne hq => ?_)
    · all_goals simp [qL, qJ, qJ0, qS, qX, qR, qM, Shp, sub, VS1, VS2, VS3, VS4, VS5, VS6, VT1, VT2, S_laws_eqTributarySL1, SX_laws_eqTributarySL1]
    · subst hv
      simp only [] at h
      simp only [SX_laws_eqTributarySL1, A18R2]
      cases h
      try simp only [VS1, VS2, VS3, VS4, VS5, VS6, VT1, VT2, finM_ret, finM_nrm, decide_true, decide_false, List.nodup_nil, List.nodup_cons, oks_p, oks_m, Nat.reduceSub, Nat.reduceMul, ↓reduceIte, reduceCtorEq, Nat.reduceEqDiff, Nat.reduceAdd, Nat.reduceLeDiff, Int.reduceLE, cZ1]
      all_goals simp [qL, qJ, qJ0, qS, qX, qR, qM, Shp, sub, VS1, VS2, VS3, VS4, VS5, VS6, VT1, VT2, V18]
    · subst hv
      simp only [] at h
      obtain ⟨rfl, qZ11⟩ := hq
      cases h
      exact qZ11
theorem w_laws_FnExactIsValidTributaries (aListZ0 : List TTributary) (aNodesZ0 : Int) {r : Bool} (h : M_laws_FnExactIsValidTributaries aListZ0 aNodesZ0 = some r) : Ok Try.prog 3 [.lst .o 3 (aListZ0.map (e_TTributary .o)), .i aNodesZ0] ((fun r => .b r) r) := by
  refine ok_of_body hmix m3 rfl ?_
  unfold M_laws_FnExactIsValidTributaries at h
  simp only [A3, V3, body_eq]
  obtain ⟨rZ1, hrZ1, h⟩ := bind_s h
  simp only [VS1, VS2, VS3, VS4, VS5, VS6, VT1, VT2, finM_ret, finM_nrm, decide_true, decide_false, List.nodup_nil, List.nodup_cons, oks_p, oks_m, Nat.reduceSub, Nat.reduceMul, ↓reduceIte, reduceCtorEq, Nat.reduceEqDiff, Nat.reduceAdd, Nat.reduceLeDiff, Int.reduceLE]
  refine call_s (by simp only [VS1, VS2, VS3, VS4, VS5, VS6, VT1, VT2, finM_ret, finM_nrm, decide_true, decide_false, List.nodup_nil, List.nodup_cons, oks_p, oks_m, Nat.reduceSub, Nat.reduceMul, ↓reduceIte, reduceCtorEq, Nat.reduceEqDiff, Nat.reduceAdd, Nat.reduceLeDiff, Int.reduceLE]; exact w_laws_szTributaryS _ _ hrZ1 ) ?_
  simp only [VA, VF1, ↓reduceIte, Nat.reduceEqDiff, Nat.reduceAdd, Nat.reduceMul, Nat.reduceSub, Nat.reduceLeDiff]
  refine Or.elim (bt (decide (rZ1 < 0))) (fun cZ2 => ?_) (fun cZ2 => ?_)
  · replace h := cond_t cZ2 h
    cases h
    try simp only [VS1, VS2, VS3, VS4, VS5, VS6, VT1, VT2, finM_ret, finM_nrm, decide_true, decide_false, List.nodup_nil, List.nodup_cons, oks_p, oks_m, Nat.reduceSub, Nat.reduceMul, ↓reduceIte, reduceCtorEq, Nat.reduceEqDiff, Nat.reduceAdd, Nat.reduceLeDiff, Int.reduceLE, cZ2]
    all_goals simp [qL, qJ, qJ0, qS, qX, qR, qM, Shp, sub, VS1, VS2, VS3, VS4, VS5, VS6, VT1, VT2, V3]
  · replace h := cond_f cZ2 h
    obtain ⟨rZ3, hrZ3, h⟩ := bind_s h
    simp only [VS1, VS2, VS3, VS4, VS5, VS6, VT1, VT2, finM_ret, finM_nrm, decide_true, decide_false, List.nodup_nil, List.nodup_cons, oks_p, oks_m, Nat.reduceSub, Nat.reduceMul, ↓reduceIte, reduceCtorEq, Nat.reduceEqDiff, Nat.reduceAdd, Nat.reduceLeDiff, Int.reduceLE, cZ2]
    refine call_u (by simp only [VS1, VS2, VS3, VS4, VS5, VS6, VT1, VT2, finM_ret, finM_nrm, decide_true, decide_false, List.nodup_nil, List.nodup_cons, oks_p, oks_m, Nat.reduceSub, Nat.reduceMul, ↓reduceIte, reduceCtorEq, Nat.reduceEqDiff, Nat.reduceAdd, Nat.reduceLeDiff, Int.reduceLE, cZ2]; exact w_laws_toTributaryS _ hrZ3 ) (by simp [AV.allU, allUL, allUL_iff, VT1, VT2]) (by simp only [VS1, VS2, VS3, VS4, VS5, VS6, VT1, VT2, finM_ret, finM_nrm, decide_true, decide_false, List.nodup_nil, List.nodup_cons, oks_p, oks_m, Nat.reduceSub, Nat.reduceMul, ↓reduceIte, reduceCtorEq, Nat.reduceEqDiff, Nat.reduceAdd, Nat.reduceLeDiff, Int.reduceLE, Nat.reduceLT]) ?_
    simp only [VA, VF1, ↓reduceIte, Nat.reduceEqDiff, Nat.reduceAdd, Nat.reduceMul, Nat.reduceSub, Nat.reduceLeDiff]
    obtain ⟨rZ4, hrZ4, h⟩ := bind_s h
    simp only [VS1, VS2, VS3, VS4, VS5, VS6, VT1, VT2, finM_ret, finM_nrm, decide_true, decide_false, List.nodup_nil, List.nodup_cons, oks_p, oks_m, Nat.reduceSub, Nat.reduceMul, ↓reduceIte, reduceCtorEq, Nat.reduceEqDiff, Nat.reduceAdd, Nat.reduceLeDiff, Int.reduceLE, cZ2]
    refine call_s (by simp only [VS1, VS2, VS3, VS4, VS5, VS6, VT1, VT2, finM_ret, finM_nrm, decide_true, decide_false, List.nodup_nil, List.nodup_cons, oks_p, oks_m, Nat.reduceSub, Nat.reduceMul, ↓reduceIte, reduceCtorEq, Nat.reduceEqDiff, Nat.reduceAdd, Nat.reduceLeDiff, Int.reduceLE, cZ2]; exact w_spec_IsValidTributaries _ _ hrZ4 ) ?_
    simp only [VA, VF1, ↓reduceIte, Nat.reduceEqDiff, Nat.reduceAdd, Nat.reduceMul, Nat.reduceSub, Nat.reduceLeDiff]
    obtain ⟨rZ5, hrZ5, h⟩ := bind_s h
    simp only [VS1, VS2, VS3, VS4, VS5, VS6, VT1, VT2, finM_ret, finM_nrm, decide_true, decide_false, List.nodup_nil, List.nodup_cons, oks_p, oks_m, Nat.reduceSub, Nat.reduceMul, ↓reduceIte, reduceCtorEq, Nat.reduceEqDiff, Nat.reduceAdd, Nat.reduceLeDiff, Int.reduceLE, cZ2]
    refine call_u (by simp only [VS1, VS2, VS3, VS4, VS5, VS6, VT1, VT2, finM_ret, finM_nrm, decide_true, decide_false, List.nodup_nil, List.nodup_cons, oks_p, oks_m, Nat.reduceSub, Nat.reduceMul, ↓reduceIte, reduceCtorEq, Nat.reduceEqDiff, Nat.reduceAdd, Nat.reduceLeDiff, Int.reduceLE, cZ2]; exact w_laws_toTributaryS _ hrZ5 ) (by simp [AV.allU, allUL, allUL_iff, VT1, VT2]) (by simp only [VS1, VS2, VS3, VS4, VS5, VS6, VT1, VT2, finM_ret, finM_nrm, decide_true, decide_false, List.nodup_nil, List.nodup_cons, oks_p, oks_m, Nat.reduceSub, Nat.reduceMul, ↓reduceIte, reduceCtorEq, Nat.reduceEqDiff, Nat.reduceAdd, Nat.reduceLeDiff, Int.reduceLE, Nat.reduceLT]) ?_
    simp only [VA, VF1, ↓reduceIte, Nat.reduceEqDiff, Nat.reduceAdd, Nat.reduceMul, Nat.reduceSub, Nat.reduceLeDiff]
    obtain ⟨rZ6, hrZ6, h⟩ := bind_s h
    simp only [VS1, VS2, VS3, VS4, VS5, VS6, VT1, VT2, finM_ret, finM_nrm, decide_true, decide_false, List.nodup_nil, List.nodup_cons, oks_p, oks_m, Nat.reduceSub, Nat.reduceMul, ↓reduceIte, reduceCtorEq, Nat.reduceEqDiff, Nat.reduceAdd, Nat.reduceLeDiff, Int.reduceLE, cZ2]
    refine call_s (by simp only [VS1, VS2, VS3, VS4, VS5, VS6, VT1, VT2, finM_ret, finM_nrm, decide_true, decide_false, List.nodup_nil, List.nodup_cons, oks_p, oks_m, Nat.reduceSub, Nat.reduceMul, ↓reduceIte, reduceCtorEq, Nat.reduceEqDiff, Nat.reduceAdd, Nat.reduceLeDiff, Int.reduceLE, cZ2]; exact w_impl_IsValidTributaries _ _ hrZ6 ) ?_
    simp only [VA, VF1, ↓reduceIte, Nat.reduceEqDiff, Nat.reduceAdd, Nat.reduceMul, Nat.reduceSub, Nat.reduceLeDiff]
    refine Or.elim (bt (!(rZ6 == rZ4))) (fun cZ7 => ?_) (fun cZ7 => ?_)
    · replace h := cond_t cZ7 h
      cases h
      try simp only [VS1, VS2, VS3, VS4, VS5, VS6, VT1, VT2, finM_ret, finM_nrm, decide_true, decide_false, List.nodup_nil, List.nodup_cons, oks_p, oks_m, Nat.reduceSub, Nat.reduceMul, ↓reduceIte, reduceCtorEq, Nat.reduceEqDiff, Nat.reduceAdd, Nat.reduceLeDiff, Int.reduceLE, cZ2, cZ7]
      all_goals simp [qL, qJ, qJ0, qS, qX, qR, qM, Shp, sub, VS1, VS2, VS3, VS4, VS5, VS6, VT1, VT2, V3]
    · replace h := cond_f cZ7 h
      obtain ⟨rZ8, hrZ8, h⟩ := bind_s h
      simp only [VS1, VS2, VS3, VS4, VS5, VS6, VT1, VT2, finM_ret, finM_nrm, decide_true, decide_false, List.nodup_nil, List.nodup_cons, oks_p, oks_m, Nat.reduceSub, Nat.reduceMul, ↓reduceIte, reduceCtorEq, Nat.reduceEqDiff, Nat.reduceAdd, Nat.reduceLeDiff, Int.reduceLE, cZ2, cZ7]
      refine call_u (by simp only [VS1, VS2, VS3, VS4, VS5, VS6, VT1, VT2, finM_ret, finM_nrm, decide_true, decide_false, List.nodup_nil, List.nodup_cons, oks_p, oks_m, Nat.reduceSub, Nat.reduceMul, ↓reduceIte, reduceCtorEq, Nat.reduceEqDiff, Nat.reduceAdd, Nat.reduceLeDiff, Int.reduceLE, cZ2, cZ7]; exact w_laws_toTributaryS _ hrZ8 ) (by simp [AV.allU, allUL, allUL_iff, VT1, VT2]) (by simp only [VS1, VS2, VS3, VS4, VS5, VS6, VT1, VT2, finM_ret, finM_nrm, decide_true, decide_false, List.nodup_nil, List.nodup_cons, oks_p, oks_m, Nat.reduceSub, Nat.reduceMul, ↓reduceIte, reduceCtorEq, Nat.reduceEqDiff, Nat.reduceAdd, Nat.reduceLeDiff, Int.reduceLE, Nat.reduceLT]) ?_
      simp only [VA, VF1, ↓reduceIte, Nat.reduceEqDiff, Nat.reduceAdd, Nat.reduceMul, Nat.reduceSub, Nat.reduceLeDiff]
      obtain ⟨rZ9, hrZ9, h⟩ := bind_s h
      simp only [VS1, VS2, VS3, VS4, VS5, VS6, VT1, VT2, finM_ret, finM_nrm, decide_true, decide_false, List.nodup_nil, List.nodup_cons, oks_p, oks_m, Nat.reduceSub, Nat.reduceMul, ↓reduceIte, reduceCtorEq, Nat.reduceEqDiff, Nat.reduceAdd, Nat.reduceLeDiff, Int.reduceLE, cZ2, cZ7]
      refine call_s (by simp only [VS1, VS2, VS3, VS4, VS5, VS6, VT1, VT2, finM_ret, finM_nrm, decide_true, decide_false, List.nodup_nil, List.nodup_cons, oks_p, oks_m, Nat.reduceSub, Nat.reduceMul, ↓reduceIte, reduceCtorEq, Nat.reduceEqDiff, Nat.reduceAdd, Nat.reduceLeDiff, Int.reduceLE, cZ2, cZ7]; exact w_laws_eqTributaryS _ _ hrZ9 ) ?_
      simp only [VA, VF1, ↓reduceIte, Nat.reduceEqDiff, Nat.reduceAdd, Nat.reduceMul, Nat.reduceSub, Nat.reduceLeDiff]
      refine Or.elim (bt (!rZ9)) (fun cZ10 => ?_) (fun cZ10 => ?_)
      · replace h := cond_t cZ10 h
        cases h
        try simp only [VS1, VS2, VS3, VS4, VS5, VS6, VT1, VT2, finM_ret, finM_nrm, decide_true, decide_false, List.nodup_nil, List.nodup_cons, oks_p, oks_m, Nat.reduceSub, Nat.reduceMul, ↓reduceIte, reduceCtorEq, Nat.reduceEqDiff, Nat.reduceAdd, Nat.reduceLeDiff, Int.reduceLE, cZ2, cZ7, cZ10]
        all_goals simp [qL, qJ, qJ0, qS, qX, qR, qM, Shp, sub, VS1, VS2, VS3, VS4, VS5, VS6, VT1, VT2, V3]
      · replace h := cond_f cZ10 h
        cases h
        try simp only [VS1, VS2, VS3, VS4, VS5, VS6, VT1, VT2, finM_ret, finM_nrm, decide_true, decide_false, List.nodup_nil, List.nodup_cons, oks_p, oks_m, Nat.reduceSub, Nat.reduceMul, ↓reduceIte, reduceCtorEq, Nat.reduceEqDiff, Nat.reduceAdd, Nat.reduceLeDiff, Int.reduceLE, cZ2, cZ7, cZ10]
        all_goals simp [qL, qJ, qJ0, qS, qX, qR, qM, Shp, sub, VS1, VS2, VS3, VS4, VS5, VS6, VT1, VT2, V3]
theorem w_laws_szLinkS (aZ0 : List TLink) (leftZ0 : Int) {r : Int} (h : M_laws_szLinkS aZ0 leftZ0 = some r) : Ok Try.prog 25 [.lst .o 3 (aZ0.map (e_TLink .o)), .i leftZ0] ((fun r => .i r) r) := by
  refine ok_of_body hmix m25 rfl ?_
  unfold M_laws_szLinkS at h
  simp only [A25, V25, body_eq]
  refine Or.elim (bt (decide ((IntKind.wrap .i64 (leftZ0 - (aZ0.length : Int))) < 0))) (fun cZ1 => ?_) (fun cZ1 => ?_)
  · replace h := cond_t cZ1 h
    cases h
    try simp only [VS1, VS2, VS3, VS4, VS5, VS6, VT1, VT2, finM_ret, finM_nrm, decide_true, decide_false, List.nodup_nil, List.nodup_cons, oks_p, oks_m, Nat.reduceSub, Nat.reduceMul, ↓reduceIte, reduceCtorEq, Nat.reduceEqDiff, Nat.reduceAdd, Nat.reduceLeDiff, Int.reduceLE, cZ1]
    all_goals simp [qL, qJ, qJ0, qS, qX, qR, qM, Shp, sub, VS1, VS2, VS3, VS4, VS5, VS6, VT1, VT2, V25]
  · replace h := cond_f cZ1 h
    cases h
    try simp only [VS1, VS2, VS3, VS4, VS5, VS6, VT1, VT2, finM_ret, finM_nrm, decide_true, decide_false, List.nodup_nil, List.nodup_cons, oks_p, oks_m, Nat.reduceSub, Nat.reduceMul, ↓reduceIte, reduceCtorEq, Nat.reduceEqDiff, Nat.reduceAdd, Nat.reduceLeDiff, Int.reduceLE, cZ1]
    all_goals simp [qL, qJ, qJ0, qS, qX, qR, qM, Shp, sub, VS1, VS2, VS3, VS4, VS5, VS6, VT1, VT2, V25]
theorem w_laws_toLink (aZ0 : TLink) {r : TLink} (h : M_laws_toLink aZ0 = some r) : Ok Try.prog 69 [.agg [.i aZ0.A, .i aZ0.B, .i aZ0.Capacity]] ((fun r => .agg [.i r.A, .i r.B, .i r.Capacity]) r) := by
  refine ok_of_body hmix m69 rfl ?_
  unfold M_laws_toLink at h
  simp only [A69, V69, body_eq]
  cases h
  try simp only [VS1, VS2, VS3, VS4, VS5, VS6, VT1, VT2, finM_ret, finM_nrm, decide_true, decide_false, List.nodup_nil, List.nodup_cons, oks_p, oks_m, Nat.reduceSub, Nat.reduceMul, ↓reduceIte, reduceCtorEq, Nat.reduceEqDiff, Nat.reduceAdd, Nat.reduceLeDiff, Int.reduceLE]
  all_goals simp [qL, qJ, qJ0, qS, qX, qR, qM, Shp, sub, VS1, VS2, VS3, VS4, VS5, VS6, VT1, VT2, V69]
def S_laws_toLinkSL1 (aZ0 : List TLink) (v : Int × List TLink) : St := ⟨[(0, .lst .o 3 (aZ0.map (e_TLink .o))), (3, .sl 3 0 v.2.length), (4, .i v.1)], [(3, .arr 3 (v.2.map (e_TLink .u)))]⟩
def SX_laws_toLinkSL1 (v : List TLink) : St := ⟨[(3, .sl 3 0 v.length)], [(3, .arr 3 (v.map (e_TLink .u)))]⟩
theorem w_laws_toLinkSL1 (aZ0 : List TLink) (sZ4 : Int × List TLink) (o : (Int × List TLink) ⊕ (List TLink)) (h : M_laws_toLinkSL1 aZ0 sZ4 = some o) : AWP (OkS Try.prog) A27L1 (qL [0, 3, 4] [3] (S_laws_toLinkSL1 aZ0) (qX 0 [3] [3] (SX_laws_toLinkSL1)) o) (S_laws_toLinkSL1 aZ0 sZ4) := by
  unfold M_laws_toLinkSL1 at h
  simp only [S_laws_toLinkSL1, A27L1]
  refine Or.elim (bt (decide (sZ4.1 < (aZ0.length : Int)))) (fun cZ5 => ?_) (fun cZ5 => ?_)
  · replace h := cond_t cZ5 h
    obtain ⟨yZ6, hyZ6, h⟩ := bind_s h
    obtain ⟨hyZ6a, hyZ6b⟩ := geti_s hyZ6
    obtain ⟨rZ7, hrZ7, h⟩ := bind_s h
    simp only [VS1, VS2, VS3, VS4, VS5, VS6, VT1, VT2, finM_ret, finM_nrm, decide_true, decide_false, List.nodup_nil, List.nodup_cons, oks_p, oks_m, Nat.reduceSub, Nat.reduceMul, ↓reduceIte, reduceCtorEq, Nat.reduceEqDiff, Nat.reduceAdd, Nat.reduceLeDiff, Int.reduceLE, cZ5, hyZ6a, hyZ6b]
    refine call_u (by simp only [VS1, VS2, VS3, VS4, VS5, VS6, VT1, VT2, finM_ret, finM_nrm, decide_true, decide_false, List.nodup_nil, List.nodup_cons, oks_p, oks_m, Nat.reduceSub, Nat.reduceMul, ↓reduceIte, reduceCtorEq, Nat.reduceEqDiff, Nat.reduceAdd, Nat.reduceLeDiff, Int.reduceLE, cZ5, hyZ6a, hyZ6b]; exact w_laws_toLink _ hrZ7 ) (by simp [AV.allU, allUL, allUL_iff, VT1, VT2]) (by simp only [VS1, VS2, VS3, VS4, VS5, VS6, VT1, VT2, finM_ret, finM_nrm, decide_true, decide_false, List.nodup_nil, List.nodup_cons, oks_p, oks_m, Nat.reduceSub, Nat.reduceMul, ↓reduceIte, reduceCtorEq, Nat.reduceEqDiff, Nat.reduceAdd, Nat.reduceLeDiff, Int.reduceLE, Nat.reduceLT]) ?_
    simp only [VA, VF1, ↓reduceIte, Nat.reduceEqDiff, Nat.reduceAdd, Nat.reduceMul, Nat.reduceSub, Nat.reduceLeDiff]
    obtain ⟨kZ8, hkZ8, h⟩ := bind_s h
    obtain ⟨hkZ8a, hkZ8b⟩ := grd_s hkZ8
    obtain ⟨yZ9, hyZ9, h⟩ := bind_s h
    obtain ⟨lZ10, hlZ10, h⟩ := bnd_s h
    have eZ11 : (sZ4.2.map (e_TLink .u)).set (Int.toNat sZ4.1) (.agg [.i rZ7.A, .i rZ7.B, .i rZ7.Capacity]) = lZ10.map (e_TLink .u) := by rw [← hlZ10, List.map_set]; rfl
    cases h
    try simp only [VS1, VS2, VS3, VS4, VS5, VS6, VT1, VT2, finM_ret, finM_nrm, decide_true, decide_false, List.nodup_nil, List.nodup_cons, oks_p, oks_m, Nat.reduceSub, Nat.reduceMul, ↓reduceIte, reduceCtorEq, Nat.reduceEqDiff, Nat.reduceAdd, Nat.reduceLeDiff, Int.reduceLE, cZ5, hyZ6a, hyZ6b, hkZ8a, hkZ8b, hyZ9, eZ11]
    all_goals simp [qL, qJ, qJ0, qS, qX, qR, qM, Shp, sub, VS1, VS2, VS3, VS4, VS5, VS6, VT1, VT2, S_laws_toLinkSL1, SX_laws_toLinkSL1, ← hlZ10]
  · replace h := cond_f cZ5 h
    cases h
    try simp only [VS1, VS2, VS3, VS4, VS5, VS6, VT1, VT2, finM_ret, finM_nrm, decide_true, decide_false, List.nodup_nil, List.nodup_cons, oks_p, oks_m, Nat.reduceSub, Nat.reduceMul, ↓reduceIte, reduceCtorEq, Nat.reduceEqDiff, Nat.reduceAdd, Nat.reduceLeDiff, Int.reduceLE, cZ5]
    all_goals simp [qL, qJ, qJ0, qS, qX, qR, qM, Shp, sub, VS1, VS2, VS3, VS4, VS5, VS6, VT1, VT2, S_laws_toLinkSL1, SX_laws_toLinkSL1]
theorem w_laws_toLinkS (aZ0 : List TLink) {r : List TLink} (h : M_laws_toLinkS aZ0 = some r) : Ok Try.prog 27 [.lst .o 3 (aZ0.map (e_TLink .o))] ((fun r => .lst .u 3 (r.map (e_TLink .u))) r) := by
  refine ok_of_body hmix m27 rfl ?_
  unfold M_laws_toLinkS at h
  simp only [A27, V27, body_eq]
  obtain ⟨uZ1, huZ1, h⟩ := bind_s h
  obtain ⟨huZ11, huZ12, huZ13, huZ14⟩ := grd_s huZ1
  obtain ⟨lZ2, hlZ2, h⟩ := bnd_s h
  have eZ3 : List.replicate (Int.toNat (aZ0.length : Int)) (.agg [.i 0, .i 0, .i 0] : AV) = lZ2.map (e_TLink .u) := by rw [← hlZ2, List.map_replicate]; rfl
  obtain ⟨oZ12, hoZ12, h⟩ := bind_s h
  try simp only [VS1, VS2, VS3, VS4, VS5, VS6, VT1, VT2, finM_ret, finM_nrm, decide_true, decide_false, List.nodup_nil, List.nodup_cons, oks_p, oks_m, Nat.reduceSub, Nat.reduceMul, ↓reduceIte, reduceCtorEq, Nat.reduceEqDiff, Nat.reduceAdd, Nat.reduceLeDiff, Int.reduceLE, huZ11, huZ12, huZ13, huZ14, eZ3]
  refine join_rule0 (blk_rule0 (loop_rule (w_laws_toLinkSL1 aZ0) hoZ12 ?_)) ?_
  · all_goals simp [qL, qJ, qJ0, qS, qX, qR, qM, Shp, sub, VS1, VS2, VS3, VS4, VS5, VS6, VT1, VT2, S_laws_toLinkSL1, SX_laws_toLinkSL1, ← hlZ2, List.length_replicate]
  · simp only [SX_laws_toLinkSL1, A27R2]
    cases h
    try simp only [VS1, VS2, VS3, VS4, VS5, VS6, VT1, VT2, finM_ret, finM_nrm, decide_true, decide_false, List.nodup_nil, List.nodup_cons, oks_p, oks_m, Nat.reduceSub, Nat.reduceMul, ↓reduceIte, reduceCtorEq, Nat.reduceEqDiff, Nat.reduceAdd, Nat.reduceLeDiff, Int.reduceLE, huZ11, huZ12, huZ13, huZ14, eZ3]
    all_goals simp [qL, qJ, qJ0, qS, qX, qR, qM, Shp, sub, VS1, VS2, VS3, VS4, VS5, VS6, VT1, VT2, V27]
def S_laws_toIntSL1 (aZ0 : List Int) (v : Int × List Int) : St := ⟨[(0, .lst .o 1 (aZ0.map AV.i)), (3, .sl 3 0 v.2.length), (4, .i v.1)], [(3, .arr 1 (v.2.map AV.i))]⟩
def SX_laws_toIntSL1 (v : List Int) : St := ⟨[(3, .sl 3 0 v.length)], [(3, .arr 1 (v.map AV.i))]⟩
theorem w_laws_toIntSL1 (aZ0 : List Int) (sZ4 : Int × List Int) (o : (Int × List Int) ⊕ (List Int)) (h : M_laws_toIntSL1 aZ0 sZ4 = some o) : AWP (OkS Try.prog) A20L1 (qL [0, 3, 4] [3] (S_laws_toIntSL1 aZ0) (qX 0 [3] [3] (SX_laws_toIntSL1)) o) (S_laws_toIntSL1 aZ0 sZ4) := by
  unfold M_laws_toIntSL1 at h
  simp only [S_laws_toIntSL1, A20L1]
  refine Or.elim (bt (decide (sZ4.1 < (aZ0.length : Int)))) (fun cZ5 => ?_) (fun cZ5 => ?_)
  · replace h := cond_t cZ5 h
    obtain ⟨yZ6, hyZ6, h⟩ := bind_s h
    obtain ⟨hyZ6a, hyZ6b⟩ := geti_s hyZ6
    obtain ⟨kZ7, hkZ7, h⟩ := bind_s h
    obtain ⟨hkZ7a, hkZ7b⟩ := grd_s hkZ7
    obtain ⟨yZ8, hyZ8, h⟩ := bind_s h
    obtain ⟨lZ9, hlZ9, h⟩ := bnd_s h
    have eZ10 : (sZ4.2.map AV.i).set (Int.toNat sZ4.1) (.i yZ6) = lZ9.map AV.i := by rw [← hlZ9, List.map_set]
    cases h
    try simp only [VS1, VS2, VS3, VS4, VS5, VS6, VT1, VT2, finM_ret, finM_nrm, decide_true, decide_false, List.nodup_nil, List.nodup_cons, oks_p, oks_m, Nat.reduceSub, Nat.reduceMul, ↓reduceIte, reduceCtorEq, Nat.reduceEqDiff, Nat.reduceAdd, Nat.reduceLeDiff, Int.reduceLE, cZ5, hyZ6a, hyZ6b, hkZ7a, hkZ7b, hyZ8, eZ10]
    all_goals simp [qL, qJ, qJ0, qS, qX, qR, qM, Shp, sub, VS1, VS2, VS3, VS4, VS5, VS6, VT1, VT2, S_laws_toIntSL1, SX_laws_toIntSL1, ← hlZ9]
  · replace h := cond_f cZ5 h
    cases h
    try simp only [VS1, VS2, VS3, VS4, VS5, VS6, VT1, VT2, finM_ret, finM_nrm, decide_true, decide_false, List.nodup_nil, List.nodup_cons, oks_p, oks_m, Nat.reduceSub, Nat.reduceMul, ↓reduceIte, reduceCtorEq, Nat.reduceEqDiff, Nat.reduceAdd, Nat.reduceLeDiff, Int.reduceLE, cZ5]
    all_goals simp [qL, qJ, qJ0, qS, qX, qR, qM, Shp, sub, VS1, VS2, VS3, VS4, VS5, VS6, VT1, VT2, S_laws_toIntSL1, SX_laws_toIntSL1]
theorem w_laws_toIntS (aZ0 : List Int) {r : List Int} (h : M_laws_toIntS aZ0 = some r) : Ok Try.prog 20 [.lst .o 1 (aZ0.map AV.i)] ((fun r => .lst .u 1 (r.map AV.i)) r) := by
  refine ok_of_body hmix m20 rfl ?_
  unfold M_laws_toIntS at h
  simp only [A20, V20, body_eq]
  obtain ⟨uZ1, huZ1, h⟩ := bind_s h
  obtain ⟨huZ11, huZ12, huZ13, huZ14⟩ := grd_s huZ1
  obtain ⟨lZ2, hlZ2, h⟩ := bnd_s h
  have eZ3 : List.replicate (Int.toNat (aZ0.length : Int)) (.i 0 : AV) = lZ2.map AV.i := by rw [← hlZ2, List.map_replicate]
  obtain ⟨oZ11, hoZ11, h⟩ := bind_s h
  try simp only [VS1, VS2, VS3, VS4, VS5, VS6, VT1, VT2, finM_ret, finM_nrm, decide_true, decide_false, List.nodup_nil, List.nodup_cons, oks_p, oks_m, Nat.reduceSub, Nat.reduceMul, ↓reduceIte, reduceCtorEq, Nat.reduceEqDiff, Nat.reduceAdd, Nat.reduceLeDiff, Int.reduceLE, huZ11, huZ12, huZ13, huZ14, eZ3]
  refine join_rule0 (blk_rule0 (loop_rule (w_laws_toIntSL1 aZ0) hoZ11 ?_)) ?_
  · all_goals simp [qL, qJ, qJ0, qS, qX, qR, qM, Shp, sub, VS1, VS2, VS3, VS4, VS5, VS6, VT1, VT2, S_laws_toIntSL1, SX_laws_toIntSL1, ← hlZ2, List.length_replicate]
  · simp only [SX_laws_toIntSL1, A20R2]
    cases h
    try simp only [VS1, VS2, VS3, VS4, VS5, VS6, VT1, VT2, finM_ret, finM_nrm, decide_true, decide_false, List.nodup_nil, List.nodup_cons, oks_p, oks_m, Nat.reduceSub, Nat.reduceMul, ↓reduceIte, reduceCtorEq, Nat.reduceEqDiff, Nat.reduceAdd, Nat.reduceLeDiff, Int.reduceLE, huZ11, huZ12, huZ13, huZ14, eZ3]
    all_goals simp [qL, qJ, qJ0, qS, qX, qR, qM, Shp, sub, VS1, VS2, VS3, VS4, VS5, VS6, VT1, VT2, V20]
def S_spec_l18LinksL1 (linksZ0 : List TLink) (nodesZ0 : Int) (v : Int) : St := ⟨[(0, .lst .o 3 (linksZ0.map (e_TLink .o))), (1, .i nodesZ0), (5, .i v)], []⟩
def SX_spec_l18LinksL1 (linksZ0 : List TLink) (nodesZ0 : Int) (v : Unit) : St := ⟨[(0, .lst .o 3 (linksZ0.map (e_TLink .o))), (1, .i nodesZ0)], []⟩
theorem w_spec_l18LinksL1 (linksZ0 : List TLink) (nodesZ0 : Int) (sZ1 : Int) (o : Int ⊕ (Unit ⊕ Bool)) (h : M_spec_l18LinksL1 linksZ0 nodesZ0 sZ1 = some o) : AWP (OkS Try.prog) A66L3 (qL [0, 1, 5] [] (S_spec_l18LinksL1 linksZ0 nodesZ0) (qS (qX 0 [0, 1] [] (SX_spec_l18LinksL1 linksZ0 nodesZ0)) (qR V66 (fun r => .b r))) o) (S_spec_l18LinksL1 linksZ0 nodesZ0 sZ1) := by
  unfold M_spec_l18LinksL1 at h
  simp only [S_spec_l18LinksL1, A66L3]
  obtain ⟨oZ3, hoZ3, h⟩ := bind_s h
  try simp only [VS1, VS2, VS3, VS4, VS5, VS6, VT1, VT2, finM_ret, finM_nrm, decide_true, decide_false, List.nodup_nil, List.nodup_cons, oks_p, oks_m, Nat.reduceSub, Nat.reduceMul, ↓reduceIte, reduceCtorEq, Nat.reduceEqDiff, Nat.reduceAdd, Nat.reduceLeDiff, Int.reduceLE]
  refine join_rule0 (sh := (fun v => ⟨[(0, .lst .o 3 (linksZ0.map (e_TLink .o))), (1, .i nodesZ0), (5, .i sZ1), (13, .b v)], []⟩)) (s := oZ3) ?_ ?_
  · replace h := hoZ3
    refine Or.elim (bt (decide (sZ1 < (linksZ0.length : Int)))) (fun cZ2 => ?_) (fun cZ2 => ?_)
    · replace h := cond_t cZ2 h
      cases h
      try simp only [VS1, VS2, VS3, VS4, VS5, VS6, VT1, VT2, finM_ret, finM_nrm, decide_true, decide_false, List.nodup_nil, List.nodup_cons, oks_p, oks_m, Nat.reduceSub, Nat.reduceMul, ↓reduceIte, reduceCtorEq, Nat.reduceEqDiff, Nat.reduceAdd, Nat.reduceLeDiff, Int.reduceLE, cZ2]
      all_goals simp [qL, qJ, qJ0, qS, qX, qR, qM, Shp, sub, VS1, VS2, VS3, VS4, VS5, VS6, VT1, VT2]
    · replace h := cond_f cZ2 h
      cases h
      try simp only [VS1, VS2, VS3, VS4, VS5, VS6, VT1, VT2, finM_ret, finM_nrm, decide_true, decide_false, List.nodup_nil, List.nodup_cons, oks_p, oks_m, Nat.reduceSub, Nat.reduceMul, ↓reduceIte, reduceCtorEq, Nat.reduceEqDiff, Nat.reduceAdd, Nat.reduceLeDiff, Int.reduceLE, cZ2]
      all_goals simp [qL, qJ, qJ0, qS, qX, qR, qM, Shp, sub, VS1, VS2, VS3, VS4, VS5, VS6, VT1, VT2]
  · simp only [A66R1]
    refine Or.elim (bt (oZ3)) (fun cZ4 => ?_) (fun cZ4 => ?_)
    · replace h := cond_t cZ4 h
      obtain ⟨oZ9, hoZ9, h⟩ := bind_s h
      try simp only [VS1, VS2, VS3, VS4, VS5, VS6, VT1, VT2, finM_ret, finM_nrm, decide_true, decide_false, List.nodup_nil, List.nodup_cons, oks_p, oks_m, Nat.reduceSub, Nat.reduceMul, ↓reduceIte, reduceCtorEq, Nat.reduceEqDiff, Nat.reduceAdd, Nat.reduceLeDiff, Int.reduceLE, cZ4]
      refine join_rule0 (sh := (fun v => ⟨[(0, .lst .o 3 (linksZ0.map (e_TLink .o))), (1, .i nodesZ0), (5, .i sZ1), (37, .b v)], []⟩)) (s := oZ9) ?_ ?_
      · replace h := hoZ9
        obtain ⟨yZ5, hyZ5, h⟩ := bind_s h
        obtain ⟨hyZ5a, hyZ5b⟩ := geti_s hyZ5
        obtain ⟨rZ6, hrZ6, h⟩ := bind_s h
        simp only [VS1, VS2, VS3, VS4, VS5, VS6, VT1, VT2, finM_ret, finM_nrm, decide_true, decide_false, List.nodup_nil, List.nodup_cons, oks_p, oks_m, Nat.reduceSub, Nat.reduceMul, ↓reduceIte, reduceCtorEq, Nat.reduceEqDiff, Nat.reduceAdd, Nat.reduceLeDiff, Int.reduceLE, cZ4, hyZ5a, hyZ5b]
        refine call_s (by simp only [VS1, VS2, VS3, VS4, VS5, VS6, VT1, VT2, finM_ret, finM_nrm, decide_true, decide_false, List.nodup_nil, List.nodup_cons, oks_p, oks_m, Nat.reduceSub, Nat.reduceMul, ↓reduceIte, reduceCtorEq, Nat.reduceEqDiff, Nat.reduceAdd, Nat.reduceLeDiff, Int.reduceLE, cZ4, hyZ5a, hyZ5b]; exact w_spec_l18Pair _ _ _ hrZ6 ) ?_
        simp only [VA, VF1, ↓reduceIte, Nat.reduceEqDiff, Nat.reduceAdd, Nat.reduceMul, Nat.reduceSub, Nat.reduceLeDiff]
        refine Or.elim (bt (!rZ6)) (fun cZ7 => ?_) (fun cZ7 => ?_)
        · replace h := cond_t cZ7 h
          cases h
          try simp only [VS1, VS2, VS3, VS4, VS5, VS6, VT1, VT2, finM_ret, finM_nrm, decide_true, decide_false, List.nodup_nil, List.nodup_cons, oks_p, oks_m, Nat.reduceSub, Nat.reduceMul, ↓reduceIte, reduceCtorEq, Nat.reduceEqDiff, Nat.reduceAdd, Nat.reduceLeDiff, Int.reduceLE, cZ4, hyZ5a, hyZ5b, cZ7]
          all_goals simp [qL, qJ, qJ0, qS, qX, qR, qM, Shp, sub, VS1, VS2, VS3, VS4, VS5, VS6, VT1, VT2]
        · replace h := cond_f cZ7 h
          obtain ⟨rZ8, hrZ8, h⟩ := bind_s h
          simp only [VS1, VS2, VS3, VS4, VS5, VS6, VT1, VT2, finM_ret, finM_nrm, decide_true, decide_false, List.nodup_nil, List.nodup_cons, oks_p, oks_m, Nat.reduceSub, Nat.reduceMul, ↓reduceIte, reduceCtorEq, Nat.reduceEqDiff, Nat.reduceAdd, Nat.reduceLeDiff, Int.reduceLE, cZ4, hyZ5a, hyZ5b, cZ7]
          refine call_s (by simp only [VS1, VS2, VS3, VS4, VS5, VS6, VT1, VT2, finM_ret, finM_nrm, decide_true, decide_false, List.nodup_nil, List.nodup_cons, oks_p, oks_m, Nat.reduceSub, Nat.reduceMul, ↓reduceIte, reduceCtorEq, Nat.reduceEqDiff, Nat.reduceAdd, Nat.reduceLeDiff, Int.reduceLE, cZ4, hyZ5a, hyZ5b, cZ7]; exact w_spec_l1In _ _ _ hrZ8 ) ?_
          simp only [VA, VF1, ↓reduceIte, Nat.reduceEqDiff, Nat.reduceAdd, Nat.reduceMul, Nat.reduceSub, Nat.reduceLeDiff]
          cases h
          try simp only [VS1, VS2, VS3, VS4, VS5, VS6, VT1, VT2, finM_ret, finM_nrm, decide_true, decide_false, List.nodup_nil, List.nodup_cons, oks_p, oks_m, Nat.reduceSub, Nat.reduceMul, ↓reduceIte, reduceCtorEq, Nat.reduceEqDiff, Nat.reduceAdd, Nat.reduceLeDiff, Int.reduceLE, cZ4, hyZ5a, hyZ5b, cZ7]
          all_goals simp [qL, qJ, qJ0, qS, qX, qR, qM, Shp, sub, VS1, VS2, VS3, VS4, VS5, VS6, VT1, VT2]
      · simp only [A66R2]
        refine Or.elim (bt (oZ9)) (fun cZ10 => ?_) (fun cZ10 => ?_)
        · replace h := cond_t cZ10 h
          cases h
          try simp only [VS1, VS2, VS3, VS4, VS5, VS6, VT1, VT2, finM_ret, finM_nrm, decide_true, decide_false, List.nodup_nil, List.nodup_cons, oks_p, oks_m, Nat.reduceSub, Nat.reduceMul, ↓reduceIte, reduceCtorEq, Nat.reduceEqDiff, Nat.reduceAdd, Nat.reduceLeDiff, Int.reduceLE, cZ4, cZ10]
          all_goals simp [qL, qJ, qJ0, qS, qX, qR, qM, Shp, sub, VS1, VS2, VS3, VS4, VS5, VS6, VT1, VT2, V66]
        · replace h := cond_f cZ10 h
          cases h
          try simp only [VS1, VS2, VS3, VS4, VS5, VS6, VT1, VT2, finM_ret, finM_nrm, decide_true, decide_false, List.nodup_nil, List.nodup_cons, oks_p, oks_m, Nat.reduceSub, Nat.reduceMul, ↓reduceIte, reduceCtorEq, Nat.reduceEqDiff, Nat.reduceAdd, Nat.reduceLeDiff, Int.reduceLE, cZ4, cZ10]
          all_goals simp [qL, qJ, qJ0, qS, qX, qR, qM, Shp, sub, VS1, VS2, VS3, VS4, VS5, VS6, VT1, VT2, S_spec_l18LinksL1, SX_spec_l18LinksL1]
    · replace h := cond_f cZ4 h
      cases h
      try simp only [VS1, VS2, VS3, VS4, VS5, VS6, VT1, VT2, finM_ret, finM_nrm, decide_true, decide_false, List.nodup_nil, List.nodup_cons, oks_p, oks_m, Nat.reduceSub, Nat.reduceMul, ↓reduceIte, reduceCtorEq, Nat.reduceEqDiff, Nat.reduceAdd, Nat.reduceLeDiff, Int.reduceLE, cZ4]
      all_goals simp [qL, qJ, qJ0, qS, qX, qR, qM, Shp, sub, VS1, VS2, VS3, VS4, VS5, VS6, VT1, VT2, S_spec_l18LinksL1, SX_spec_l18LinksL1]
theorem w_spec_l18Links (linksZ0 : List TLink) (nodesZ0 : Int) {r : Bool} (h : M_spec_l18Links linksZ0 nodesZ0 = some r) : Ok Try.prog 66 [.lst .o 3 (linksZ0.map (e_TLink .o)), .i nodesZ0] ((fun r => .b r) r) := by
  refine ok_of_body hmix m66 rfl ?_
  unfold M_spec_l18Links at h
  simp only [A66, V66, body_eq]
  obtain ⟨oZ11, hoZ11, h⟩ := bind_s h
  try simp only [VS1, VS2, VS3, VS4, VS5, VS6, VT1, VT2, finM_ret, finM_nrm, decide_true, decide_false, List.nodup_nil, List.nodup_cons, oks_p, oks_m, Nat.reduceSub, Nat.reduceMul, ↓reduceIte, reduceCtorEq, Nat.reduceEqDiff, Nat.reduceAdd, Nat.reduceLeDiff, Int.reduceLE]
  refine join_rule (o := oZ11) (blk_rule sideR (loop_rule (w_spec_l18LinksL1 linksZ0 nodesZ0) hoZ11 ?_)) (fun vZ12 hv => ?_) (fun xZ13 hv e τ hne hq => ?_)
  · all_goals simp [qL, qJ, qJ0, qS, qX, qR, qM, Shp, sub, VS1, VS2, VS3, VS4, VS5, VS6, VT1, VT2, S_spec_l18LinksL1, SX_spec_l18LinksL1]
  · subst hv
    simp only [] at h
    simp only [SX_spec_l18LinksL1, A66R4]
    obtain ⟨rZ14, hrZ14, h⟩ := bind_s h
    simp only [VS1, VS2, VS3, VS4, VS5, VS6, VT1, VT2, finM_ret, finM_nrm, decide_true, decide_false, List.nodup_nil, List.nodup_cons, oks_p, oks_m, Nat.reduceSub, Nat.reduceMul, ↓reduceIte, reduceCtorEq, Nat.reduceEqDiff, Nat.reduceAdd, Nat.reduceLeDiff, Int.reduceLE]
    refine call_s (by simp only [VS1, VS2, VS3, VS4, VS5, VS6, VT1, VT2, finM_ret, finM_nrm, decide_true, decide_false, List.nodup_nil, List.nodup_cons, oks_p, oks_m, Nat.reduceSub, Nat.reduceMul, ↓reduceIte, reduceCtorEq, Nat.reduceEqDiff, Nat.reduceAdd, Nat.reduceLeDiff, Int.reduceLE]; exact w_spec_l1In _ _ _ hrZ14 ) ?_
    simp only [VA, VF1, ↓reduceIte, Nat.reduceEqDiff, Nat.reduceAdd, Nat.reduceMul, Nat.reduceSub, Nat.reduceLeDiff]
    refine Or.elim (bt (rZ14)) (fun cZ15 => ?_) (fun cZ15 => ?_)
    · replace h := cond_t cZ15 h
      cases h
      try simp only [VS1, VS2, VS3, VS4, VS5, VS6, VT1, VT2, finM_ret, finM_nrm, decide_true, decide_false, List.nodup_nil, List.nodup_cons, oks_p, oks_m, Nat.reduceSub, Nat.reduceMul, ↓reduceIte, reduceCtorEq, Nat.reduceEqDiff, Nat.reduceAdd, Nat.reduceLeDiff, Int.reduceLE, cZ15]
      all_goals simp [qL, qJ, qJ0, qS, qX, qR, qM, Shp, sub, VS1, VS2, VS3, VS4, VS5, VS6, VT1, VT2, V66]
    · replace h := cond_f cZ15 h
      cases h
      try simp only [VS1, VS2, VS3, VS4, VS5, VS6, VT1, VT2, finM_ret, finM_nrm, decide_true, decide_false, List.nodup_nil, List.nodup_cons, oks_p, oks_m, Nat.reduceSub, Nat.reduceMul, ↓reduceIte, reduceCtorEq, Nat.reduceEqDiff, Nat.reduceAdd, Nat.reduceLeDiff, Int.reduceLE, cZ15]
      all_goals simp [qL, qJ, qJ0, qS, qX, qR, qM, Shp, sub, VS1, VS2, VS3, VS4, VS5, VS6, VT1, VT2, V66]
  · subst hv
    simp only [] at h
    obtain ⟨rfl, qZ16⟩ := hq
    cases h
    exact qZ16
def S_spec_l1HasL1 (lZ0 : List Int) (nZ0 : Int) (v : Int) : St := ⟨[(0, .lst .o 1 (lZ0.map AV.i)), (1, .i nZ0), (5, .i v)], []⟩
def SX_spec_l1HasL1 (v : Unit) : St := ⟨[], []⟩
theorem w_spec_l1HasL1 (lZ0 : List Int) (nZ0 : Int) (sZ1 : Int) (o : Int ⊕ (Unit ⊕ Bool)) (h : M_spec_l1HasL1 lZ0 nZ0 sZ1 = some o) : AWP (OkS Try.prog) A79L1 (qL [0, 1, 5] [] (S_spec_l1HasL1 lZ0 nZ0) (qS (qX 0 [] [] (SX_spec_l1HasL1)) (qR V79 (fun r => .b r))) o) (S_spec_l1HasL1 lZ0 nZ0 sZ1) := by
  unfold M_spec_l1HasL1 at h
  simp only [S_spec_l1HasL1, A79L1]
  refine Or.elim (bt (decide (sZ1 < (lZ0.length : Int)))) (fun cZ2 => ?_) (fun cZ2 => ?_)
  · replace h := cond_t cZ2 h
    obtain ⟨yZ3, hyZ3, h⟩ := bind_s h
    obtain ⟨hyZ3a, hyZ3b⟩ := geti_s hyZ3
    refine Or.elim (bt (yZ3 == nZ0)) (fun cZ4 => ?_) (fun cZ4 => ?_)
    · replace h := cond_t cZ4 h
      cases h
      try simp only [VS1, VS2, VS3, VS4, VS5, VS6, VT1, VT2, finM_ret, finM_nrm, decide_true, decide_false, List.nodup_nil, List.nodup_cons, oks_p, oks_m, Nat.reduceSub, Nat.reduceMul, ↓reduceIte, reduceCtorEq, Nat.reduceEqDiff, Nat.reduceAdd, Nat.reduceLeDiff, Int.reduceLE, cZ2, hyZ3a, hyZ3b, cZ4]
      all_goals simp [qL, qJ, qJ0, qS, qX, qR, qM, Shp, sub, VS1, VS2, VS3, VS4, VS5, VS6, VT1, VT2, V79]
    · replace h := cond_f cZ4 h
      cases h
      try simp only [VS1, VS2, VS3, VS4, VS5, VS6, VT1, VT2, finM_ret, finM_nrm, decide_true, decide_false, List.nodup_nil, List.nodup_cons, oks_p, oks_m, Nat.reduceSub, Nat.reduceMul, ↓reduceIte, reduceCtorEq, Nat.reduceEqDiff, Nat.reduceAdd, Nat.reduceLeDiff, Int.reduceLE, cZ2, hyZ3a, hyZ3b, cZ4]
      all_goals simp [qL, qJ, qJ0, qS, qX, qR, qM, Shp, sub, VS1, VS2, VS3, VS4, VS5, VS6, VT1, VT2, S_spec_l1HasL1, SX_spec_l1HasL1]
  · replace h := cond_f cZ2 h
    cases h
    try simp only [VS1, VS2, VS3, VS4, VS5, VS6, VT1, VT2, finM_ret, finM_nrm, decide_true, decide_false, List.nodup_nil, List.nodup_cons, oks_p, oks_m, Nat.reduceSub, Nat.reduceMul, ↓reduceIte, reduceCtorEq, Nat.reduceEqDiff, Nat.reduceAdd, Nat.reduceLeDiff, Int.reduceLE, cZ2]
    all_goals simp [qL, qJ, qJ0, qS, qX, qR, qM, Shp, sub, VS1, VS2, VS3, VS4, VS5, VS6, VT1, VT2, S_spec_l1HasL1, SX_spec_l1HasL1]
theorem w_spec_l1Has (lZ0 : List Int) (nZ0 : Int) {r : Bool} (h : M_spec_l1Has lZ0 nZ0 = some r) : Ok Try.prog 79 [.lst .o 1 (lZ0.map AV.i), .i nZ0] ((fun r => .b r) r) := by
  refine ok_of_body hmix m79 rfl ?_
  unfold M_spec_l1Has at h
  simp only [A79, V79, body_eq]
  obtain ⟨oZ5, hoZ5, h⟩ := bind_s h
  try simp only [VS1, VS2, VS3, VS4, VS5, VS6, VT1, VT2, finM_ret, finM_nrm, decide_true, decide_false, List.nodup_nil, List.nodup_cons, oks_p, oks_m, Nat.reduceSub, Nat.reduceMul, ↓reduceIte, reduceCtorEq, Nat.reduceEqDiff, Nat.reduceAdd, Nat.reduceLeDiff, Int.reduceLE]
  refine join_rule (o := oZ5) (blk_rule sideR (loop_rule (w_spec_l1HasL1 lZ0 nZ0) hoZ5 ?_)) (fun vZ6 hv => ?_) (fun xZ7 hv e τ hne hq => ?_)
  · all_goals simp [qL, qJ, qJ0, qS, qX, qR, qM, Shp, sub, VS1, VS2, VS3, VS4, VS5, VS6, VT1, VT2, S_spec_l1HasL1, SX_spec_l1HasL1]
  · subst hv
    simp only [] at h
    simp only [SX_spec_l1HasL1, A79R2]
    cases h
    try simp only [VS1, VS2, VS3, VS4, VS5, VS6, VT1, VT2, finM_ret, finM_nrm, decide_true, decide_false, List.nodup_nil, List.nodup_cons, oks_p, oks_m, Nat.reduceSub, Nat.reduceMul, ↓reduceIte, reduceCtorEq, Nat.reduceEqDiff, Nat.reduceAdd, Nat.reduceLeDiff, Int.reduceLE]
    all_goals simp [qL, qJ, qJ0, qS, qX, qR, qM, Shp, sub, VS1, VS2, VS3, VS4, VS5, VS6, VT1, VT2, V79]
  · subst hv
    simp only [] at h
    obtain ⟨rfl, qZ8⟩ := hq
    cases h
    exact qZ8
theorem w_spec_l1Own (lZ0 : List Int) {r : List Int} (h : M_spec_l1Own lZ0 = some r) : Ok Try.prog 112 [.lst .o 1 (lZ0.map AV.i)] ((fun r => .lst .u 1 (r.map AV.i)) r) := by
  refine ok_of_body hmix m112 rfl ?_
  unfold M_spec_l1Own at h
  simp only [A112, V112, body_eq]
  obtain ⟨uZ1, huZ1, h⟩ := bind_s h
  have huZ1g := grd_s huZ1
  cases h
  try simp only [VS1, VS2, VS3, VS4, VS5, VS6, VT1, VT2, finM_ret, finM_nrm, decide_true, decide_false, List.nodup_nil, List.nodup_cons, oks_p, oks_m, Nat.reduceSub, Nat.reduceMul, ↓reduceIte, reduceCtorEq, Nat.reduceEqDiff, Nat.reduceAdd, Nat.reduceLeDiff, Int.reduceLE, huZ1g]
  all_goals simp [qL, qJ, qJ0, qS, qX, qR, qM, Shp, sub, VS1, VS2, VS3, VS4, VS5, VS6, VT1, VT2, V112]
def S_spec_l18FindL1 (linksZ0 : List TLink) (freeZ0 : List Int) (atZ0 : Int) (toZ0 : Int) (rateZ0 : Int) (kZ0 : Int) (seenZ0 : List Int) (v : Int) : St := ⟨[(0, .lst .o 3 (linksZ0.map (e_TLink .o))), (1, .lst .o 1 (freeZ0.map AV.i)), (2, .i atZ0), (3, .i toZ0), (4, .i rateZ0), (5, .i kZ0), (6, .lst .o 1 (seenZ0.map AV.i)), (15, .i v)], []⟩
def SX_spec_l18FindL1 (v : Unit) : St := ⟨[], []⟩
theorem w_spec_l18FindL1 (linksZ0 : List TLink) (freeZ0 : List Int) (atZ0 : Int) (toZ0 : Int) (rateZ0 : Int) (kZ0 : Int) (seenZ0 : List Int) (rcZ0 : List TLink → List Int → Int → Int → Int → Int → List Int → Option (List Int)) (ihZ0 : ∀ (linksZ0 : List TLink) (freeZ0 : List Int) (atZ0 : Int) (toZ0 : Int) (rateZ0 : Int) (kZ0 : Int) (seenZ0 : List Int) {r : List Int}, rcZ0 linksZ0 freeZ0 atZ0 toZ0 rateZ0 kZ0 seenZ0 = some r → Ok Try.prog 100 [.lst .o 3 (linksZ0.map (e_TLink .o)), .lst .o 1 (freeZ0.map AV.i), .i atZ0, .i toZ0, .i rateZ0, .i kZ0, .lst .o 1 (seenZ0.map AV.i)] ((fun r => .lst .u 1 (r.map AV.i)) r)) (sZ1 : Int) (o : Int ⊕ (Unit ⊕ (List Int))) (h : M_spec_l18FindL1 linksZ0 freeZ0 atZ0 toZ0 rateZ0 kZ0 seenZ0 rcZ0 sZ1 = some o) : AWP (OkS Try.prog) A100L5 (qL [0, 1, 2, 3, 4, 5, 6, 15] [] (S_spec_l18FindL1 linksZ0 freeZ0 atZ0 toZ0 rateZ0 kZ0 seenZ0) (qS (qX 0 [] [] (SX_spec_l18FindL1)) (qR V100 (fun r => .lst .u 1 (r.map AV.i)))) o) (S_spec_l18FindL1 linksZ0 freeZ0 atZ0 toZ0 rateZ0 kZ0 seenZ0 sZ1) := by
  unfold M_spec_l18FindL1 at h
  simp only [S_spec_l18FindL1, A100L5]
  obtain ⟨oZ3, hoZ3, h⟩ := bind_s h
  try simp only [VS1, VS2, VS3, VS4, VS5, VS6, VT1, VT2, finM_ret, finM_nrm, decide_true, decide_false, List.nodup_nil, List.nodup_cons, oks_p, oks_m, Nat.reduceSub, Nat.reduceMul, ↓reduceIte, reduceCtorEq, Nat.reduceEqDiff, Nat.reduceAdd, Nat.reduceLeDiff, Int.reduceLE]
  refine join_rule0 (sh := (fun v => ⟨[(0, .lst .o 3 (linksZ0.map (e_TLink .o))), (1, .lst .o 1 (freeZ0.map AV.i)), (2, .i atZ0), (3, .i toZ0), (4, .i rateZ0), (5, .i kZ0), (6, .lst .o 1 (seenZ0.map AV.i)), (15, .i sZ1), (25, .b v)], []⟩)) (s := oZ3) ?_ ?_
  · replace h := hoZ3
    refine Or.elim (bt (decide (sZ1 < (linksZ0.length : Int)))) (fun cZ2 => ?_) (fun cZ2 => ?_)
    · replace h := cond_t cZ2 h
      cases h
      try simp only [VS1, VS2, VS3, VS4, VS5, VS6, VT1, VT2, finM_ret, finM_nrm, decide_true, decide_false, List.nodup_nil, List.nodup_cons, oks_p, oks_m, Nat.reduceSub, Nat.reduceMul, ↓reduceIte, reduceCtorEq, Nat.reduceEqDiff, Nat.reduceAdd, Nat.reduceLeDiff, Int.reduceLE, cZ2]
      all_goals simp [qL, qJ, qJ0, qS, qX, qR, qM, Shp, sub, VS1, VS2, VS3, VS4, VS5, VS6, VT1, VT2]
    · replace h := cond_f cZ2 h
      cases h
      try simp only [VS1, VS2, VS3, VS4, VS5, VS6, VT1, VT2, finM_ret, finM_nrm, decide_true, decide_false, List.nodup_nil, List.nodup_cons, oks_p, oks_m, Nat.reduceSub, Nat.reduceMul, ↓reduceIte, reduceCtorEq, Nat.reduceEqDiff, Nat.reduceAdd, Nat.reduceLeDiff, Int.reduceLE, cZ2]
      all_goals simp [qL, qJ, qJ0, qS, qX, qR, qM, Shp, sub, VS1, VS2, VS3, VS4, VS5, VS6, VT1, VT2]
  · simp only [A100R1]
    refine Or.elim (bt (oZ3)) (fun cZ4 => ?_) (fun cZ4 => ?_)
    · replace h := cond_t cZ4 h
      obtain ⟨oZ7, hoZ7, h⟩ := bind_s h
      try simp only [VS1, VS2, VS3, VS4, VS5, VS6, VT1, VT2, finM_ret, finM_nrm, decide_true, decide_false, List.nodup_nil, List.nodup_cons, oks_p, oks_m, Nat.reduceSub, Nat.reduceMul, ↓reduceIte, reduceCtorEq, Nat.reduceEqDiff, Nat.reduceAdd, Nat.reduceLeDiff, Int.reduceLE, cZ4]
      refine join_rule0 (sh := (fun v => ⟨[(0, .lst .o 3 (linksZ0.map (e_TLink .o))), (1, .lst .o 1 (freeZ0.map AV.i)), (2, .i atZ0), (3, .i toZ0), (4, .i rateZ0), (5, .i kZ0), (6, .lst .o 1 (seenZ0.map AV.i)), (15, .i sZ1), (16, .i v)], []⟩)) (s := oZ7) ?_ ?_
      · replace h := hoZ7
        obtain ⟨yZ5, hyZ5, h⟩ := bind_s h
        obtain ⟨hyZ5a, hyZ5b⟩ := geti_s hyZ5
        refine Or.elim (bt (yZ5.A == atZ0)) (fun cZ6 => ?_) (fun cZ6 => ?_)
        · replace h := cond_t cZ6 h
          cases h
          try simp only [VS1, VS2, VS3, VS4, VS5, VS6, VT1, VT2, finM_ret, finM_nrm, decide_true, decide_false, List.nodup_nil, List.nodup_cons, oks_p, oks_m, Nat.reduceSub, Nat.reduceMul, ↓reduceIte, reduceCtorEq, Nat.reduceEqDiff, Nat.reduceAdd, Nat.reduceLeDiff, Int.reduceLE, cZ4, hyZ5a, hyZ5b, cZ6]
          all_goals simp [qL, qJ, qJ0, qS, qX, qR, qM, Shp, sub, VS1, VS2, VS3, VS4, VS5, VS6, VT1, VT2]
        · replace h := cond_f cZ6 h
          cases h
          try simp only [VS1, VS2, VS3, VS4, VS5, VS6, VT1, VT2, finM_ret, finM_nrm, decide_true, decide_false, List.nodup_nil, List.nodup_cons, oks_p, oks_m, Nat.reduceSub, Nat.reduceMul, ↓reduceIte, reduceCtorEq, Nat.reduceEqDiff, Nat.reduceAdd, Nat.reduceLeDiff, Int.reduceLE, cZ4, hyZ5a, hyZ5b, cZ6]
          all_goals simp [qL, qJ, qJ0, qS, qX, qR, qM, Shp, sub, VS1, VS2, VS3, VS4, VS5, VS6, VT1, VT2]
      · simp only [A100R2]
        obtain ⟨oZ10, hoZ10, h⟩ := bind_s h
        try simp only [VS1, VS2, VS3, VS4, VS5, VS6, VT1, VT2, finM_ret, finM_nrm, decide_true, decide_false, List.nodup_nil, List.nodup_cons, oks_p, oks_m, Nat.reduceSub, Nat.reduceMul, ↓reduceIte, reduceCtorEq, Nat.reduceEqDiff, Nat.reduceAdd, Nat.reduceLeDiff, Int.reduceLE, cZ4]
        refine join_rule0 (sh := (fun v => ⟨[(0, .lst .o 3 (linksZ0.map (e_TLink .o))), (1, .lst .o 1 (freeZ0.map AV.i)), (2, .i atZ0), (3, .i toZ0), (4, .i rateZ0), (5, .i kZ0), (6, .lst .o 1 (seenZ0.map AV.i)), (15, .i sZ1), (16, .i v)], []⟩)) (s := oZ10) ?_ ?_
        · replace h := hoZ10
          obtain ⟨yZ8, hyZ8, h⟩ := bind_s h
          obtain ⟨hyZ8a, hyZ8b⟩ := geti_s hyZ8
          refine Or.elim (bt (yZ8.B == atZ0)) (fun cZ9 => ?_) (fun cZ9 => ?_)
          · replace h := cond_t cZ9 h
            cases h
            try simp only [VS1, VS2, VS3, VS4, VS5, VS6, VT1, VT2, finM_ret, finM_nrm, decide_true, decide_false, List.nodup_nil, List.nodup_cons, oks_p, oks_m, Nat.reduceSub, Nat.reduceMul, ↓reduceIte, reduceCtorEq, Nat.reduceEqDiff, Nat.reduceAdd, Nat.reduceLeDiff, Int.reduceLE, cZ4, hyZ8a, hyZ8b, cZ9]
            all_goals simp [qL, qJ, qJ0, qS, qX, qR, qM, Shp, sub, VS1, VS2, VS3, VS4, VS5, VS6, VT1, VT2]
          · replace h := cond_f cZ9 h
            cases h
            try simp only [VS1, VS2, VS3, VS4, VS5, VS6, VT1, VT2, finM_ret, finM_nrm, decide_true, decide_false, List.nodup_nil, List.nodup_cons, oks_p, oks_m, Nat.reduceSub, Nat.reduceMul, ↓reduceIte, reduceCtorEq, Nat.reduceEqDiff, Nat.reduceAdd, Nat.reduceLeDiff, Int.reduceLE, cZ4, hyZ8a, hyZ8b, cZ9]
            all_goals simp [qL, qJ, qJ0, qS, qX, qR, qM, Shp, sub, VS1, VS2, VS3, VS4, VS5, VS6, VT1, VT2]
        · simp only [A100R3]
          obtain ⟨oZ15, hoZ15, h⟩ := bind_s h
          try simp only [VS1, VS2, VS3, VS4, VS5, VS6, VT1, VT2, finM_ret, finM_nrm, decide_true, decide_false, List.nodup_nil, List.nodup_cons, oks_p, oks_m, Nat.reduceSub, Nat.reduceMul, ↓reduceIte, reduceCtorEq, Nat.reduceEqDiff, Nat.reduceAdd, Nat.reduceLeDiff, Int.reduceLE, cZ4]
          refine join_rule0 (sh := (fun v => ⟨[(0, .lst .o 3 (linksZ0.map (e_TLink .o))), (1, .lst .o 1 (freeZ0.map AV.i)), (2, .i atZ0), (3, .i toZ0), (4, .i rateZ0), (5, .i kZ0), (6, .lst .o 1 (seenZ0.map AV.i)), (15, .i sZ1), (16, .i oZ10), (66, .b v)], []⟩)) (s := oZ15) ?_ ?_
          · replace h := hoZ15
            refine Or.elim (bt (decide (oZ10 < 0))) (fun cZ11 => ?_) (fun cZ11 => ?_)
            · replace h := cond_t cZ11 h
              cases h
              try simp only [VS1, VS2, VS3, VS4, VS5, VS6, VT1, VT2, finM_ret, finM_nrm, decide_true, decide_false, List.nodup_nil, List.nodup_cons, oks_p, oks_m, Nat.reduceSub, Nat.reduceMul, ↓reduceIte, reduceCtorEq, Nat.reduceEqDiff, Nat.reduceAdd, Nat.reduceLeDiff, Int.reduceLE, cZ4, cZ11]
              all_goals simp [qL, qJ, qJ0, qS, qX, qR, qM, Shp, sub, VS1, VS2, VS3, VS4, VS5, VS6, VT1, VT2]
            · replace h := cond_f cZ11 h
              obtain ⟨yZ12, hyZ12, h⟩ := bind_s h
              obtain ⟨hyZ12a, hyZ12b⟩ := geti_s hyZ12
              refine Or.elim (bt (decide (yZ12 < rateZ0))) (fun cZ13 => ?_) (fun cZ13 => ?_)
              · replace h := cond_t cZ13 h
                cases h
                try simp only [VS1, VS2, VS3, VS4, VS5, VS6, VT1, VT2, finM_ret, finM_nrm, decide_true, decide_false, List.nodup_nil, List.nodup_cons, oks_p, oks_m, Nat.reduceSub, Nat.reduceMul, ↓reduceIte, reduceCtorEq, Nat.reduceEqDiff, Nat.reduceAdd, Nat.reduceLeDiff, Int.reduceLE, cZ4, cZ11, hyZ12a, hyZ12b, cZ13]
                all_goals simp [qL, qJ, qJ0, qS, qX, qR, qM, Shp, sub, VS1, VS2, VS3, VS4, VS5, VS6, VT1, VT2]
              · replace h := cond_f cZ13 h
                obtain ⟨rZ14, hrZ14, h⟩ := bind_s h
                simp only [VS1, VS2, VS3, VS4, VS5, VS6, VT1, VT2, finM_ret, finM_nrm, decide_true, decide_false, List.nodup_nil, List.nodup_cons, oks_p, oks_m, Nat.reduceSub, Nat.reduceMul, ↓reduceIte, reduceCtorEq, Nat.reduceEqDiff, Nat.reduceAdd, Nat.reduceLeDiff, Int.reduceLE, cZ4, cZ11, hyZ12a, hyZ12b, cZ13]
                refine call_s (by simp only [VS1, VS2, VS3, VS4, VS5, VS6, VT1, VT2, finM_ret, finM_nrm, decide_true, decide_false, List.nodup_nil, List.nodup_cons, oks_p, oks_m, Nat.reduceSub, Nat.reduceMul, ↓reduceIte, reduceCtorEq, Nat.reduceEqDiff, Nat.reduceAdd, Nat.reduceLeDiff, Int.reduceLE, cZ4, cZ11, hyZ12a, hyZ12b, cZ13]; exact w_spec_l1Has _ _ hrZ14 ) ?_
                simp only [VA, VF1, ↓reduceIte, Nat.reduceEqDiff, Nat.reduceAdd, Nat.reduceMul, Nat.reduceSub, Nat.reduceLeDiff]
                cases h
                try simp only [VS1, VS2, VS3, VS4, VS5, VS6, VT1, VT2, finM_ret, finM_nrm, decide_true, decide_false, List.nodup_nil, List.nodup_cons, oks_p, oks_m, Nat.reduceSub, Nat.reduceMul, ↓reduceIte, reduceCtorEq, Nat.reduceEqDiff, Nat.reduceAdd, Nat.reduceLeDiff, Int.reduceLE, cZ4, cZ11, hyZ12a, hyZ12b, cZ13]
                all_goals simp [qL, qJ, qJ0, qS, qX, qR, qM, Shp, sub, VS1, VS2, VS3, VS4, VS5, VS6, VT1, VT2]
          · simp only [A100R4]
            refine Or.elim (bt (oZ15)) (fun cZ16 => ?_) (fun cZ16 => ?_)
            · replace h := cond_t cZ16 h
              cases h
              try simp only [VS1, VS2, VS3, VS4, VS5, VS6, VT1, VT2, finM_ret, finM_nrm, decide_true, decide_false, List.nodup_nil, List.nodup_cons, oks_p, oks_m, Nat.reduceSub, Nat.reduceMul, ↓reduceIte, reduceCtorEq, Nat.reduceEqDiff, Nat.reduceAdd, Nat.reduceLeDiff, Int.reduceLE, cZ4, cZ16]
              all_goals simp [qL, qJ, qJ0, qS, qX, qR, qM, Shp, sub, VS1, VS2, VS3, VS4, VS5, VS6, VT1, VT2, S_spec_l18FindL1, SX_spec_l18FindL1]
            · replace h := cond_f cZ16 h
              refine Or.elim (bt (oZ10 == toZ0)) (fun cZ17 => ?_) (fun cZ17 => ?_)
              · replace h := cond_t cZ17 h
                refine Or.elim (bt (kZ0 == 1)) (fun cZ18 => ?_) (fun cZ18 => ?_)
                · replace h := cond_t cZ18 h
                  obtain ⟨lZ19, hlZ19, h⟩ := bnd_s h
                  have eZ20 : Row.arr 1 [(.i sZ1 : AV)] = Row.arr 1 (lZ19.map AV.i) := by rw [← hlZ19]; rfl
                  have eZ21 : lZ19.length = 1 := by rw [← hlZ19]; rfl
                  have nZ22 : sub (lZ19.map AV.i) 0 1 = lZ19.map AV.i := sub_n _ (by simp [← hlZ19])
                  cases h
                  try simp only [VS1, VS2, VS3, VS4, VS5, VS6, VT1, VT2, finM_ret, finM_nrm, decide_true, decide_false, List.nodup_nil, List.nodup_cons, oks_p, oks_m, Nat.reduceSub, Nat.reduceMul, ↓reduceIte, reduceCtorEq, Nat.reduceEqDiff, Nat.reduceAdd, Nat.reduceLeDiff, Int.reduceLE, cZ4, cZ16, cZ17, cZ18, eZ20, eZ21, nZ22]
                  all_goals simp [qL, qJ, qJ0, qS, qX, qR, qM, Shp, sub, VS1, VS2, VS3, VS4, VS5, VS6, VT1, VT2, V100, ← hlZ19]
                · replace h := cond_f cZ18 h
                  cases h
                  try simp only [VS1, VS2, VS3, VS4, VS5, VS6, VT1, VT2, finM_ret, finM_nrm, decide_true, decide_false, List.nodup_nil, List.nodup_cons, oks_p, oks_m, Nat.reduceSub, Nat.reduceMul, ↓reduceIte, reduceCtorEq, Nat.reduceEqDiff, Nat.reduceAdd, Nat.reduceLeDiff, Int.reduceLE, cZ4, cZ16, cZ17, cZ18]
                  all_goals simp [qL, qJ, qJ0, qS, qX, qR, qM, Shp, sub, VS1, VS2, VS3, VS4, VS5, VS6, VT1, VT2, S_spec_l18FindL1, SX_spec_l18FindL1]
              · replace h := cond_f cZ17 h
                obtain ⟨rZ23, hrZ23, h⟩ := bind_s h
                simp only [VS1, VS2, VS3, VS4, VS5, VS6, VT1, VT2, finM_ret, finM_nrm, decide_true, decide_false, List.nodup_nil, List.nodup_cons, oks_p, oks_m, Nat.reduceSub, Nat.reduceMul, ↓reduceIte, reduceCtorEq, Nat.reduceEqDiff, Nat.reduceAdd, Nat.reduceLeDiff, Int.reduceLE, cZ4, cZ16, cZ17]
                refine call_u (by simp only [VS1, VS2, VS3, VS4, VS5, VS6, VT1, VT2, finM_ret, finM_nrm, decide_true, decide_false, List.nodup_nil, List.nodup_cons, oks_p, oks_m, Nat.reduceSub, Nat.reduceMul, ↓reduceIte, reduceCtorEq, Nat.reduceEqDiff, Nat.reduceAdd, Nat.reduceLeDiff, Int.reduceLE, cZ4, cZ16, cZ17]; exact w_spec_l1Own _ hrZ23 ) (by simp [AV.allU, allUL, allUL_iff, VT1, VT2]) (by simp only [VS1, VS2, VS3, VS4, VS5, VS6, VT1, VT2, finM_ret, finM_nrm, decide_true, decide_false, List.nodup_nil, List.nodup_cons, oks_p, oks_m, Nat.reduceSub, Nat.reduceMul, ↓reduceIte, reduceCtorEq, Nat.reduceEqDiff, Nat.reduceAdd, Nat.reduceLeDiff, Int.reduceLE, Nat.reduceLT]) ?_
                simp only [VA, VF1, ↓reduceIte, Nat.reduceEqDiff, Nat.reduceAdd, Nat.reduceMul, Nat.reduceSub, Nat.reduceLeDiff]
                obtain ⟨lZ24, hlZ24, h⟩ := bnd_s h
                have eZ25 : Row.arr 1 [(.i oZ10 : AV)] = Row.arr 1 (lZ24.map AV.i) := by rw [← hlZ24]; rfl
                have eZ26 : lZ24.length = 1 := by rw [← hlZ24]; rfl
                obtain ⟨uZ27, huZ27, h⟩ := bind_s h
                have huZ27g := grd_s huZ27
                obtain ⟨lZ28, hlZ28, h⟩ := bnd_s h
                have eZ29 : rZ23.map AV.i ++ lZ24.map AV.i = lZ28.map AV.i := by rw [← hlZ28, List.map_append]
                have eZ30 : rZ23.length + 1 = lZ28.length := by simp [← hlZ24, ← hlZ28] <;> omega
                rw [eZ30] at huZ27g
                obtain ⟨rZ31, hrZ31, h⟩ := bind_s h
                simp only [VS1, VS2, VS3, VS4, VS5, VS6, VT1, VT2, finM_ret, finM_nrm, decide_true, decide_false, List.nodup_nil, List.nodup_cons, oks_p, oks_m, Nat.reduceSub, Nat.reduceMul, ↓reduceIte, reduceCtorEq, Nat.reduceEqDiff, Nat.reduceAdd, Nat.reduceLeDiff, Int.reduceLE, cZ4, cZ16, cZ17, eZ25, eZ26, huZ27g, eZ29, eZ30]
                refine call_u (by simp only [VS1, VS2, VS3, VS4, VS5, VS6, VT1, VT2, finM_ret, finM_nrm, decide_true, decide_false, List.nodup_nil, List.nodup_cons, oks_p, oks_m, Nat.reduceSub, Nat.reduceMul, ↓reduceIte, reduceCtorEq, Nat.reduceEqDiff, Nat.reduceAdd, Nat.reduceLeDiff, Int.reduceLE, cZ4, cZ16, cZ17, eZ25, eZ26, huZ27g, eZ29, eZ30]; exact ihZ0 _ _ _ _ _ _ _ hrZ31 ) (by simp [AV.allU, allUL, allUL_iff, VT1, VT2]) (by simp only [VS1, VS2, VS3, VS4, VS5, VS6, VT1, VT2, finM_ret, finM_nrm, decide_true, decide_false, List.nodup_nil, List.nodup_cons, oks_p, oks_m, Nat.reduceSub, Nat.reduceMul, ↓reduceIte, reduceCtorEq, Nat.reduceEqDiff, Nat.reduceAdd, Nat.reduceLeDiff, Int.reduceLE, Nat.reduceLT]) ?_
                simp only [VA, VF1, ↓reduceIte, Nat.reduceEqDiff, Nat.reduceAdd, Nat.reduceMul, Nat.reduceSub, Nat.reduceLeDiff]
                refine Or.elim (bt (decide (0 < (rZ31.length : Int)))) (fun cZ32 => ?_) (fun cZ32 => ?_)
                · replace h := cond_t cZ32 h
                  obtain ⟨lZ33, hlZ33, h⟩ := bnd_s h
                  have eZ34 : Row.arr 1 [(.i sZ1 : AV)] = Row.arr 1 (lZ33.map AV.i) := by rw [← hlZ33]; rfl
                  have eZ35 : lZ33.length = 1 := by rw [← hlZ33]; rfl
                  have nZ36 : sub (lZ33.map AV.i) 0 1 = lZ33.map AV.i := sub_n _ (by simp [← hlZ24, ← hlZ28, ← hlZ33])
                  obtain ⟨uZ37, huZ37, h⟩ := bind_s h
                  have huZ37g := grd_s huZ37
                  obtain ⟨lZ38, hlZ38, h⟩ := bnd_s h
                  have eZ39 : lZ33.map AV.i ++ rZ31.map AV.i = lZ38.map AV.i := by rw [← hlZ38, List.map_append]
                  have eZ40 : 1 + rZ31.length = lZ38.length := by simp [← hlZ24, ← hlZ28, ← hlZ33, ← hlZ38] <;> omega
                  rw [eZ40] at huZ37g
                  cases h
                  try simp only [VS1, VS2, VS3, VS4, VS5, VS6, VT1, VT2, finM_ret, finM_nrm, decide_true, decide_false, List.nodup_nil, List.nodup_cons, oks_p, oks_m, Nat.reduceSub, Nat.reduceMul, ↓reduceIte, reduceCtorEq, Nat.reduceEqDiff, Nat.reduceAdd, Nat.reduceLeDiff, Int.reduceLE, cZ4, cZ16, cZ17, eZ25, eZ26, huZ27g, eZ29, eZ30, cZ32, eZ34, eZ35, nZ36, huZ37g, eZ39, eZ40]
                  all_goals simp [qL, qJ, qJ0, qS, qX, qR, qM, Shp, sub, VS1, VS2, VS3, VS4, VS5, VS6, VT1, VT2, V100, ← hlZ24, ← hlZ28, ← hlZ33, ← hlZ38]
                · replace h := cond_f cZ32 h
                  cases h
                  try simp only [VS1, VS2, VS3, VS4, VS5, VS6, VT1, VT2, finM_ret, finM_nrm, decide_true, decide_false, List.nodup_nil, List.nodup_cons, oks_p, oks_m, Nat.reduceSub, Nat.reduceMul, ↓reduceIte, reduceCtorEq, Nat.reduceEqDiff, Nat.reduceAdd, Nat.reduceLeDiff, Int.reduceLE, cZ4, cZ16, cZ17, eZ25, eZ26, huZ27g, eZ29, eZ30, cZ32]
                  all_goals simp [qL, qJ, qJ0, qS, qX, qR, qM, Shp, sub, VS1, VS2, VS3, VS4, VS5, VS6, VT1, VT2, S_spec_l18FindL1, SX_spec_l18FindL1, ← hlZ24, ← hlZ28]
    · replace h := cond_f cZ4 h
      cases h
      try simp only [VS1, VS2, VS3, VS4, VS5, VS6, VT1, VT2, finM_ret, finM_nrm, decide_true, decide_false, List.nodup_nil, List.nodup_cons, oks_p, oks_m, Nat.reduceSub, Nat.reduceMul, ↓reduceIte, reduceCtorEq, Nat.reduceEqDiff, Nat.reduceAdd, Nat.reduceLeDiff, Int.reduceLE, cZ4]
      all_goals simp [qL, qJ, qJ0, qS, qX, qR, qM, Shp, sub, VS1, VS2, VS3, VS4, VS5, VS6, VT1, VT2, S_spec_l18FindL1, SX_spec_l18FindL1]
theorem wB_spec_l18Find (rcZ0 : List TLink → List Int → Int → Int → Int → Int → List Int → Option (List Int)) (ihZ0 : ∀ (linksZ0 : List TLink) (freeZ0 : List Int) (atZ0 : Int) (toZ0 : Int) (rateZ0 : Int) (kZ0 : Int) (seenZ0 : List Int) {r : List Int}, rcZ0 linksZ0 freeZ0 atZ0 toZ0 rateZ0 kZ0 seenZ0 = some r → Ok Try.prog 100 [.lst .o 3 (linksZ0.map (e_TLink .o)), .lst .o 1 (freeZ0.map AV.i), .i atZ0, .i toZ0, .i rateZ0, .i kZ0, .lst .o 1 (seenZ0.map AV.i)] ((fun r => .lst .u 1 (r.map AV.i)) r)) (linksZ0 : List TLink) (freeZ0 : List Int) (atZ0 : Int) (toZ0 : Int) (rateZ0 : Int) (kZ0 : Int) (seenZ0 : List Int) {r : List Int} (h : M_spec_l18Find_B rcZ0 linksZ0 freeZ0 atZ0 toZ0 rateZ0 kZ0 seenZ0 = some r) : Ok Try.prog 100 [.lst .o 3 (linksZ0.map (e_TLink .o)), .lst .o 1 (freeZ0.map AV.i), .i atZ0, .i toZ0, .i rateZ0, .i kZ0, .lst .o 1 (seenZ0.map AV.i)] ((fun r => .lst .u 1 (r.map AV.i)) r) := by
  refine ok_of_body hmix m100 rfl ?_
  unfold M_spec_l18Find_B at h
  simp only [A100, V100, body_eq]
  obtain ⟨oZ41, hoZ41, h⟩ := bind_s h
  try simp only [VS1, VS2, VS3, VS4, VS5, VS6, VT1, VT2, finM_ret, finM_nrm, decide_true, decide_false, List.nodup_nil, List.nodup_cons, oks_p, oks_m, Nat.reduceSub, Nat.reduceMul, ↓reduceIte, reduceCtorEq, Nat.reduceEqDiff, Nat.reduceAdd, Nat.reduceLeDiff, Int.reduceLE]
  refine join_rule (o := oZ41) (blk_rule sideR (loop_rule (w_spec_l18FindL1 linksZ0 freeZ0 atZ0 toZ0 rateZ0 kZ0 seenZ0 rcZ0 ihZ0) hoZ41 ?_)) (fun vZ42 hv => ?_) (fun xZ43 hv e τ hne hq => ?_)
  · all_goals simp [qL, qJ, qJ0, qS, qX, qR, qM, Shp, sub, VS1, VS2, VS3, VS4, VS5, VS6, VT1, VT2, S_spec_l18FindL1, SX_spec_l18FindL1]
  · subst hv
    simp only [] at h
    simp only [SX_spec_l18FindL1, A100R6]
    cases h
    try simp only [VS1, VS2, VS3, VS4, VS5, VS6, VT1, VT2, finM_ret, finM_nrm, decide_true, decide_false, List.nodup_nil, List.nodup_cons, oks_p, oks_m, Nat.reduceSub, Nat.reduceMul, ↓reduceIte, reduceCtorEq, Nat.reduceEqDiff, Nat.reduceAdd, Nat.reduceLeDiff, Int.reduceLE]
    all_goals simp [qL, qJ, qJ0, qS, qX, qR, qM, Shp, sub, VS1, VS2, VS3, VS4, VS5, VS6, VT1, VT2, V100]
  · subst hv
    simp only [] at h
    obtain ⟨rfl, qZ44⟩ := hq
    cases h
    exact qZ44
theorem w_spec_l18Find : ∀ (n : Nat) (linksZ0 : List TLink) (freeZ0 : List Int) (atZ0 : Int) (toZ0 : Int) (rateZ0 : Int) (kZ0 : Int) (seenZ0 : List Int) {r : List Int} (_ : M_spec_l18Find n linksZ0 freeZ0 atZ0 toZ0 rateZ0 kZ0 seenZ0 = some r), Ok Try.prog 100 [.lst .o 3 (linksZ0.map (e_TLink .o)), .lst .o 1 (freeZ0.map AV.i), .i atZ0, .i toZ0, .i rateZ0, .i kZ0, .lst .o 1 (seenZ0.map AV.i)] ((fun r => .lst .u 1 (r.map AV.i)) r)
  | 0, linksZ0, freeZ0, atZ0, toZ0, rateZ0, kZ0, seenZ0, _, h => by cases h
  | n + 1, linksZ0, freeZ0, atZ0, toZ0, rateZ0, kZ0, seenZ0, _, h => wB_spec_l18Find (M_spec_l18Find n) (w_spec_l18Find n) linksZ0 freeZ0 atZ0 toZ0 rateZ0 kZ0 seenZ0 h
def S_spec_l18RouteL1 (linksZ0 : List TLink) (freeZ0 : List Int) (tZ0 : TTributary) (v : Int) : St := ⟨[(0, .lst .o 3 (linksZ0.map (e_TLink .o))), (1, .lst .o 1 (freeZ0.map AV.i)), (5, .pt 5 0 0), (7, .i v)], [(5, .var (.agg [.i tZ0.From, .i tZ0.To, .i tZ0.Rate]))]⟩
def SX_spec_l18RouteL1 (v : Unit) : St := ⟨[], []⟩
theorem w_spec_l18RouteL1 (linksZ0 : List TLink) (freeZ0 : List Int) (tZ0 : TTributary) (sZ1 : Int) (o : Int ⊕ (Unit ⊕ (List Int))) (h : M_spec_l18RouteL1 linksZ0 freeZ0 tZ0 sZ1 = some o) : AWP (OkS Try.prog) A68L1 (qL [0, 1, 5, 7] [5] (S_spec_l18RouteL1 linksZ0 freeZ0 tZ0) (qS (qX 0 [] [] (SX_spec_l18RouteL1)) (qR V68 (fun r => .lst .u 1 (r.map AV.i)))) o) (S_spec_l18RouteL1 linksZ0 freeZ0 tZ0 sZ1) := by
  unfold M_spec_l18RouteL1 at h
  simp only [S_spec_l18RouteL1, A68L1]
  refine Or.elim (bt (decide (sZ1 < 8))) (fun cZ2 => ?_) (fun cZ2 => ?_)
  · replace h := cond_t cZ2 h
    obtain ⟨lZ3, hlZ3, h⟩ := bnd_s h
    have eZ4 : Row.arr 1 [(.i tZ0.From : AV)] = Row.arr 1 (lZ3.map AV.i) := by rw [← hlZ3]; rfl
    have eZ5 : lZ3.length = 1 := by rw [← hlZ3]; rfl
    have nZ6 : sub (lZ3.map AV.i) 0 1 = lZ3.map AV.i := sub_n _ (by simp [← hlZ3])
    obtain ⟨rZ7, hrZ7, h⟩ := bind_s h
    simp only [VS1, VS2, VS3, VS4, VS5, VS6, VT1, VT2, finM_ret, finM_nrm, decide_true, decide_false, List.nodup_nil, List.nodup_cons, oks_p, oks_m, Nat.reduceSub, Nat.reduceMul, ↓reduceIte, reduceCtorEq, Nat.reduceEqDiff, Nat.reduceAdd, Nat.reduceLeDiff, Int.reduceLE, cZ2, eZ4, eZ5, nZ6]
    refine call_u (by simp only [VS1, VS2, VS3, VS4, VS5, VS6, VT1, VT2, finM_ret, finM_nrm, decide_true, decide_false, List.nodup_nil, List.nodup_cons, oks_p, oks_m, Nat.reduceSub, Nat.reduceMul, ↓reduceIte, reduceCtorEq, Nat.reduceEqDiff, Nat.reduceAdd, Nat.reduceLeDiff, Int.reduceLE, cZ2, eZ4, eZ5, nZ6]; exact w_spec_l18Find N0 _ _ _ _ _ _ _ hrZ7 ) (by simp [AV.allU, allUL, allUL_iff, VT1, VT2]) (by simp only [VS1, VS2, VS3, VS4, VS5, VS6, VT1, VT2, finM_ret, finM_nrm, decide_true, decide_false, List.nodup_nil, List.nodup_cons, oks_p, oks_m, Nat.reduceSub, Nat.reduceMul, ↓reduceIte, reduceCtorEq, Nat.reduceEqDiff, Nat.reduceAdd, Nat.reduceLeDiff, Int.reduceLE, Nat.reduceLT]) ?_
    simp only [VA, VF1, ↓reduceIte, Nat.reduceEqDiff, Nat.reduceAdd, Nat.reduceMul, Nat.reduceSub, Nat.reduceLeDiff]
    refine Or.elim (bt (decide (0 < (rZ7.length : Int)))) (fun cZ8 => ?_) (fun cZ8 => ?_)
    · replace h := cond_t cZ8 h
      cases h
      try simp only [VS1, VS2, VS3, VS4, VS5, VS6, VT1, VT2, finM_ret, finM_nrm, decide_true, decide_false, List.nodup_nil, List.nodup_cons, oks_p, oks_m, Nat.reduceSub, Nat.reduceMul, ↓reduceIte, reduceCtorEq, Nat.reduceEqDiff, Nat.reduceAdd, Nat.reduceLeDiff, Int.reduceLE, cZ2, eZ4, eZ5, nZ6, cZ8]
      all_goals simp [qL, qJ, qJ0, qS, qX, qR, qM, Shp, sub, VS1, VS2, VS3, VS4, VS5, VS6, VT1, VT2, V68, ← hlZ3]
    · replace h := cond_f cZ8 h
      cases h
      try simp only [VS1, VS2, VS3, VS4, VS5, VS6, VT1, VT2, finM_ret, finM_nrm, decide_true, decide_false, List.nodup_nil, List.nodup_cons, oks_p, oks_m, Nat.reduceSub, Nat.reduceMul, ↓reduceIte, reduceCtorEq, Nat.reduceEqDiff, Nat.reduceAdd, Nat.reduceLeDiff, Int.reduceLE, cZ2, eZ4, eZ5, nZ6, cZ8]
      all_goals simp [qL, qJ, qJ0, qS, qX, qR, qM, Shp, sub, VS1, VS2, VS3, VS4, VS5, VS6, VT1, VT2, S_spec_l18RouteL1, SX_spec_l18RouteL1, ← hlZ3]
  · replace h := cond_f cZ2 h
    cases h
    try simp only [VS1, VS2, VS3, VS4, VS5, VS6, VT1, VT2, finM_ret, finM_nrm, decide_true, decide_false, List.nodup_nil, List.nodup_cons, oks_p, oks_m, Nat.reduceSub, Nat.reduceMul, ↓reduceIte, reduceCtorEq, Nat.reduceEqDiff, Nat.reduceAdd, Nat.reduceLeDiff, Int.reduceLE, cZ2]
    all_goals simp [qL, qJ, qJ0, qS, qX, qR, qM, Shp, sub, VS1, VS2, VS3, VS4, VS5, VS6, VT1, VT2, S_spec_l18RouteL1, SX_spec_l18RouteL1]
theorem w_spec_l18Route (linksZ0 : List TLink) (freeZ0 : List Int) (tZ0 : TTributary) {r : List Int} (h : M_spec_l18Route linksZ0 freeZ0 tZ0 = some r) : Ok Try.prog 68 [.lst .o 3 (linksZ0.map (e_TLink .o)), .lst .o 1 (freeZ0.map AV.i), .agg [.i tZ0.From, .i tZ0.To, .i tZ0.Rate]] ((fun r => .lst .u 1 (r.map AV.i)) r) := by
  refine ok_of_body hmix m68 rfl ?_
  unfold M_spec_l18Route at h
  simp only [A68, V68, body_eq]
  obtain ⟨oZ9, hoZ9, h⟩ := bind_s h
  try simp only [VS1, VS2, VS3, VS4, VS5, VS6, VT1, VT2, finM_ret, finM_nrm, decide_true, decide_false, List.nodup_nil, List.nodup_cons, oks_p, oks_m, Nat.reduceSub, Nat.reduceMul, ↓reduceIte, reduceCtorEq, Nat.reduceEqDiff, Nat.reduceAdd, Nat.reduceLeDiff, Int.reduceLE]
  refine join_rule (o := oZ9) (blk_rule sideR (loop_rule (w_spec_l18RouteL1 linksZ0 freeZ0 tZ0) hoZ9 ?_)) (fun vZ10 hv => ?_) (fun xZ11 hv e τ hne hq => ?_)
  · all_goals simp [qL, qJ, qJ0, qS, qX, qR, qM, Shp, sub, VS1, VS2, VS3, VS4, VS5, VS6, VT1, VT2, S_spec_l18RouteL1, SX_spec_l18RouteL1]
  · subst hv
    simp only [] at h
    simp only [SX_spec_l18RouteL1, A68R2]
    cases h
    try simp only [VS1, VS2, VS3, VS4, VS5, VS6, VT1, VT2, finM_ret, finM_nrm, decide_true, decide_false, List.nodup_nil, List.nodup_cons, oks_p, oks_m, Nat.reduceSub, Nat.reduceMul, ↓reduceIte, reduceCtorEq, Nat.reduceEqDiff, Nat.reduceAdd, Nat.reduceLeDiff, Int.reduceLE]
    all_goals simp [qL, qJ, qJ0, qS, qX, qR, qM, Shp, sub, VS1, VS2, VS3, VS4, VS5, VS6, VT1, VT2, V68]
  · subst hv
    simp only [] at h
    obtain ⟨rfl, qZ12⟩ := hq
    cases h
    exact qZ12
def S_spec_RouteTributaryL1 (linksZ0 : List TLink) (freeZ0 : List Int) (tZ0 : TTributary) (v : Int) : St := ⟨[(0, .lst .o 3 (linksZ0.map (e_TLink .o))), (1, .lst .o 1 (freeZ0.map AV.i)), (7, .pt 7 0 0), (11, .i v)], [(7, .var (.agg [.i tZ0.From, .i tZ0.To, .i tZ0.Rate]))]⟩
def SX_spec_RouteTributaryL1 (linksZ0 : List TLink) (freeZ0 : List Int) (tZ0 : TTributary) (v : Unit) : St := ⟨[(0, .lst .o 3 (linksZ0.map (e_TLink .o))), (1, .lst .o 1 (freeZ0.map AV.i)), (7, .pt 7 0 0)], [(7, .var (.agg [.i tZ0.From, .i tZ0.To, .i tZ0.Rate]))]⟩
theorem w_spec_RouteTributaryL1 (linksZ0 : List TLink) (freeZ0 : List Int) (tZ0 : TTributary) (sZ11 : Int) (o : Int ⊕ (Unit ⊕ (List Int × Bool × Bool))) (h : M_spec_RouteTributaryL1 freeZ0 sZ11 = some o) : AWP (OkS Try.prog) A26L2 (qL [0, 1, 7, 11] [7] (S_spec_RouteTributaryL1 linksZ0 freeZ0 tZ0) (qS (qX 0 [0, 1, 7] [7] (SX_spec_RouteTributaryL1 linksZ0 freeZ0 tZ0)) (qR V26 (fun r => .tup [.lst .u 1 (r.1.map AV.i), .b r.2.1, .b r.2.2]))) o) (S_spec_RouteTributaryL1 linksZ0 freeZ0 tZ0 sZ11) := by
  unfold M_spec_RouteTributaryL1 at h
  simp only [S_spec_RouteTributaryL1, A26L2]
  refine Or.elim (bt (decide (sZ11 < (freeZ0.length : Int)))) (fun cZ12 => ?_) (fun cZ12 => ?_)
  · replace h := cond_t cZ12 h
    obtain ⟨yZ13, hyZ13, h⟩ := bind_s h
    obtain ⟨hyZ13a, hyZ13b⟩ := geti_s hyZ13
    obtain ⟨rZ14, hrZ14, h⟩ := bind_s h
    simp only [VS1, VS2, VS3, VS4, VS5, VS6, VT1, VT2, finM_ret, finM_nrm, decide_true, decide_false, List.nodup_nil, List.nodup_cons, oks_p, oks_m, Nat.reduceSub, Nat.reduceMul, ↓reduceIte, reduceCtorEq, Nat.reduceEqDiff, Nat.reduceAdd, Nat.reduceLeDiff, Int.reduceLE, cZ12, hyZ13a, hyZ13b]
    refine call_s (by simp only [VS1, VS2, VS3, VS4, VS5, VS6, VT1, VT2, finM_ret, finM_nrm, decide_true, decide_false, List.nodup_nil, List.nodup_cons, oks_p, oks_m, Nat.reduceSub, Nat.reduceMul, ↓reduceIte, reduceCtorEq, Nat.reduceEqDiff, Nat.reduceAdd, Nat.reduceLeDiff, Int.reduceLE, cZ12, hyZ13a, hyZ13b]; exact w_spec_l1In _ _ _ hrZ14 ) ?_
    simp only [VA, VF1, ↓reduceIte, Nat.reduceEqDiff, Nat.reduceAdd, Nat.reduceMul, Nat.reduceSub, Nat.reduceLeDiff]
    refine Or.elim (bt (!rZ14)) (fun cZ15 => ?_) (fun cZ15 => ?_)
    · replace h := cond_t cZ15 h
      cases h
      try simp only [VS1, VS2, VS3, VS4, VS5, VS6, VT1, VT2, finM_ret, finM_nrm, decide_true, decide_false, List.nodup_nil, List.nodup_cons, oks_p, oks_m, Nat.reduceSub, Nat.reduceMul, ↓reduceIte, reduceCtorEq, Nat.reduceEqDiff, Nat.reduceAdd, Nat.reduceLeDiff, Int.reduceLE, cZ12, hyZ13a, hyZ13b, cZ15]
      all_goals simp [qL, qJ, qJ0, qS, qX, qR, qM, Shp, sub, VS1, VS2, VS3, VS4, VS5, VS6, VT1, VT2, V26]
    · replace h := cond_f cZ15 h
      cases h
      try simp only [VS1, VS2, VS3, VS4, VS5, VS6, VT1, VT2, finM_ret, finM_nrm, decide_true, decide_false, List.nodup_nil, List.nodup_cons, oks_p, oks_m, Nat.reduceSub, Nat.reduceMul, ↓reduceIte, reduceCtorEq, Nat.reduceEqDiff, Nat.reduceAdd, Nat.reduceLeDiff, Int.reduceLE, cZ12, hyZ13a, hyZ13b, cZ15]
      all_goals simp [qL, qJ, qJ0, qS, qX, qR, qM, Shp, sub, VS1, VS2, VS3, VS4, VS5, VS6, VT1, VT2, S_spec_RouteTributaryL1, SX_spec_RouteTributaryL1]
  · replace h := cond_f cZ12 h
    cases h
    try simp only [VS1, VS2, VS3, VS4, VS5, VS6, VT1, VT2, finM_ret, finM_nrm, decide_true, decide_false, List.nodup_nil, List.nodup_cons, oks_p, oks_m, Nat.reduceSub, Nat.reduceMul, ↓reduceIte, reduceCtorEq, Nat.reduceEqDiff, Nat.reduceAdd, Nat.reduceLeDiff, Int.reduceLE, cZ12]
    all_goals simp [qL, qJ, qJ0, qS, qX, qR, qM, Shp, sub, VS1, VS2, VS3, VS4, VS5, VS6, VT1, VT2, S_spec_RouteTributaryL1, SX_spec_RouteTributaryL1]
theorem w_spec_RouteTributary (linksZ0 : List TLink) (freeZ0 : List Int) (nodesZ0 : Int) (tZ0 : TTributary) {r : List Int × Bool × Bool} (h : M_spec_RouteTributary linksZ0 freeZ0 nodesZ0 tZ0 = some r) : Ok Try.prog 26 [.lst .o 3 (linksZ0.map (e_TLink .o)), .lst .o 1 (freeZ0.map AV.i), .i nodesZ0, .agg [.i tZ0.From, .i tZ0.To, .i tZ0.Rate]] ((fun r => .tup [.lst .u 1 (r.1.map AV.i), .b r.2.1, .b r.2.2]) r) := by
  refine ok_of_body hmix m26 rfl ?_
  unfold M_spec_RouteTributary at h
  simp only [A26, V26, body_eq]
  obtain ⟨oZ9, hoZ9, h⟩ := bind_s h
  try simp only [VS1, VS2, VS3, VS4, VS5, VS6, VT1, VT2, finM_ret, finM_nrm, decide_true, decide_false, List.nodup_nil, List.nodup_cons, oks_p, oks_m, Nat.reduceSub, Nat.reduceMul, ↓reduceIte, reduceCtorEq, Nat.reduceEqDiff, Nat.reduceAdd, Nat.reduceLeDiff, Int.reduceLE]
  refine join_rule0 (sh := (fun v => ⟨[(0, .lst .o 3 (linksZ0.map (e_TLink .o))), (1, .lst .o 1 (freeZ0.map AV.i)), (7, .pt 7 0 0), (30, .b v)], [(7, .var (.agg [.i tZ0.From, .i tZ0.To, .i tZ0.Rate]))]⟩)) (s := oZ9) ?_ ?_
  · replace h := hoZ9
    obtain ⟨rZ1, hrZ1, h⟩ := bind_s h
    simp only [VS1, VS2, VS3, VS4, VS5, VS6, VT1, VT2, finM_ret, finM_nrm, decide_true, decide_false, List.nodup_nil, List.nodup_cons, oks_p, oks_m, Nat.reduceSub, Nat.reduceMul, ↓reduceIte, reduceCtorEq, Nat.reduceEqDiff, Nat.reduceAdd, Nat.reduceLeDiff, Int.reduceLE]
    refine call_s (by simp only [VS1, VS2, VS3, VS4, VS5, VS6, VT1, VT2, finM_ret, finM_nrm, decide_true, decide_false, List.nodup_nil, List.nodup_cons, oks_p, oks_m, Nat.reduceSub, Nat.reduceMul, ↓reduceIte, reduceCtorEq, Nat.reduceEqDiff, Nat.reduceAdd, Nat.reduceLeDiff, Int.reduceLE]; exact w_spec_l18Links _ _ hrZ1 ) ?_
    simp only [VA, VF1, ↓reduceIte, Nat.reduceEqDiff, Nat.reduceAdd, Nat.reduceMul, Nat.reduceSub, Nat.reduceLeDiff]
    refine Or.elim (bt (!rZ1)) (fun cZ2 => ?_) (fun cZ2 => ?_)
    · replace h := cond_t cZ2 h
      cases h
      try simp only [VS1, VS2, VS3, VS4, VS5, VS6, VT1, VT2, finM_ret, finM_nrm, decide_true, decide_false, List.nodup_nil, List.nodup_cons, oks_p, oks_m, Nat.reduceSub, Nat.reduceMul, ↓reduceIte, reduceCtorEq, Nat.reduceEqDiff, Nat.reduceAdd, Nat.reduceLeDiff, Int.reduceLE, cZ2]
      all_goals simp [qL, qJ, qJ0, qS, qX, qR, qM, Shp, sub, VS1, VS2, VS3, VS4, VS5, VS6, VT1, VT2]
    · replace h := cond_f cZ2 h
      refine Or.elim (bt ((freeZ0.length : Int) != (linksZ0.length : Int))) (fun cZ3 => ?_) (fun cZ3 => ?_)
      · replace h := cond_t cZ3 h
        cases h
        try simp only [VS1, VS2, VS3, VS4, VS5, VS6, VT1, VT2, finM_ret, finM_nrm, decide_true, decide_false, List.nodup_nil, List.nodup_cons, oks_p, oks_m, Nat.reduceSub, Nat.reduceMul, ↓reduceIte, reduceCtorEq, Nat.reduceEqDiff, Nat.reduceAdd, Nat.reduceLeDiff, Int.reduceLE, cZ2, cZ3]
        all_goals simp [qL, qJ, qJ0, qS, qX, qR, qM, Shp, sub, VS1, VS2, VS3, VS4, VS5, VS6, VT1, VT2]
      · replace h := cond_f cZ3 h
        obtain ⟨lZ4, hlZ4, h⟩ := bnd_s h
        have eZ5 : Row.arr 3 [(.agg [.i tZ0.From, .i tZ0.To, .i tZ0.Rate] : AV)] = Row.arr 3 (lZ4.map (e_TTributary .u)) := by rw [← hlZ4]; rfl
        have eZ6 : lZ4.length = 1 := by rw [← hlZ4]; rfl
        have nZ7 : sub (lZ4.map (e_TTributary .u)) 0 1 = lZ4.map (e_TTributary .u) := sub_n _ (by simp [← hlZ4])
        obtain ⟨rZ8, hrZ8, h⟩ := bind_s h
        simp only [VS1, VS2, VS3, VS4, VS5, VS6, VT1, VT2, finM_ret, finM_nrm, decide_true, decide_false, List.nodup_nil, List.nodup_cons, oks_p, oks_m, Nat.reduceSub, Nat.reduceMul, ↓reduceIte, reduceCtorEq, Nat.reduceEqDiff, Nat.reduceAdd, Nat.reduceLeDiff, Int.reduceLE, cZ2, cZ3, eZ5, eZ6, nZ7]
        refine call_s (by simp only [VS1, VS2, VS3, VS4, VS5, VS6, VT1, VT2, finM_ret, finM_nrm, decide_true, decide_false, List.nodup_nil, List.nodup_cons, oks_p, oks_m, Nat.reduceSub, Nat.reduceMul, ↓reduceIte, reduceCtorEq, Nat.reduceEqDiff, Nat.reduceAdd, Nat.reduceLeDiff, Int.reduceLE, cZ2, cZ3, eZ5, eZ6, nZ7]; exact w_spec_l18Good _ _ hrZ8 ) ?_
        simp only [VA, VF1, ↓reduceIte, Nat.reduceEqDiff, Nat.reduceAdd, Nat.reduceMul, Nat.reduceSub, Nat.reduceLeDiff]
        cases h
        try simp only [VS1, VS2, VS3, VS4, VS5, VS6, VT1, VT2, finM_ret, finM_nrm, decide_true, decide_false, List.nodup_nil, List.nodup_cons, oks_p, oks_m, Nat.reduceSub, Nat.reduceMul, ↓reduceIte, reduceCtorEq, Nat.reduceEqDiff, Nat.reduceAdd, Nat.reduceLeDiff, Int.reduceLE, cZ2, cZ3, eZ5, eZ6, nZ7]
        all_goals simp [qL, qJ, qJ0, qS, qX, qR, qM, Shp, sub, VS1, VS2, VS3, VS4, VS5, VS6, VT1, VT2, ← hlZ4]
  · simp only [A26R1]
    refine Or.elim (bt (oZ9)) (fun cZ10 => ?_) (fun cZ10 => ?_)
    · replace h := cond_t cZ10 h
      cases h
      try simp only [VS1, VS2, VS3, VS4, VS5, VS6, VT1, VT2, finM_ret, finM_nrm, decide_true, decide_false, List.nodup_nil, List.nodup_cons, oks_p, oks_m, Nat.reduceSub, Nat.reduceMul, ↓reduceIte, reduceCtorEq, Nat.reduceEqDiff, Nat.reduceAdd, Nat.reduceLeDiff, Int.reduceLE, cZ10]
      all_goals simp [qL, qJ, qJ0, qS, qX, qR, qM, Shp, sub, VS1, VS2, VS3, VS4, VS5, VS6, VT1, VT2, V26]
    · replace h := cond_f cZ10 h
      obtain ⟨oZ16, hoZ16, h⟩ := bind_s h
      try simp only [VS1, VS2, VS3, VS4, VS5, VS6, VT1, VT2, finM_ret, finM_nrm, decide_true, decide_false, List.nodup_nil, List.nodup_cons, oks_p, oks_m, Nat.reduceSub, Nat.reduceMul, ↓reduceIte, reduceCtorEq, Nat.reduceEqDiff, Nat.reduceAdd, Nat.reduceLeDiff, Int.reduceLE, cZ10]
      refine join_rule (o := oZ16) (blk_rule sideR (loop_rule (w_spec_RouteTributaryL1 linksZ0 freeZ0 tZ0) hoZ16 ?_)) (fun vZ17 hv => ?_) (fun xZ18 hv e τ hne hq => ?_)
      · all_goals simp [qL, qJ, qJ0, qS, qX, qR, qM, Shp, sub, VS1, VS2, VS3, VS4, VS5, VS6, VT1, VT2, S_spec_RouteTributaryL1, SX_spec_RouteTributaryL1]
      · subst hv
        simp only [] at h
        simp only [SX_spec_RouteTributaryL1, A26R3]
        obtain ⟨rZ19, hrZ19, h⟩ := bind_s h
        simp only [VS1, VS2, VS3, VS4, VS5, VS6, VT1, VT2, finM_ret, finM_nrm, decide_true, decide_false, List.nodup_nil, List.nodup_cons, oks_p, oks_m, Nat.reduceSub, Nat.reduceMul, ↓reduceIte, reduceCtorEq, Nat.reduceEqDiff, Nat.reduceAdd, Nat.reduceLeDiff, Int.reduceLE, cZ10]
        refine call_u (by simp only [VS1, VS2, VS3, VS4, VS5, VS6, VT1, VT2, finM_ret, finM_nrm, decide_true, decide_false, List.nodup_nil, List.nodup_cons, oks_p, oks_m, Nat.reduceSub, Nat.reduceMul, ↓reduceIte, reduceCtorEq, Nat.reduceEqDiff, Nat.reduceAdd, Nat.reduceLeDiff, Int.reduceLE, cZ10]; exact w_spec_l18Route _ _ _ hrZ19 ) (by simp [AV.allU, allUL, allUL_iff, VT1, VT2]) (by simp only [VS1, VS2, VS3, VS4, VS5, VS6, VT1, VT2, finM_ret, finM_nrm, decide_true, decide_false, List.nodup_nil, List.nodup_cons, oks_p, oks_m, Nat.reduceSub, Nat.reduceMul, ↓reduceIte, reduceCtorEq, Nat.reduceEqDiff, Nat.reduceAdd, Nat.reduceLeDiff, Int.reduceLE, Nat.reduceLT]) ?_
        simp only [VA, VF1, ↓reduceIte, Nat.reduceEqDiff, Nat.reduceAdd, Nat.reduceMul, Nat.reduceSub, Nat.reduceLeDiff]
        cases h
        try simp only [VS1, VS2, VS3, VS4, VS5, VS6, VT1, VT2, finM_ret, finM_nrm, decide_true, decide_false, List.nodup_nil, List.nodup_cons, oks_p, oks_m, Nat.reduceSub, Nat.reduceMul, ↓reduceIte, reduceCtorEq, Nat.reduceEqDiff, Nat.reduceAdd, Nat.reduceLeDiff, Int.reduceLE, cZ10]
        all_goals simp [qL, qJ, qJ0, qS, qX, qR, qM, Shp, sub, VS1, VS2, VS3, VS4, VS5, VS6, VT1, VT2, V26]
      · subst hv
        simp only [] at h
        obtain ⟨rfl, qZ20⟩ := hq
        cases h
        exact qZ20
def S_slices_IndexFunc_LinkL1 (sZ0 : List TLink) (F_fZ0 : Nat) (C_fZ0 : List AV) (v : Int) : St := ⟨[(0, .lst .o 3 (sZ0.map (e_TLink .o))), (1, .fn F_fZ0 C_fZ0), (7, .i (sZ0.length : Int)), (8, .i v)], []⟩
def SX_slices_IndexFunc_LinkL1 (v : Unit) : St := ⟨[], []⟩
theorem w_slices_IndexFunc_LinkL1 (sZ0 : List TLink) (fZ0 : TLink → Option Bool) (F_fZ0 : Nat) (C_fZ0 : List AV) (hC_fZ0 : Fixed C_fZ0) (hf_fZ0 : ∀ (x0 : TLink) (r : Bool), fZ0 x0 = some r → Ok Try.prog F_fZ0 ((.agg [.i x0.A, .i x0.B, .i x0.Capacity]) :: C_fZ0) (.b r)) (sZ1 : Int) (o : Int ⊕ (Unit ⊕ Int)) (h : M_slices_IndexFunc_LinkL1 sZ0 fZ0 sZ1 = some o) : AWP (OkS Try.prog) A113L1 (qL [0, 1, 7, 8] [] (S_slices_IndexFunc_LinkL1 sZ0 F_fZ0 C_fZ0) (qS (qX 0 [] [] (SX_slices_IndexFunc_LinkL1)) (qR V113 (fun r => .i r))) o) (S_slices_IndexFunc_LinkL1 sZ0 F_fZ0 C_fZ0 sZ1) := by
  unfold M_slices_IndexFunc_LinkL1 at h
  simp only [S_slices_IndexFunc_LinkL1, A113L1]
  refine Or.elim (bt (decide (sZ1 < (sZ0.length : Int)))) (fun cZ2 => ?_) (fun cZ2 => ?_)
  · replace h := cond_t cZ2 h
    obtain ⟨yZ3, hyZ3, h⟩ := bind_s h
    obtain ⟨hyZ3a, hyZ3b⟩ := geti_s hyZ3
    obtain ⟨rZ4, hrZ4, h⟩ := bind_s h
    simp only [VS1, VS2, VS3, VS4, VS5, VS6, VT1, VT2, finM_ret, finM_nrm, decide_true, decide_false, List.nodup_nil, List.nodup_cons, oks_p, oks_m, Nat.reduceSub, Nat.reduceMul, ↓reduceIte, reduceCtorEq, Nat.reduceEqDiff, Nat.reduceAdd, Nat.reduceLeDiff, Int.reduceLE, cZ2, hyZ3a, hyZ3b]
    refine call_s (by simp only [VS1, VS2, VS3, VS4, VS5, VS6, VT1, VT2, finM_ret, finM_nrm, decide_true, decide_false, List.nodup_nil, List.nodup_cons, oks_p, oks_m, Nat.reduceSub, Nat.reduceMul, ↓reduceIte, reduceCtorEq, Nat.reduceEqDiff, Nat.reduceAdd, Nat.reduceLeDiff, Int.reduceLE, cZ2, hyZ3a, hyZ3b, hC_fZ0.1 _ _]; exact hf_fZ0 _ _ hrZ4) ?_
    simp only [VA, VF1, ↓reduceIte, Nat.reduceEqDiff, Nat.reduceAdd, Nat.reduceMul, Nat.reduceSub, Nat.reduceLeDiff]
    refine Or.elim (bt (rZ4)) (fun cZ5 => ?_) (fun cZ5 => ?_)
    · replace h := cond_t cZ5 h
      cases h
      try simp only [VS1, VS2, VS3, VS4, VS5, VS6, VT1, VT2, finM_ret, finM_nrm, decide_true, decide_false, List.nodup_nil, List.nodup_cons, oks_p, oks_m, Nat.reduceSub, Nat.reduceMul, ↓reduceIte, reduceCtorEq, Nat.reduceEqDiff, Nat.reduceAdd, Nat.reduceLeDiff, Int.reduceLE, cZ2, hyZ3a, hyZ3b, cZ5]
      all_goals simp [qL, qJ, qJ0, qS, qX, qR, qM, Shp, sub, VS1, VS2, VS3, VS4, VS5, VS6, VT1, VT2, V113, hC_fZ0.2]
    · replace h := cond_f cZ5 h
      cases h
      try simp only [VS1, VS2, VS3, VS4, VS5, VS6, VT1, VT2, finM_ret, finM_nrm, decide_true, decide_false, List.nodup_nil, List.nodup_cons, oks_p, oks_m, Nat.reduceSub, Nat.reduceMul, ↓reduceIte, reduceCtorEq, Nat.reduceEqDiff, Nat.reduceAdd, Nat.reduceLeDiff, Int.reduceLE, cZ2, hyZ3a, hyZ3b, cZ5]
      all_goals simp [qL, qJ, qJ0, qS, qX, qR, qM, Shp, sub, VS1, VS2, VS3, VS4, VS5, VS6, VT1, VT2, S_slices_IndexFunc_LinkL1, SX_slices_IndexFunc_LinkL1, hC_fZ0.2]
  · replace h := cond_f cZ2 h
    cases h
    try simp only [VS1, VS2, VS3, VS4, VS5, VS6, VT1, VT2, finM_ret, finM_nrm, decide_true, decide_false, List.nodup_nil, List.nodup_cons, oks_p, oks_m, Nat.reduceSub, Nat.reduceMul, ↓reduceIte, reduceCtorEq, Nat.reduceEqDiff, Nat.reduceAdd, Nat.reduceLeDiff, Int.reduceLE, cZ2]
    all_goals simp [qL, qJ, qJ0, qS, qX, qR, qM, Shp, sub, VS1, VS2, VS3, VS4, VS5, VS6, VT1, VT2, S_slices_IndexFunc_LinkL1, SX_slices_IndexFunc_LinkL1, hC_fZ0.2]
theorem w_slices_IndexFunc_Link (sZ0 : List TLink) (fZ0 : TLink → Option Bool) {r : Int} (h : M_slices_IndexFunc_Link sZ0 fZ0 = some r) (F_fZ0 : Nat) (C_fZ0 : List AV) (hC_fZ0 : Fixed C_fZ0) (hf_fZ0 : ∀ (x0 : TLink) (r : Bool), fZ0 x0 = some r → Ok Try.prog F_fZ0 ((.agg [.i x0.A, .i x0.B, .i x0.Capacity]) :: C_fZ0) (.b r)) : Ok Try.prog 113 [.lst .o 3 (sZ0.map (e_TLink .o)), .fn F_fZ0 C_fZ0] ((fun r => .i r) r) := by
  refine ok_of_body hmix m113 rfl ?_
  unfold M_slices_IndexFunc_Link at h
  simp only [A113, V113, body_eq]
  obtain ⟨oZ6, hoZ6, h⟩ := bind_s h
  try simp only [VS1, VS2, VS3, VS4, VS5, VS6, VT1, VT2, finM_ret, finM_nrm, decide_true, decide_false, List.nodup_nil, List.nodup_cons, oks_p, oks_m, Nat.reduceSub, Nat.reduceMul, ↓reduceIte, reduceCtorEq, Nat.reduceEqDiff, Nat.reduceAdd, Nat.reduceLeDiff, Int.reduceLE]
  refine join_rule (o := oZ6) (blk_rule sideR (loop_rule (w_slices_IndexFunc_LinkL1 sZ0 fZ0 F_fZ0 C_fZ0 hC_fZ0 hf_fZ0) hoZ6 ?_)) (fun vZ7 hv => ?_) (fun xZ8 hv e τ hne hq => ?_)
  · all_goals simp [qL, qJ, qJ0, qS, qX, qR, qM, Shp, sub, VS1, VS2, VS3, VS4, VS5, VS6, VT1, VT2, S_slices_IndexFunc_LinkL1, SX_slices_IndexFunc_LinkL1, hC_fZ0.2]
  · subst hv
    simp only [] at h
    simp only [SX_slices_IndexFunc_LinkL1, A113R2]
    cases h
    try simp only [VS1, VS2, VS3, VS4, VS5, VS6, VT1, VT2, finM_ret, finM_nrm, decide_true, decide_false, List.nodup_nil, List.nodup_cons, oks_p, oks_m, Nat.reduceSub, Nat.reduceMul, ↓reduceIte, reduceCtorEq, Nat.reduceEqDiff, Nat.reduceAdd, Nat.reduceLeDiff, Int.reduceLE]
    all_goals simp [qL, qJ, qJ0, qS, qX, qR, qM, Shp, sub, VS1, VS2, VS3, VS4, VS5, VS6, VT1, VT2, V113, hC_fZ0.2]
  · subst hv
    simp only [] at h
    obtain ⟨rfl, qZ9⟩ := hq
    cases h
    exact qZ9
theorem w_slices_ContainsFunc_Link (sZ0 : List TLink) (fZ0 : TLink → Option Bool) {r : Bool} (h : M_slices_ContainsFunc_Link sZ0 fZ0 = some r) (F_fZ0 : Nat) (C_fZ0 : List AV) (hC_fZ0 : Fixed C_fZ0) (hf_fZ0 : ∀ (x0 : TLink) (r : Bool), fZ0 x0 = some r → Ok Try.prog F_fZ0 ((.agg [.i x0.A, .i x0.B, .i x0.Capacity]) :: C_fZ0) (.b r)) : Ok Try.prog 101 [.lst .o 3 (sZ0.map (e_TLink .o)), .fn F_fZ0 C_fZ0] ((fun r => .b r) r) := by
  refine ok_of_body hmix m101 rfl ?_
  unfold M_slices_ContainsFunc_Link at h
  simp only [A101, V101, body_eq]
  obtain ⟨rZ1, hrZ1, h⟩ := bind_s h
  simp only [VS1, VS2, VS3, VS4, VS5, VS6, VT1, VT2, finM_ret, finM_nrm, decide_true, decide_false, List.nodup_nil, List.nodup_cons, oks_p, oks_m, Nat.reduceSub, Nat.reduceMul, ↓reduceIte, reduceCtorEq, Nat.reduceEqDiff, Nat.reduceAdd, Nat.reduceLeDiff, Int.reduceLE]
  refine call_s (by simp only [VS1, VS2, VS3, VS4, VS5, VS6, VT1, VT2, finM_ret, finM_nrm, decide_true, decide_false, List.nodup_nil, List.nodup_cons, oks_p, oks_m, Nat.reduceSub, Nat.reduceMul, ↓reduceIte, reduceCtorEq, Nat.reduceEqDiff, Nat.reduceAdd, Nat.reduceLeDiff, Int.reduceLE, hC_fZ0.1 _ _]; exact w_slices_IndexFunc_Link _ _ hrZ1 F_fZ0 C_fZ0 hC_fZ0 hf_fZ0) ?_
  simp only [VA, VF1, ↓reduceIte, Nat.reduceEqDiff, Nat.reduceAdd, Nat.reduceMul, Nat.reduceSub, Nat.reduceLeDiff]
  cases h
  try simp only [VS1, VS2, VS3, VS4, VS5, VS6, VT1, VT2, finM_ret, finM_nrm, decide_true, decide_false, List.nodup_nil, List.nodup_cons, oks_p, oks_m, Nat.reduceSub, Nat.reduceMul, ↓reduceIte, reduceCtorEq, Nat.reduceEqDiff, Nat.reduceAdd, Nat.reduceLeDiff, Int.reduceLE]
  all_goals simp [qL, qJ, qJ0, qS, qX, qR, qM, Shp, sub, VS1, VS2, VS3, VS4, VS5, VS6, VT1, VT2, V101, hC_fZ0.2]
theorem w_impl_areLinks_c1 (lZ0 : TLink) (p1Z0 : Int) {r : Bool} (h : M_impl_areLinks_c1 lZ0 p1Z0 = some r) : Ok Try.prog 102 [.agg [.i lZ0.A, .i lZ0.B, .i lZ0.Capacity], .bp (.i p1Z0) 0] ((fun r => .b r) r) := by
  refine ok_of_body hmix m102 rfl ?_
  unfold M_impl_areLinks_c1 at h
  simp only [A102, V102, body_eq]
  obtain ⟨rZ1, hrZ1, h⟩ := bind_s h
  simp only [VS1, VS2, VS3, VS4, VS5, VS6, VT1, VT2, finM_ret, finM_nrm, decide_true, decide_false, List.nodup_nil, List.nodup_cons, oks_p, oks_m, Nat.reduceSub, Nat.reduceMul, ↓reduceIte, reduceCtorEq, Nat.reduceEqDiff, Nat.reduceAdd, Nat.reduceLeDiff, Int.reduceLE]
  refine call_s (by simp only [VS1, VS2, VS3, VS4, VS5, VS6, VT1, VT2, finM_ret, finM_nrm, decide_true, decide_false, List.nodup_nil, List.nodup_cons, oks_p, oks_m, Nat.reduceSub, Nat.reduceMul, ↓reduceIte, reduceCtorEq, Nat.reduceEqDiff, Nat.reduceAdd, Nat.reduceLeDiff, Int.reduceLE]; exact w_impl_areEnds _ _ _ hrZ1 ) ?_
  simp only [VA, VF1, ↓reduceIte, Nat.reduceEqDiff, Nat.reduceAdd, Nat.reduceMul, Nat.reduceSub, Nat.reduceLeDiff]
  refine Or.elim (bt (!rZ1)) (fun cZ2 => ?_) (fun cZ2 => ?_)
  · replace h := cond_t cZ2 h
    cases h
    try simp only [VS1, VS2, VS3, VS4, VS5, VS6, VT1, VT2, finM_ret, finM_nrm, decide_true, decide_false, List.nodup_nil, List.nodup_cons, oks_p, oks_m, Nat.reduceSub, Nat.reduceMul, ↓reduceIte, reduceCtorEq, Nat.reduceEqDiff, Nat.reduceAdd, Nat.reduceLeDiff, Int.reduceLE, cZ2]
    all_goals simp [qL, qJ, qJ0, qS, qX, qR, qM, Shp, sub, VS1, VS2, VS3, VS4, VS5, VS6, VT1, VT2, V102]
  · replace h := cond_f cZ2 h
    obtain ⟨rZ3, hrZ3, h⟩ := bind_s h
    simp only [VS1, VS2, VS3, VS4, VS5, VS6, VT1, VT2, finM_ret, finM_nrm, decide_true, decide_false, List.nodup_nil, List.nodup_cons, oks_p, oks_m, Nat.reduceSub, Nat.reduceMul, ↓reduceIte, reduceCtorEq, Nat.reduceEqDiff, Nat.reduceAdd, Nat.reduceLeDiff, Int.reduceLE, cZ2]
    refine call_s (by simp only [VS1, VS2, VS3, VS4, VS5, VS6, VT1, VT2, finM_ret, finM_nrm, decide_true, decide_false, List.nodup_nil, List.nodup_cons, oks_p, oks_m, Nat.reduceSub, Nat.reduceMul, ↓reduceIte, reduceCtorEq, Nat.reduceEqDiff, Nat.reduceAdd, Nat.reduceLeDiff, Int.reduceLE, cZ2]; exact w_impl_within _ _ _ hrZ3 ) ?_
    simp only [VA, VF1, ↓reduceIte, Nat.reduceEqDiff, Nat.reduceAdd, Nat.reduceMul, Nat.reduceSub, Nat.reduceLeDiff]
    cases h
    try simp only [VS1, VS2, VS3, VS4, VS5, VS6, VT1, VT2, finM_ret, finM_nrm, decide_true, decide_false, List.nodup_nil, List.nodup_cons, oks_p, oks_m, Nat.reduceSub, Nat.reduceMul, ↓reduceIte, reduceCtorEq, Nat.reduceEqDiff, Nat.reduceAdd, Nat.reduceLeDiff, Int.reduceLE, cZ2]
    all_goals simp [qL, qJ, qJ0, qS, qX, qR, qM, Shp, sub, VS1, VS2, VS3, VS4, VS5, VS6, VT1, VT2, V102]
theorem w_impl_areLinks (linksZ0 : List TLink) (nodesZ0 : Int) {r : Bool} (h : M_impl_areLinks linksZ0 nodesZ0 = some r) : Ok Try.prog 70 [.lst .o 3 (linksZ0.map (e_TLink .o)), .i nodesZ0] ((fun r => .b r) r) := by
  refine ok_of_body hmix m70 rfl ?_
  unfold M_impl_areLinks at h
  simp only [A70, V70, body_eq]
  obtain ⟨rZ1, hrZ1, h⟩ := bind_s h
  simp only [VS1, VS2, VS3, VS4, VS5, VS6, VT1, VT2, finM_ret, finM_nrm, decide_true, decide_false, List.nodup_nil, List.nodup_cons, oks_p, oks_m, Nat.reduceSub, Nat.reduceMul, ↓reduceIte, reduceCtorEq, Nat.reduceEqDiff, Nat.reduceAdd, Nat.reduceLeDiff, Int.reduceLE]
  refine call_s (by simp only [VS1, VS2, VS3, VS4, VS5, VS6, VT1, VT2, finM_ret, finM_nrm, decide_true, decide_false, List.nodup_nil, List.nodup_cons, oks_p, oks_m, Nat.reduceSub, Nat.reduceMul, ↓reduceIte, reduceCtorEq, Nat.reduceEqDiff, Nat.reduceAdd, Nat.reduceLeDiff, Int.reduceLE]; exact w_impl_within _ _ _ hrZ1 ) ?_
  simp only [VA, VF1, ↓reduceIte, Nat.reduceEqDiff, Nat.reduceAdd, Nat.reduceMul, Nat.reduceSub, Nat.reduceLeDiff]
  refine Or.elim (bt (rZ1)) (fun cZ2 => ?_) (fun cZ2 => ?_)
  · replace h := cond_t cZ2 h
    refine Or.elim (bt (decide ((linksZ0.length : Int) ≤ 12))) (fun cZ3 => ?_) (fun cZ3 => ?_)
    · replace h := cond_t cZ3 h
      obtain ⟨rZ4, hrZ4, h⟩ := bind_s h
      simp only [VS1, VS2, VS3, VS4, VS5, VS6, VT1, VT2, finM_ret, finM_nrm, decide_true, decide_false, List.nodup_nil, List.nodup_cons, oks_p, oks_m, Nat.reduceSub, Nat.reduceMul, ↓reduceIte, reduceCtorEq, Nat.reduceEqDiff, Nat.reduceAdd, Nat.reduceLeDiff, Int.reduceLE, cZ2, cZ3]
      refine call_s (by simp only [VS1, VS2, VS3, VS4, VS5, VS6, VT1, VT2, finM_ret, finM_nrm, decide_true, decide_false, List.nodup_nil, List.nodup_cons, oks_p, oks_m, Nat.reduceSub, Nat.reduceMul, ↓reduceIte, reduceCtorEq, Nat.reduceEqDiff, Nat.reduceAdd, Nat.reduceLeDiff, Int.reduceLE, cZ2, cZ3]; exact w_slices_ContainsFunc_Link _ _ hrZ4 102 [.bp (.i nodesZ0) 0] ⟨fun ρ k => by simp only [VS1, VS2, VS3, VS4, VS5, VS6, VT1, VT2, finM_ret, finM_nrm, decide_true, decide_false, List.nodup_nil, List.nodup_cons, oks_p, oks_m, Nat.reduceSub, Nat.reduceMul, ↓reduceIte, reduceCtorEq, Nat.reduceEqDiff, Nat.reduceAdd, Nat.reduceLeDiff, Int.reduceLE], by simp [mentsL, AV.ments]⟩ (fun _ _ h => w_impl_areLinks_c1 _ _ h)) ?_
      simp only [VA, VF1, ↓reduceIte, Nat.reduceEqDiff, Nat.reduceAdd, Nat.reduceMul, Nat.reduceSub, Nat.reduceLeDiff]
      cases h
      try simp only [VS1, VS2, VS3, VS4, VS5, VS6, VT1, VT2, finM_ret, finM_nrm, decide_true, decide_false, List.nodup_nil, List.nodup_cons, oks_p, oks_m, Nat.reduceSub, Nat.reduceMul, ↓reduceIte, reduceCtorEq, Nat.reduceEqDiff, Nat.reduceAdd, Nat.reduceLeDiff, Int.reduceLE, cZ2, cZ3]
      all_goals simp [qL, qJ, qJ0, qS, qX, qR, qM, Shp, sub, VS1, VS2, VS3, VS4, VS5, VS6, VT1, VT2, V70]
    · replace h := cond_f cZ3 h
      cases h
      try simp only [VS1, VS2, VS3, VS4, VS5, VS6, VT1, VT2, finM_ret, finM_nrm, decide_true, decide_false, List.nodup_nil, List.nodup_cons, oks_p, oks_m, Nat.reduceSub, Nat.reduceMul, ↓reduceIte, reduceCtorEq, Nat.reduceEqDiff, Nat.reduceAdd, Nat.reduceLeDiff, Int.reduceLE, cZ2, cZ3]
      all_goals simp [qL, qJ, qJ0, qS, qX, qR, qM, Shp, sub, VS1, VS2, VS3, VS4, VS5, VS6, VT1, VT2, V70]
  · replace h := cond_f cZ2 h
    cases h
    try simp only [VS1, VS2, VS3, VS4, VS5, VS6, VT1, VT2, finM_ret, finM_nrm, decide_true, decide_false, List.nodup_nil, List.nodup_cons, oks_p, oks_m, Nat.reduceSub, Nat.reduceMul, ↓reduceIte, reduceCtorEq, Nat.reduceEqDiff, Nat.reduceAdd, Nat.reduceLeDiff, Int.reduceLE, cZ2]
    all_goals simp [qL, qJ, qJ0, qS, qX, qR, qM, Shp, sub, VS1, VS2, VS3, VS4, VS5, VS6, VT1, VT2, V70]
def S_slices_IndexFunc_Lint_intL1 (sZ0 : List Int) (F_fZ0 : Nat) (C_fZ0 : List AV) (v : Int) : St := ⟨[(0, .lst .o 1 (sZ0.map AV.i)), (1, .fn F_fZ0 C_fZ0), (7, .i (sZ0.length : Int)), (8, .i v)], []⟩
def SX_slices_IndexFunc_Lint_intL1 (v : Unit) : St := ⟨[], []⟩
theorem w_slices_IndexFunc_Lint_intL1 (sZ0 : List Int) (fZ0 : Int → Option Bool) (F_fZ0 : Nat) (C_fZ0 : List AV) (hC_fZ0 : Fixed C_fZ0) (hf_fZ0 : ∀ (x0 : Int) (r : Bool), fZ0 x0 = some r → Ok Try.prog F_fZ0 ((.i x0) :: C_fZ0) (.b r)) (sZ1 : Int) (o : Int ⊕ (Unit ⊕ Int)) (h : M_slices_IndexFunc_Lint_intL1 sZ0 fZ0 sZ1 = some o) : AWP (OkS Try.prog) A98L1 (qL [0, 1, 7, 8] [] (S_slices_IndexFunc_Lint_intL1 sZ0 F_fZ0 C_fZ0) (qS (qX 0 [] [] (SX_slices_IndexFunc_Lint_intL1)) (qR V98 (fun r => .i r))) o) (S_slices_IndexFunc_Lint_intL1 sZ0 F_fZ0 C_fZ0 sZ1) := by
  unfold M_slices_IndexFunc_Lint_intL1 at h
  simp only [S_slices_IndexFunc_Lint_intL1, A98L1]
  refine Or.elim (bt (decide (sZ1 < (sZ0.length : Int)))) (fun cZ2 => ?_) (fun cZ2 => ?_)
  · replace h := cond_t cZ2 h
    obtain ⟨yZ3, hyZ3, h⟩ := bind_s h
    obtain ⟨hyZ3a, hyZ3b⟩ := geti_s hyZ3
    obtain ⟨rZ4, hrZ4, h⟩ := bind_s h
    simp only [VS1, VS2, VS3, VS4, VS5, VS6, VT1, VT2, finM_ret, finM_nrm, decide_true, decide_false, List.nodup_nil, List.nodup_cons, oks_p, oks_m, Nat.reduceSub, Nat.reduceMul, ↓reduceIte, reduceCtorEq, Nat.reduceEqDiff, Nat.reduceAdd, Nat.reduceLeDiff, Int.reduceLE, cZ2, hyZ3a, hyZ3b]
    refine call_s (by simp only [VS1, VS2, VS3, VS4, VS5, VS6, VT1, VT2, finM_ret, finM_nrm, decide_true, decide_false, List.nodup_nil, List.nodup_cons, oks_p, oks_m, Nat.reduceSub, Nat.reduceMul, ↓reduceIte, reduceCtorEq, Nat.reduceEqDiff, Nat.reduceAdd, Nat.reduceLeDiff, Int.reduceLE, cZ2, hyZ3a, hyZ3b, hC_fZ0.1 _ _]; exact hf_fZ0 _ _ hrZ4) ?_
    simp only [VA, VF1, ↓reduceIte, Nat.reduceEqDiff, Nat.reduceAdd, Nat.reduceMul, Nat.reduceSub, Nat.reduceLeDiff]
    refine Or.elim (bt (rZ4)) (fun cZ5 => ?_) (fun cZ5 => ?_)
    · replace h := cond_t cZ5 h
      cases h
      try simp only [VS1, VS2, VS3, VS4, VS5, VS6, VT1, VT2, finM_ret, finM_nrm, decide_true, decide_false, List.nodup_nil, List.nodup_cons, oks_p, oks_m, Nat.reduceSub, Nat.reduceMul, ↓reduceIte, reduceCtorEq, Nat.reduceEqDiff, Nat.reduceAdd, Nat.reduceLeDiff, Int.reduceLE, cZ2, hyZ3a, hyZ3b, cZ5]
      all_goals simp [qL, qJ, qJ0, qS, qX, qR, qM, Shp, sub, VS1, VS2, VS3, VS4, VS5, VS6, VT1, VT2, V98, hC_fZ0.2]
    · replace h := cond_f cZ5 h
      cases h
      try simp only [VS1, VS2, VS3, VS4, VS5, VS6, VT1, VT2, finM_ret, finM_nrm, decide_true, decide_false, List.nodup_nil, List.nodup_cons, oks_p, oks_m, Nat.reduceSub, Nat.reduceMul, ↓reduceIte, reduceCtorEq, Nat.reduceEqDiff, Nat.reduceAdd, Nat.reduceLeDiff, Int.reduceLE, cZ2, hyZ3a, hyZ3b, cZ5]
      all_goals simp [qL, qJ, qJ0, qS, qX, qR, qM, Shp, sub, VS1, VS2, VS3, VS4, VS5, VS6, VT1, VT2, S_slices_IndexFunc_Lint_intL1, SX_slices_IndexFunc_Lint_intL1, hC_fZ0.2]
  · replace h := cond_f cZ2 h
    cases h
    try simp only [VS1, VS2, VS3, VS4, VS5, VS6, VT1, VT2, finM_ret, finM_nrm, decide_true, decide_false, List.nodup_nil, List.nodup_cons, oks_p, oks_m, Nat.reduceSub, Nat.reduceMul, ↓reduceIte, reduceCtorEq, Nat.reduceEqDiff, Nat.reduceAdd, Nat.reduceLeDiff, Int.reduceLE, cZ2]
    all_goals simp [qL, qJ, qJ0, qS, qX, qR, qM, Shp, sub, VS1, VS2, VS3, VS4, VS5, VS6, VT1, VT2, S_slices_IndexFunc_Lint_intL1, SX_slices_IndexFunc_Lint_intL1, hC_fZ0.2]
theorem w_slices_IndexFunc_Lint_int (sZ0 : List Int) (fZ0 : Int → Option Bool) {r : Int} (h : M_slices_IndexFunc_Lint_int sZ0 fZ0 = some r) (F_fZ0 : Nat) (C_fZ0 : List AV) (hC_fZ0 : Fixed C_fZ0) (hf_fZ0 : ∀ (x0 : Int) (r : Bool), fZ0 x0 = some r → Ok Try.prog F_fZ0 ((.i x0) :: C_fZ0) (.b r)) : Ok Try.prog 98 [.lst .o 1 (sZ0.map AV.i), .fn F_fZ0 C_fZ0] ((fun r => .i r) r) := by
  refine ok_of_body hmix m98 rfl ?_
  unfold M_slices_IndexFunc_Lint_int at h
  simp only [A98, V98, body_eq]
  obtain ⟨oZ6, hoZ6, h⟩ := bind_s h
  try simp only [VS1, VS2, VS3, VS4, VS5, VS6, VT1, VT2, finM_ret, finM_nrm, decide_true, decide_false, List.nodup_nil, List.nodup_cons, oks_p, oks_m, Nat.reduceSub, Nat.reduceMul, ↓reduceIte, reduceCtorEq, Nat.reduceEqDiff, Nat.reduceAdd, Nat.reduceLeDiff, Int.reduceLE]
  refine join_rule (o := oZ6) (blk_rule sideR (loop_rule (w_slices_IndexFunc_Lint_intL1 sZ0 fZ0 F_fZ0 C_fZ0 hC_fZ0 hf_fZ0) hoZ6 ?_)) (fun vZ7 hv => ?_) (fun xZ8 hv e τ hne hq => ?_)
  · all_goals simp [qL, qJ, qJ0, qS, qX, qR, qM, Shp, sub, VS1, VS2, VS3, VS4, VS5, VS6, VT1, VT2, S_slices_IndexFunc_Lint_intL1, SX_slices_IndexFunc_Lint_intL1, hC_fZ0.2]
  · subst hv
    simp only [] at h
    simp only [SX_slices_IndexFunc_Lint_intL1, A98R2]
    cases h
    try simp only [VS1, VS2, VS3, VS4, VS5, VS6, VT1, VT2, finM_ret, finM_nrm, decide_true, decide_false, List.nodup_nil, List.nodup_cons, oks_p, oks_m, Nat.reduceSub, Nat.reduceMul, ↓reduceIte, reduceCtorEq, Nat.reduceEqDiff, Nat.reduceAdd, Nat.reduceLeDiff, Int.reduceLE]
    all_goals simp [qL, qJ, qJ0, qS, qX, qR, qM, Shp, sub, VS1, VS2, VS3, VS4, VS5, VS6, VT1, VT2, V98, hC_fZ0.2]
  · subst hv
    simp only [] at h
    obtain ⟨rfl, qZ9⟩ := hq
    cases h
    exact qZ9
theorem w_slices_ContainsFunc_Lint_int (sZ0 : List Int) (fZ0 : Int → Option Bool) {r : Bool} (h : M_slices_ContainsFunc_Lint_int sZ0 fZ0 = some r) (F_fZ0 : Nat) (C_fZ0 : List AV) (hC_fZ0 : Fixed C_fZ0) (hf_fZ0 : ∀ (x0 : Int) (r : Bool), fZ0 x0 = some r → Ok Try.prog F_fZ0 ((.i x0) :: C_fZ0) (.b r)) : Ok Try.prog 71 [.lst .o 1 (sZ0.map AV.i), .fn F_fZ0 C_fZ0] ((fun r => .b r) r) := by
  refine ok_of_body hmix m71 rfl ?_
  unfold M_slices_ContainsFunc_Lint_int at h
  simp only [A71, V71, body_eq]
  obtain ⟨rZ1, hrZ1, h⟩ := bind_s h
  simp only [VS1, VS2, VS3, VS4, VS5, VS6, VT1, VT2, finM_ret, finM_nrm, decide_true, decide_false, List.nodup_nil, List.nodup_cons, oks_p, oks_m, Nat.reduceSub, Nat.reduceMul, ↓reduceIte, reduceCtorEq, Nat.reduceEqDiff, Nat.reduceAdd, Nat.reduceLeDiff, Int.reduceLE]
  refine call_s (by simp only [VS1, VS2, VS3, VS4, VS5, VS6, VT1, VT2, finM_ret, finM_nrm, decide_true, decide_false, List.nodup_nil, List.nodup_cons, oks_p, oks_m, Nat.reduceSub, Nat.reduceMul, ↓reduceIte, reduceCtorEq, Nat.reduceEqDiff, Nat.reduceAdd, Nat.reduceLeDiff, Int.reduceLE, hC_fZ0.1 _ _]; exact w_slices_IndexFunc_Lint_int _ _ hrZ1 F_fZ0 C_fZ0 hC_fZ0 hf_fZ0) ?_
  simp only [VA, VF1, ↓reduceIte, Nat.reduceEqDiff, Nat.reduceAdd, Nat.reduceMul, Nat.reduceSub, Nat.reduceLeDiff]
  cases h
  try simp only [VS1, VS2, VS3, VS4, VS5, VS6, VT1, VT2, finM_ret, finM_nrm, decide_true, decide_false, List.nodup_nil, List.nodup_cons, oks_p, oks_m, Nat.reduceSub, Nat.reduceMul, ↓reduceIte, reduceCtorEq, Nat.reduceEqDiff, Nat.reduceAdd, Nat.reduceLeDiff, Int.reduceLE]
  all_goals simp [qL, qJ, qJ0, qS, qX, qR, qM, Shp, sub, VS1, VS2, VS3, VS4, VS5, VS6, VT1, VT2, V71, hC_fZ0.2]
theorem w_impl_RouteTributary_c1 (roomZ0 : Int) {r : Bool} (h : M_impl_RouteTributary_c1 roomZ0 = some r) : Ok Try.prog 72 [.i roomZ0] ((fun r => .b r) r) := by
  refine ok_of_body hmix m72 rfl ?_
  unfold M_impl_RouteTributary_c1 at h
  simp only [A72, V72, body_eq]
  obtain ⟨rZ1, hrZ1, h⟩ := bind_s h
  simp only [VS1, VS2, VS3, VS4, VS5, VS6, VT1, VT2, finM_ret, finM_nrm, decide_true, decide_false, List.nodup_nil, List.nodup_cons, oks_p, oks_m, Nat.reduceSub, Nat.reduceMul, ↓reduceIte, reduceCtorEq, Nat.reduceEqDiff, Nat.reduceAdd, Nat.reduceLeDiff, Int.reduceLE]
  refine call_s (by simp only [VS1, VS2, VS3, VS4, VS5, VS6, VT1, VT2, finM_ret, finM_nrm, decide_true, decide_false, List.nodup_nil, List.nodup_cons, oks_p, oks_m, Nat.reduceSub, Nat.reduceMul, ↓reduceIte, reduceCtorEq, Nat.reduceEqDiff, Nat.reduceAdd, Nat.reduceLeDiff, Int.reduceLE]; exact w_impl_within _ _ _ hrZ1 ) ?_
  simp only [VA, VF1, ↓reduceIte, Nat.reduceEqDiff, Nat.reduceAdd, Nat.reduceMul, Nat.reduceSub, Nat.reduceLeDiff]
  cases h
  try simp only [VS1, VS2, VS3, VS4, VS5, VS6, VT1, VT2, finM_ret, finM_nrm, decide_true, decide_false, List.nodup_nil, List.nodup_cons, oks_p, oks_m, Nat.reduceSub, Nat.reduceMul, ↓reduceIte, reduceCtorEq, Nat.reduceEqDiff, Nat.reduceAdd, Nat.reduceLeDiff, Int.reduceLE]
  all_goals simp [qL, qJ, qJ0, qS, qX, qR, qM, Shp, sub, VS1, VS2, VS3, VS4, VS5, VS6, VT1, VT2, V72]
theorem w_impl_otherEnd (fZ0 : TFiber) (nodeZ0 : Int) {r : Int} (h : M_impl_otherEnd fZ0 nodeZ0 = some r) : Ok Try.prog 114 [.agg [.i fZ0.A, .i fZ0.B, .i fZ0.Length, .i fZ0.Risk], .i nodeZ0] ((fun r => .i r) r) := by
  refine ok_of_body hmix m114 rfl ?_
  unfold M_impl_otherEnd at h
  simp only [A114, V114, body_eq]
  refine Or.elim (bt (nodeZ0 == fZ0.A)) (fun cZ1 => ?_) (fun cZ1 => ?_)
  · replace h := cond_t cZ1 h
    cases h
    try simp only [VS1, VS2, VS3, VS4, VS5, VS6, VT1, VT2, finM_ret, finM_nrm, decide_true, decide_false, List.nodup_nil, List.nodup_cons, oks_p, oks_m, Nat.reduceSub, Nat.reduceMul, ↓reduceIte, reduceCtorEq, Nat.reduceEqDiff, Nat.reduceAdd, Nat.reduceLeDiff, Int.reduceLE, cZ1]
    all_goals simp [qL, qJ, qJ0, qS, qX, qR, qM, Shp, sub, VS1, VS2, VS3, VS4, VS5, VS6, VT1, VT2, V114]
  · replace h := cond_f cZ1 h
    refine Or.elim (bt (nodeZ0 == fZ0.B)) (fun cZ2 => ?_) (fun cZ2 => ?_)
    · replace h := cond_t cZ2 h
      cases h
      try simp only [VS1, VS2, VS3, VS4, VS5, VS6, VT1, VT2, finM_ret, finM_nrm, decide_true, decide_false, List.nodup_nil, List.nodup_cons, oks_p, oks_m, Nat.reduceSub, Nat.reduceMul, ↓reduceIte, reduceCtorEq, Nat.reduceEqDiff, Nat.reduceAdd, Nat.reduceLeDiff, Int.reduceLE, cZ1, cZ2]
      all_goals simp [qL, qJ, qJ0, qS, qX, qR, qM, Shp, sub, VS1, VS2, VS3, VS4, VS5, VS6, VT1, VT2, V114]
    · replace h := cond_f cZ2 h
      cases h
      try simp only [VS1, VS2, VS3, VS4, VS5, VS6, VT1, VT2, finM_ret, finM_nrm, decide_true, decide_false, List.nodup_nil, List.nodup_cons, oks_p, oks_m, Nat.reduceSub, Nat.reduceMul, ↓reduceIte, reduceCtorEq, Nat.reduceEqDiff, Nat.reduceAdd, Nat.reduceLeDiff, Int.reduceLE, cZ1, cZ2]
      all_goals simp [qL, qJ, qJ0, qS, qX, qR, qM, Shp, sub, VS1, VS2, VS3, VS4, VS5, VS6, VT1, VT2, V114]
def S_impl_leadsL1 (linksZ0 : List TLink) (freeZ0 : List Int) (atZ0 : Int) (toZ0 : Int) (rateZ0 : Int) (countZ0 : Int) (seenZ0 : Int) (v : Int) : St := ⟨[(0, .lst .o 3 (linksZ0.map (e_TLink .o))), (1, .lst .o 1 (freeZ0.map AV.i)), (2, .i atZ0), (3, .i toZ0), (4, .i rateZ0), (5, .i countZ0), (6, .i seenZ0), (27, .lst .o 3 (linksZ0.map (e_TLink .o))), (28, .i (linksZ0.length : Int)), (29, .i v)], []⟩
def SX_impl_leadsL1 (v : Unit) : St := ⟨[], []⟩
end Vs

