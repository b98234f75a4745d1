/-
  Part of the proof that the law FnExactGroomAll returns true at every input; no condition beside the row's own.
-/
import Derived.Test.YtgbifbhfdjdhbaaAa
set_option linter.unusedSimpArgs false
set_option linter.unusedVariables false
set_option maxHeartbeats 1000000
set_option maxRecDepth 8000
namespace Vs
open Go Go.Proofs
attribute [local irreducible] AWP stOps eff awpC callA callM
theorem VT1 : (∀ (f : Fl) (x : TLink), e_TLink f x = .agg [.i x.A, .i x.B, .i x.Capacity]) ∧
  (∀ (f : Fl) (x : TTributary), e_TTributary f x = .agg [.i x.From, .i x.To, .i x.Rate]) ∧
  (∀ (f : Fl) (x : List Int), e_Li f x = .lst f 1 (x.map AV.i)) ∧
  (∀ (f : Fl) (x : TFiber), e_TFiber f x = .agg [.i x.A, .i x.B, .i x.Length, .i x.Risk]) := ⟨fun _ _ => rfl, fun _ _ => rfl, fun _ _ => rfl, fun _ _ => rfl⟩
theorem VT2 : (∀ (f : Fl) (x : TLink), (e_TLink f x).nrm = e_TLink .o x) ∧
  (∀ (f : Fl) (xs : List TLink), (xs.map (e_TLink f)).map AV.nrm = xs.map (e_TLink .o)) ∧
  (∀ (f : Fl) (x : TLink), (e_TLink f x).als = e_TLink f.als x) ∧
  (∀ (f : Fl) (xs : List TLink), (xs.map (e_TLink f)).map AV.als = xs.map (e_TLink f.als)) ∧
  (∀ (f : Fl) (x : TLink), (e_TLink f x).fix = e_TLink f.fix x) ∧
  (∀ (f : Fl) (xs : List TLink), (xs.map (e_TLink f)).map AV.fix = xs.map (e_TLink f.fix)) ∧
  (∀ (f : Fl) (x : TTributary), (e_TTributary f x).nrm = e_TTributary .o x) ∧
  (∀ (f : Fl) (xs : List TTributary), (xs.map (e_TTributary f)).map AV.nrm = xs.map (e_TTributary .o)) ∧
  (∀ (f : Fl) (x : TTributary), (e_TTributary f x).als = e_TTributary f.als x) ∧
  (∀ (f : Fl) (xs : List TTributary), (xs.map (e_TTributary f)).map AV.als = xs.map (e_TTributary f.als)) ∧
  (∀ (f : Fl) (x : TTributary), (e_TTributary f x).fix = e_TTributary f.fix x) ∧
  (∀ (f : Fl) (xs : List TTributary), (xs.map (e_TTributary f)).map AV.fix = xs.map (e_TTributary f.fix)) ∧
  (∀ (f : Fl) (x : List Int), (e_Li f x).nrm = e_Li .o x) ∧
  (∀ (f : Fl) (xs : List (List Int)), (xs.map (e_Li f)).map AV.nrm = xs.map (e_Li .o)) ∧
  (∀ (f : Fl) (x : List Int), (e_Li f x).als = e_Li f.als x) ∧
  (∀ (f : Fl) (xs : List (List Int)), (xs.map (e_Li f)).map AV.als = xs.map (e_Li f.als)) ∧
  (∀ (f : Fl) (x : List Int), (e_Li f x).fix = e_Li f.fix x) ∧
  (∀ (f : Fl) (xs : List (List Int)), (xs.map (e_Li f)).map AV.fix = xs.map (e_Li f.fix)) ∧
  (∀ (f : Fl) (x : TFiber), (e_TFiber f x).nrm = e_TFiber .o x) ∧
  (∀ (f : Fl) (xs : List TFiber), (xs.map (e_TFiber f)).map AV.nrm = xs.map (e_TFiber .o)) ∧
  (∀ (f : Fl) (x : TFiber), (e_TFiber f x).als = e_TFiber f.als x) ∧
  (∀ (f : Fl) (xs : List TFiber), (xs.map (e_TFiber f)).map AV.als = xs.map (e_TFiber f.als)) ∧
  (∀ (f : Fl) (x : TFiber), (e_TFiber f x).fix = e_TFiber f.fix x) ∧
  (∀ (f : Fl) (xs : List TFiber), (xs.map (e_TFiber f)).map AV.fix = xs.map (e_TFiber f.fix)) :=
  ⟨@e_TLink_nrm, @e_TLink_nrmm, @e_TLink_als, @e_TLink_alsm, @e_TLink_fix, @e_TLink_fixm, @e_TTributary_nrm, @e_TTributary_nrmm, @e_TTributary_als, @e_TTributary_alsm, @e_TTributary_fix, @e_TTributary_fixm, @e_Li_nrm, @e_Li_nrmm, @e_Li_als, @e_Li_alsm, @e_Li_fix, @e_Li_fixm, @e_TFiber_nrm, @e_TFiber_nrmm, @e_TFiber_als, @e_TFiber_alsm, @e_TFiber_fix, @e_TFiber_fixm⟩
theorem VF1 : (∀ (f : Fl) (x : TLink), (e_TLink f x).fix = e_TLink f.fix x) ∧
  (∀ (f : Fl) (xs : List TLink), (xs.map (e_TLink f)).map AV.fix = xs.map (e_TLink f.fix)) ∧
  (∀ (f : Fl) (x : TTributary), (e_TTributary f x).fix = e_TTributary f.fix x) ∧
  (∀ (f : Fl) (xs : List TTributary), (xs.map (e_TTributary f)).map AV.fix = xs.map (e_TTributary f.fix)) ∧
  (∀ (f : Fl) (x : List Int), (e_Li f x).fix = e_Li f.fix x) ∧
  (∀ (f : Fl) (xs : List (List Int)), (xs.map (e_Li f)).map AV.fix = xs.map (e_Li f.fix)) ∧
  (∀ (f : Fl) (x : TFiber), (e_TFiber f x).fix = e_TFiber f.fix x) ∧
  (∀ (f : Fl) (xs : List TFiber), (xs.map (e_TFiber f)).map AV.fix = xs.map (e_TFiber f.fix)) :=
  ⟨@e_TLink_fix, @e_TLink_fixm, @e_TTributary_fix, @e_TTributary_fixm, @e_Li_fix, @e_Li_fixm, @e_TFiber_fix, @e_TFiber_fixm⟩
theorem VZ1 : (∀ (x : TLink), (e_TLink .o x).fz = true) ∧
  (∀ (xs : List TLink), fzL (xs.map (e_TLink .o)) = true) ∧
  (∀ (x : TLink), (e_TLink .u x).ouB = true) ∧
  (∀ (xs : List TLink), ouBL (xs.map (e_TLink .u)) = true) ∧
  (∀ (x : TTributary), (e_TTributary .o x).fz = true) ∧
  (∀ (xs : List TTributary), fzL (xs.map (e_TTributary .o)) = true) ∧
  (∀ (x : TTributary), (e_TTributary .u x).ouB = true) ∧
  (∀ (xs : List TTributary), ouBL (xs.map (e_TTributary .u)) = true) ∧
  (∀ (x : List Int), (e_Li .o x).fz = true) ∧
  (∀ (xs : List (List Int)), fzL (xs.map (e_Li .o)) = true) ∧
  (∀ (x : List Int), (e_Li .u x).ouB = true) ∧
  (∀ (xs : List (List Int)), ouBL (xs.map (e_Li .u)) = true) ∧
  (∀ (x : TFiber), (e_TFiber .o x).fz = true) ∧
  (∀ (xs : List TFiber), fzL (xs.map (e_TFiber .o)) = true) ∧
  (∀ (x : TFiber), (e_TFiber .u x).ouB = true) ∧
  (∀ (xs : List TFiber), ouBL (xs.map (e_TFiber .u)) = true) :=
  ⟨@e_TLink_fz, @e_TLink_fzm, @e_TLink_ou, @e_TLink_oum, @e_TTributary_fz, @e_TTributary_fzm, @e_TTributary_ou, @e_TTributary_oum, @e_Li_fz, @e_Li_fzm, @e_Li_ou, @e_Li_oum, @e_TFiber_fz, @e_TFiber_fzm, @e_TFiber_ou, @e_TFiber_oum⟩
theorem w_laws_szLinkS (aZ0 : List TLink) (leftZ0 : Int) {r : Int} (h : M_laws_szLinkS aZ0 leftZ0 = some r) : Ok Try.prog 25 [.lst .o 3 (aZ0.map (e_TLink .o)), .i leftZ0] ((fun r => .i r) r) := by
  refine ok_of_body hmix m25 rfl ?_
  unfold M_laws_szLinkS at h
  simp only [A25, V25, body_eq]
  refine Or.elim (bt (decide ((IntKind.wrap .i64 (leftZ0 - (aZ0.length : Int))) < 0))) (fun cZ1 => ?_) (fun cZ1 => ?_)
  · replace h := cond_t cZ1 h
    cases h
    try simp only [VS1, VS2, VS3, VS4, VS5, VS6, VT1, VT2, finM_ret, finM_nrm, decide_true, decide_false, List.nodup_nil, List.nodup_cons, oks_p, oks_m, oks_h, ne_eq, not_false_eq_true, Int.reduceEq, Int.reduceNe, true_and, Nat.reduceSub, Nat.reduceMul, ↓reduceIte, reduceCtorEq, Nat.reduceEqDiff, Nat.reduceAdd, Nat.reduceLeDiff, Int.reduceLE, cZ1]
    all_goals simp [qL, qJ, qJ0, qS, qX, qR, qM, Shp, sub, tupd, VS1, VS2, VS3, VS4, VS5, VS6, VT1, VT2, V25]
  · replace h := cond_f cZ1 h
    cases h
    try simp only [VS1, VS2, VS3, VS4, VS5, VS6, VT1, VT2, finM_ret, finM_nrm, decide_true, decide_false, List.nodup_nil, List.nodup_cons, oks_p, oks_m, oks_h, ne_eq, not_false_eq_true, Int.reduceEq, Int.reduceNe, true_and, Nat.reduceSub, Nat.reduceMul, ↓reduceIte, reduceCtorEq, Nat.reduceEqDiff, Nat.reduceAdd, Nat.reduceLeDiff, Int.reduceLE, cZ1]
    all_goals simp [qL, qJ, qJ0, qS, qX, qR, qM, Shp, sub, tupd, VS1, VS2, VS3, VS4, VS5, VS6, VT1, VT2, V25]
theorem w_laws_szTributaryS (aZ0 : List TTributary) (leftZ0 : Int) {r : Int} (h : M_laws_szTributaryS aZ0 leftZ0 = some r) : Ok Try.prog 14 [.lst .o 3 (aZ0.map (e_TTributary .o)), .i leftZ0] ((fun r => .i r) r) := by
  refine ok_of_body hmix m14 rfl ?_
  unfold M_laws_szTributaryS at h
  simp only [A14, V14, body_eq]
  refine Or.elim (bt (decide ((IntKind.wrap .i64 (leftZ0 - (aZ0.length : Int))) < 0))) (fun cZ1 => ?_) (fun cZ1 => ?_)
  · replace h := cond_t cZ1 h
    cases h
    try simp only [VS1, VS2, VS3, VS4, VS5, VS6, VT1, VT2, finM_ret, finM_nrm, decide_true, decide_false, List.nodup_nil, List.nodup_cons, oks_p, oks_m, oks_h, ne_eq, not_false_eq_true, Int.reduceEq, Int.reduceNe, true_and, Nat.reduceSub, Nat.reduceMul, ↓reduceIte, reduceCtorEq, Nat.reduceEqDiff, Nat.reduceAdd, Nat.reduceLeDiff, Int.reduceLE, cZ1]
    all_goals simp [qL, qJ, qJ0, qS, qX, qR, qM, Shp, sub, tupd, VS1, VS2, VS3, VS4, VS5, VS6, VT1, VT2, V14]
  · replace h := cond_f cZ1 h
    cases h
    try simp only [VS1, VS2, VS3, VS4, VS5, VS6, VT1, VT2, finM_ret, finM_nrm, decide_true, decide_false, List.nodup_nil, List.nodup_cons, oks_p, oks_m, oks_h, ne_eq, not_false_eq_true, Int.reduceEq, Int.reduceNe, true_and, Nat.reduceSub, Nat.reduceMul, ↓reduceIte, reduceCtorEq, Nat.reduceEqDiff, Nat.reduceAdd, Nat.reduceLeDiff, Int.reduceLE, cZ1]
    all_goals simp [qL, qJ, qJ0, qS, qX, qR, qM, Shp, sub, tupd, VS1, VS2, VS3, VS4, VS5, VS6, VT1, VT2, V14]
theorem w_laws_toLink (aZ0 : TLink) {r : TLink} (h : M_laws_toLink aZ0 = some r) : Ok Try.prog 69 [.agg [.i aZ0.A, .i aZ0.B, .i aZ0.Capacity]] ((fun r => .agg [.i r.A, .i r.B, .i r.Capacity]) r) := by
  refine ok_of_body hmix m69 rfl ?_
  unfold M_laws_toLink at h
  simp only [A69, V69, body_eq]
  cases h
  try simp only [VS1, VS2, VS3, VS4, VS5, VS6, VT1, VT2, finM_ret, finM_nrm, decide_true, decide_false, List.nodup_nil, List.nodup_cons, oks_p, oks_m, oks_h, ne_eq, not_false_eq_true, Int.reduceEq, Int.reduceNe, true_and, Nat.reduceSub, Nat.reduceMul, ↓reduceIte, reduceCtorEq, Nat.reduceEqDiff, Nat.reduceAdd, Nat.reduceLeDiff, Int.reduceLE]
  all_goals simp [qL, qJ, qJ0, qS, qX, qR, qM, Shp, sub, tupd, VS1, VS2, VS3, VS4, VS5, VS6, VT1, VT2, V69]
def S_laws_toLinkSL1 (aZ0 : List TLink) (v : Int × List TLink) : St := ⟨[(0, .lst .o 3 (aZ0.map (e_TLink .o))), (3, .sl 3 0 v.2.length), (4, .i v.1)], [(3, .arr 3 (v.2.map (e_TLink .u)))]⟩
def SX_laws_toLinkSL1 (v : List TLink) : St := ⟨[(3, .sl 3 0 v.length)], [(3, .arr 3 (v.map (e_TLink .u)))]⟩
theorem w_laws_toLinkSL1 (aZ0 : List TLink) (sZ4 : Int × List TLink) (o : (Int × List TLink) ⊕ (List TLink)) (h : M_laws_toLinkSL1 aZ0 sZ4 = some o) : AWP (OkS Try.prog) A27L1 (qL [0, 3, 4] [3] (S_laws_toLinkSL1 aZ0) (qX 0 [3] [3] (SX_laws_toLinkSL1)) o) (S_laws_toLinkSL1 aZ0 sZ4) := by
  unfold M_laws_toLinkSL1 at h
  simp only [S_laws_toLinkSL1, A27L1]
  refine Or.elim (bt (decide (sZ4.1 < (aZ0.length : Int)))) (fun cZ5 => ?_) (fun cZ5 => ?_)
  · replace h := cond_t cZ5 h
    obtain ⟨yZ6, hyZ6, h⟩ := bind_s h
    obtain ⟨hyZ6a, hyZ6b⟩ := geti_s hyZ6
    obtain ⟨rZ7, hrZ7, h⟩ := bind_s h
    simp only [VS1, VS2, VS3, VS4, VS5, VS6, VT1, VT2, finM_ret, finM_nrm, decide_true, decide_false, List.nodup_nil, List.nodup_cons, oks_p, oks_m, oks_h, ne_eq, not_false_eq_true, Int.reduceEq, Int.reduceNe, true_and, Nat.reduceSub, Nat.reduceMul, ↓reduceIte, reduceCtorEq, Nat.reduceEqDiff, Nat.reduceAdd, Nat.reduceLeDiff, Int.reduceLE, cZ5, hyZ6a, hyZ6b]
    refine call_u (by simp only [VS1, VS2, VS3, VS4, VS5, VS6, VT1, VT2, finM_ret, finM_nrm, decide_true, decide_false, List.nodup_nil, List.nodup_cons, oks_p, oks_m, oks_h, ne_eq, not_false_eq_true, Int.reduceEq, Int.reduceNe, true_and, Nat.reduceSub, Nat.reduceMul, ↓reduceIte, reduceCtorEq, Nat.reduceEqDiff, Nat.reduceAdd, Nat.reduceLeDiff, Int.reduceLE, cZ5, hyZ6a, hyZ6b]; exact w_laws_toLink _ hrZ7 ) (by simp [AV.allU, allUL, allUL_iff, VT1, VT2]) (by simp only [VS1, VS2, VS3, VS4, VS5, VS6, VT1, VT2, finM_ret, finM_nrm, decide_true, decide_false, List.nodup_nil, List.nodup_cons, oks_p, oks_m, oks_h, ne_eq, not_false_eq_true, Int.reduceEq, Int.reduceNe, true_and, Nat.reduceSub, Nat.reduceMul, ↓reduceIte, reduceCtorEq, Nat.reduceEqDiff, Nat.reduceAdd, Nat.reduceLeDiff, Int.reduceLE, Nat.reduceLT]) ?_
    simp only [VA, VF1, ↓reduceIte, Nat.reduceEqDiff, Nat.reduceAdd, Nat.reduceMul, Nat.reduceSub, Nat.reduceLeDiff]
    obtain ⟨kZ8, hkZ8, h⟩ := bind_s h
    obtain ⟨hkZ8a, hkZ8b⟩ := grd_s hkZ8
    obtain ⟨yZ9, hyZ9, h⟩ := bind_s h
    obtain ⟨lZ10, hlZ10, h⟩ := bnd_s h
    have eZ11 : (sZ4.2.map (e_TLink .u)).set (Int.toNat sZ4.1) (.agg [.i rZ7.A, .i rZ7.B, .i rZ7.Capacity]) = lZ10.map (e_TLink .u) := by rw [← hlZ10, List.map_set]; rfl
    cases h
    try simp only [VS1, VS2, VS3, VS4, VS5, VS6, VT1, VT2, finM_ret, finM_nrm, decide_true, decide_false, List.nodup_nil, List.nodup_cons, oks_p, oks_m, oks_h, ne_eq, not_false_eq_true, Int.reduceEq, Int.reduceNe, true_and, Nat.reduceSub, Nat.reduceMul, ↓reduceIte, reduceCtorEq, Nat.reduceEqDiff, Nat.reduceAdd, Nat.reduceLeDiff, Int.reduceLE, cZ5, hyZ6a, hyZ6b, hkZ8a, hkZ8b, hyZ9, eZ11]
    all_goals simp [qL, qJ, qJ0, qS, qX, qR, qM, Shp, sub, tupd, VS1, VS2, VS3, VS4, VS5, VS6, VT1, VT2, S_laws_toLinkSL1, SX_laws_toLinkSL1, ← hlZ10]
  · replace h := cond_f cZ5 h
    cases h
    try simp only [VS1, VS2, VS3, VS4, VS5, VS6, VT1, VT2, finM_ret, finM_nrm, decide_true, decide_false, List.nodup_nil, List.nodup_cons, oks_p, oks_m, oks_h, ne_eq, not_false_eq_true, Int.reduceEq, Int.reduceNe, true_and, Nat.reduceSub, Nat.reduceMul, ↓reduceIte, reduceCtorEq, Nat.reduceEqDiff, Nat.reduceAdd, Nat.reduceLeDiff, Int.reduceLE, cZ5]
    all_goals simp [qL, qJ, qJ0, qS, qX, qR, qM, Shp, sub, tupd, VS1, VS2, VS3, VS4, VS5, VS6, VT1, VT2, S_laws_toLinkSL1, SX_laws_toLinkSL1]
theorem w_laws_toLinkS (aZ0 : List TLink) {r : List TLink} (h : M_laws_toLinkS aZ0 = some r) : Ok Try.prog 27 [.lst .o 3 (aZ0.map (e_TLink .o))] ((fun r => .lst .u 3 (r.map (e_TLink .u))) r) := by
  refine ok_of_body hmix m27 rfl ?_
  unfold M_laws_toLinkS at h
  simp only [A27, V27, body_eq]
  obtain ⟨uZ1, huZ1, h⟩ := bind_s h
  obtain ⟨huZ11, huZ12, huZ13, huZ14⟩ := grd_s huZ1
  obtain ⟨lZ2, hlZ2, h⟩ := bnd_s h
  have eZ3 : List.replicate (Int.toNat (aZ0.length : Int)) (.agg [.i 0, .i 0, .i 0] : AV) = lZ2.map (e_TLink .u) := by rw [← hlZ2, List.map_replicate]; rfl
  obtain ⟨oZ12, hoZ12, h⟩ := bind_s h
  try simp only [VS1, VS2, VS3, VS4, VS5, VS6, VT1, VT2, finM_ret, finM_nrm, decide_true, decide_false, List.nodup_nil, List.nodup_cons, oks_p, oks_m, oks_h, ne_eq, not_false_eq_true, Int.reduceEq, Int.reduceNe, true_and, Nat.reduceSub, Nat.reduceMul, ↓reduceIte, reduceCtorEq, Nat.reduceEqDiff, Nat.reduceAdd, Nat.reduceLeDiff, Int.reduceLE, huZ11, huZ12, huZ13, huZ14, eZ3]
  refine join_rule0 (blk_rule0 (loop_rule (w_laws_toLinkSL1 aZ0) hoZ12 ?_)) ?_
  · all_goals simp [qL, qJ, qJ0, qS, qX, qR, qM, Shp, sub, tupd, VS1, VS2, VS3, VS4, VS5, VS6, VT1, VT2, S_laws_toLinkSL1, SX_laws_toLinkSL1, ← hlZ2, List.length_replicate]
  · simp only [SX_laws_toLinkSL1, A27R2]
    cases h
    try simp only [VS1, VS2, VS3, VS4, VS5, VS6, VT1, VT2, finM_ret, finM_nrm, decide_true, decide_false, List.nodup_nil, List.nodup_cons, oks_p, oks_m, oks_h, ne_eq, not_false_eq_true, Int.reduceEq, Int.reduceNe, true_and, Nat.reduceSub, Nat.reduceMul, ↓reduceIte, reduceCtorEq, Nat.reduceEqDiff, Nat.reduceAdd, Nat.reduceLeDiff, Int.reduceLE, huZ11, huZ12, huZ13, huZ14, eZ3]
    all_goals simp [qL, qJ, qJ0, qS, qX, qR, qM, Shp, sub, tupd, VS1, VS2, VS3, VS4, VS5, VS6, VT1, VT2, V27]
theorem w_laws_toTributary (aZ0 : TTributary) {r : TTributary} (h : M_laws_toTributary aZ0 = some r) : Ok Try.prog 28 [.agg [.i aZ0.From, .i aZ0.To, .i aZ0.Rate]] ((fun r => .agg [.i r.From, .i r.To, .i r.Rate]) r) := by
  refine ok_of_body hmix m28 rfl ?_
  unfold M_laws_toTributary at h
  simp only [A28, V28, body_eq]
  cases h
  try simp only [VS1, VS2, VS3, VS4, VS5, VS6, VT1, VT2, finM_ret, finM_nrm, decide_true, decide_false, List.nodup_nil, List.nodup_cons, oks_p, oks_m, oks_h, ne_eq, not_false_eq_true, Int.reduceEq, Int.reduceNe, true_and, Nat.reduceSub, Nat.reduceMul, ↓reduceIte, reduceCtorEq, Nat.reduceEqDiff, Nat.reduceAdd, Nat.reduceLeDiff, Int.reduceLE]
  all_goals simp [qL, qJ, qJ0, qS, qX, qR, qM, Shp, sub, tupd, VS1, VS2, VS3, VS4, VS5, VS6, VT1, VT2, V28]
def S_laws_toTributarySL1 (aZ0 : List TTributary) (v : Int × List TTributary) : St := ⟨[(0, .lst .o 3 (aZ0.map (e_TTributary .o))), (3, .sl 3 0 v.2.length), (4, .i v.1)], [(3, .arr 3 (v.2.map (e_TTributary .u)))]⟩
def SX_laws_toTributarySL1 (v : List TTributary) : St := ⟨[(3, .sl 3 0 v.length)], [(3, .arr 3 (v.map (e_TTributary .u)))]⟩
theorem w_laws_toTributarySL1 (aZ0 : List TTributary) (sZ4 : Int × List TTributary) (o : (Int × List TTributary) ⊕ (List TTributary)) (h : M_laws_toTributarySL1 aZ0 sZ4 = some o) : AWP (OkS Try.prog) A16L1 (qL [0, 3, 4] [3] (S_laws_toTributarySL1 aZ0) (qX 0 [3] [3] (SX_laws_toTributarySL1)) o) (S_laws_toTributarySL1 aZ0 sZ4) := by
  unfold M_laws_toTributarySL1 at h
  simp only [S_laws_toTributarySL1, A16L1]
  refine Or.elim (bt (decide (sZ4.1 < (aZ0.length : Int)))) (fun cZ5 => ?_) (fun cZ5 => ?_)
  · replace h := cond_t cZ5 h
    obtain ⟨yZ6, hyZ6, h⟩ := bind_s h
    obtain ⟨hyZ6a, hyZ6b⟩ := geti_s hyZ6
    obtain ⟨rZ7, hrZ7, h⟩ := bind_s h
    simp only [VS1, VS2, VS3, VS4, VS5, VS6, VT1, VT2, finM_ret, finM_nrm, decide_true, decide_false, List.nodup_nil, List.nodup_cons, oks_p, oks_m, oks_h, ne_eq, not_false_eq_true, Int.reduceEq, Int.reduceNe, true_and, Nat.reduceSub, Nat.reduceMul, ↓reduceIte, reduceCtorEq, Nat.reduceEqDiff, Nat.reduceAdd, Nat.reduceLeDiff, Int.reduceLE, cZ5, hyZ6a, hyZ6b]
    refine call_u (by simp only [VS1, VS2, VS3, VS4, VS5, VS6, VT1, VT2, finM_ret, finM_nrm, decide_true, decide_false, List.nodup_nil, List.nodup_cons, oks_p, oks_m, oks_h, ne_eq, not_false_eq_true, Int.reduceEq, Int.reduceNe, true_and, Nat.reduceSub, Nat.reduceMul, ↓reduceIte, reduceCtorEq, Nat.reduceEqDiff, Nat.reduceAdd, Nat.reduceLeDiff, Int.reduceLE, cZ5, hyZ6a, hyZ6b]; exact w_laws_toTributary _ hrZ7 ) (by simp [AV.allU, allUL, allUL_iff, VT1, VT2]) (by simp only [VS1, VS2, VS3, VS4, VS5, VS6, VT1, VT2, finM_ret, finM_nrm, decide_true, decide_false, List.nodup_nil, List.nodup_cons, oks_p, oks_m, oks_h, ne_eq, not_false_eq_true, Int.reduceEq, Int.reduceNe, true_and, Nat.reduceSub, Nat.reduceMul, ↓reduceIte, reduceCtorEq, Nat.reduceEqDiff, Nat.reduceAdd, Nat.reduceLeDiff, Int.reduceLE, Nat.reduceLT]) ?_
    simp only [VA, VF1, ↓reduceIte, Nat.reduceEqDiff, Nat.reduceAdd, Nat.reduceMul, Nat.reduceSub, Nat.reduceLeDiff]
    obtain ⟨kZ8, hkZ8, h⟩ := bind_s h
    obtain ⟨hkZ8a, hkZ8b⟩ := grd_s hkZ8
    obtain ⟨yZ9, hyZ9, h⟩ := bind_s h
    obtain ⟨lZ10, hlZ10, h⟩ := bnd_s h
    have eZ11 : (sZ4.2.map (e_TTributary .u)).set (Int.toNat sZ4.1) (.agg [.i rZ7.From, .i rZ7.To, .i rZ7.Rate]) = lZ10.map (e_TTributary .u) := by rw [← hlZ10, List.map_set]; rfl
    cases h
    try simp only [VS1, VS2, VS3, VS4, VS5, VS6, VT1, VT2, finM_ret, finM_nrm, decide_true, decide_false, List.nodup_nil, List.nodup_cons, oks_p, oks_m, oks_h, ne_eq, not_false_eq_true, Int.reduceEq, Int.reduceNe, true_and, Nat.reduceSub, Nat.reduceMul, ↓reduceIte, reduceCtorEq, Nat.reduceEqDiff, Nat.reduceAdd, Nat.reduceLeDiff, Int.reduceLE, cZ5, hyZ6a, hyZ6b, hkZ8a, hkZ8b, hyZ9, eZ11]
    all_goals simp [qL, qJ, qJ0, qS, qX, qR, qM, Shp, sub, tupd, VS1, VS2, VS3, VS4, VS5, VS6, VT1, VT2, S_laws_toTributarySL1, SX_laws_toTributarySL1, ← hlZ10]
  · replace h := cond_f cZ5 h
    cases h
    try simp only [VS1, VS2, VS3, VS4, VS5, VS6, VT1, VT2, finM_ret, finM_nrm, decide_true, decide_false, List.nodup_nil, List.nodup_cons, oks_p, oks_m, oks_h, ne_eq, not_false_eq_true, Int.reduceEq, Int.reduceNe, true_and, Nat.reduceSub, Nat.reduceMul, ↓reduceIte, reduceCtorEq, Nat.reduceEqDiff, Nat.reduceAdd, Nat.reduceLeDiff, Int.reduceLE, cZ5]
    all_goals simp [qL, qJ, qJ0, qS, qX, qR, qM, Shp, sub, tupd, VS1, VS2, VS3, VS4, VS5, VS6, VT1, VT2, S_laws_toTributarySL1, SX_laws_toTributarySL1]
theorem w_laws_toTributaryS (aZ0 : List TTributary) {r : List TTributary} (h : M_laws_toTributaryS aZ0 = some r) : Ok Try.prog 16 [.lst .o 3 (aZ0.map (e_TTributary .o))] ((fun r => .lst .u 3 (r.map (e_TTributary .u))) r) := by
  refine ok_of_body hmix m16 rfl ?_
  unfold M_laws_toTributaryS at h
  simp only [A16, V16, body_eq]
  obtain ⟨uZ1, huZ1, h⟩ := bind_s h
  obtain ⟨huZ11, huZ12, huZ13, huZ14⟩ := grd_s huZ1
  obtain ⟨lZ2, hlZ2, h⟩ := bnd_s h
  have eZ3 : List.replicate (Int.toNat (aZ0.length : Int)) (.agg [.i 0, .i 0, .i 0] : AV) = lZ2.map (e_TTributary .u) := by rw [← hlZ2, List.map_replicate]; rfl
  obtain ⟨oZ12, hoZ12, h⟩ := bind_s h
  try simp only [VS1, VS2, VS3, VS4, VS5, VS6, VT1, VT2, finM_ret, finM_nrm, decide_true, decide_false, List.nodup_nil, List.nodup_cons, oks_p, oks_m, oks_h, ne_eq, not_false_eq_true, Int.reduceEq, Int.reduceNe, true_and, Nat.reduceSub, Nat.reduceMul, ↓reduceIte, reduceCtorEq, Nat.reduceEqDiff, Nat.reduceAdd, Nat.reduceLeDiff, Int.reduceLE, huZ11, huZ12, huZ13, huZ14, eZ3]
  refine join_rule0 (blk_rule0 (loop_rule (w_laws_toTributarySL1 aZ0) hoZ12 ?_)) ?_
  · all_goals simp [qL, qJ, qJ0, qS, qX, qR, qM, Shp, sub, tupd, VS1, VS2, VS3, VS4, VS5, VS6, VT1, VT2, S_laws_toTributarySL1, SX_laws_toTributarySL1, ← hlZ2, List.length_replicate]
  · simp only [SX_laws_toTributarySL1, A16R2]
    cases h
    try simp only [VS1, VS2, VS3, VS4, VS5, VS6, VT1, VT2, finM_ret, finM_nrm, decide_true, decide_false, List.nodup_nil, List.nodup_cons, oks_p, oks_m, oks_h, ne_eq, not_false_eq_true, Int.reduceEq, Int.reduceNe, true_and, Nat.reduceSub, Nat.reduceMul, ↓reduceIte, reduceCtorEq, Nat.reduceEqDiff, Nat.reduceAdd, Nat.reduceLeDiff, Int.reduceLE, huZ11, huZ12, huZ13, huZ14, eZ3]
    all_goals simp [qL, qJ, qJ0, qS, qX, qR, qM, Shp, sub, tupd, VS1, VS2, VS3, VS4, VS5, VS6, VT1, VT2, V16]
theorem w_spec_l1In (xZ0 : Int) (aZ0 : Int) (bZ0 : Int) {r : Bool} (h : M_spec_l1In xZ0 aZ0 bZ0 = some r) : Ok Try.prog 67 [.i xZ0, .i aZ0, .i bZ0] ((fun r => .b r) r) := by
  refine ok_of_body hmix m67 rfl ?_
  unfold M_spec_l1In at h
  simp only [A67, V67, body_eq]
  refine Or.elim (bt (decide (aZ0 ≤ xZ0))) (fun cZ1 => ?_) (fun cZ1 => ?_)
  · replace h := cond_t cZ1 h
    cases h
    try simp only [VS1, VS2, VS3, VS4, VS5, VS6, VT1, VT2, finM_ret, finM_nrm, decide_true, decide_false, List.nodup_nil, List.nodup_cons, oks_p, oks_m, oks_h, ne_eq, not_false_eq_true, Int.reduceEq, Int.reduceNe, true_and, Nat.reduceSub, Nat.reduceMul, ↓reduceIte, reduceCtorEq, Nat.reduceEqDiff, Nat.reduceAdd, Nat.reduceLeDiff, Int.reduceLE, cZ1]
    all_goals simp [qL, qJ, qJ0, qS, qX, qR, qM, Shp, sub, tupd, VS1, VS2, VS3, VS4, VS5, VS6, VT1, VT2, V67]
  · replace h := cond_f cZ1 h
    cases h
    try simp only [VS1, VS2, VS3, VS4, VS5, VS6, VT1, VT2, finM_ret, finM_nrm, decide_true, decide_false, List.nodup_nil, List.nodup_cons, oks_p, oks_m, oks_h, ne_eq, not_false_eq_true, Int.reduceEq, Int.reduceNe, true_and, Nat.reduceSub, Nat.reduceMul, ↓reduceIte, reduceCtorEq, Nat.reduceEqDiff, Nat.reduceAdd, Nat.reduceLeDiff, Int.reduceLE, cZ1]
    all_goals simp [qL, qJ, qJ0, qS, qX, qR, qM, Shp, sub, tupd, VS1, VS2, VS3, VS4, VS5, VS6, VT1, VT2, V67]
theorem w_spec_l18Pair (aZ0 : Int) (bZ0 : Int) (nodesZ0 : Int) {r : Bool} (h : M_spec_l18Pair aZ0 bZ0 nodesZ0 = some r) : Ok Try.prog 95 [.i aZ0, .i bZ0, .i nodesZ0] ((fun r => .b r) r) := by
  refine ok_of_body hmix m95 rfl ?_
  unfold M_spec_l18Pair at h
  simp only [A95, V95, body_eq]
  obtain ⟨rZ1, hrZ1, h⟩ := bind_s h
  simp only [VS1, VS2, VS3, VS4, VS5, VS6, VT1, VT2, finM_ret, finM_nrm, decide_true, decide_false, List.nodup_nil, List.nodup_cons, oks_p, oks_m, oks_h, ne_eq, not_false_eq_true, Int.reduceEq, Int.reduceNe, true_and, Nat.reduceSub, Nat.reduceMul, ↓reduceIte, reduceCtorEq, Nat.reduceEqDiff, Nat.reduceAdd, Nat.reduceLeDiff, Int.reduceLE]
  refine call_s (by simp only [VS1, VS2, VS3, VS4, VS5, VS6, VT1, VT2, finM_ret, finM_nrm, decide_true, decide_false, List.nodup_nil, List.nodup_cons, oks_p, oks_m, oks_h, ne_eq, not_false_eq_true, Int.reduceEq, Int.reduceNe, true_and, Nat.reduceSub, Nat.reduceMul, ↓reduceIte, reduceCtorEq, Nat.reduceEqDiff, Nat.reduceAdd, Nat.reduceLeDiff, Int.reduceLE]; exact w_spec_l1In _ _ _ hrZ1 ) ?_
  simp only [VA, VF1, ↓reduceIte, Nat.reduceEqDiff, Nat.reduceAdd, Nat.reduceMul, Nat.reduceSub, Nat.reduceLeDiff]
  refine Or.elim (bt (rZ1)) (fun cZ2 => ?_) (fun cZ2 => ?_)
  · replace h := cond_t cZ2 h
    obtain ⟨rZ3, hrZ3, h⟩ := bind_s h
    simp only [VS1, VS2, VS3, VS4, VS5, VS6, VT1, VT2, finM_ret, finM_nrm, decide_true, decide_false, List.nodup_nil, List.nodup_cons, oks_p, oks_m, oks_h, ne_eq, not_false_eq_true, Int.reduceEq, Int.reduceNe, true_and, Nat.reduceSub, Nat.reduceMul, ↓reduceIte, reduceCtorEq, Nat.reduceEqDiff, Nat.reduceAdd, Nat.reduceLeDiff, Int.reduceLE, cZ2]
    refine call_s (by simp only [VS1, VS2, VS3, VS4, VS5, VS6, VT1, VT2, finM_ret, finM_nrm, decide_true, decide_false, List.nodup_nil, List.nodup_cons, oks_p, oks_m, oks_h, ne_eq, not_false_eq_true, Int.reduceEq, Int.reduceNe, true_and, Nat.reduceSub, Nat.reduceMul, ↓reduceIte, reduceCtorEq, Nat.reduceEqDiff, Nat.reduceAdd, Nat.reduceLeDiff, Int.reduceLE, cZ2]; exact w_spec_l1In _ _ _ hrZ3 ) ?_
    simp only [VA, VF1, ↓reduceIte, Nat.reduceEqDiff, Nat.reduceAdd, Nat.reduceMul, Nat.reduceSub, Nat.reduceLeDiff]
    refine Or.elim (bt (rZ3)) (fun cZ4 => ?_) (fun cZ4 => ?_)
    · replace h := cond_t cZ4 h
      cases h
      try simp only [VS1, VS2, VS3, VS4, VS5, VS6, VT1, VT2, finM_ret, finM_nrm, decide_true, decide_false, List.nodup_nil, List.nodup_cons, oks_p, oks_m, oks_h, ne_eq, not_false_eq_true, Int.reduceEq, Int.reduceNe, true_and, Nat.reduceSub, Nat.reduceMul, ↓reduceIte, reduceCtorEq, Nat.reduceEqDiff, Nat.reduceAdd, Nat.reduceLeDiff, Int.reduceLE, cZ2, cZ4]
      all_goals simp [qL, qJ, qJ0, qS, qX, qR, qM, Shp, sub, tupd, VS1, VS2, VS3, VS4, VS5, VS6, VT1, VT2, V95]
    · replace h := cond_f cZ4 h
      cases h
      try simp only [VS1, VS2, VS3, VS4, VS5, VS6, VT1, VT2, finM_ret, finM_nrm, decide_true, decide_false, List.nodup_nil, List.nodup_cons, oks_p, oks_m, oks_h, ne_eq, not_false_eq_true, Int.reduceEq, Int.reduceNe, true_and, Nat.reduceSub, Nat.reduceMul, ↓reduceIte, reduceCtorEq, Nat.reduceEqDiff, Nat.reduceAdd, Nat.reduceLeDiff, Int.reduceLE, cZ2, cZ4]
      all_goals simp [qL, qJ, qJ0, qS, qX, qR, qM, Shp, sub, tupd, VS1, VS2, VS3, VS4, VS5, VS6, VT1, VT2, V95]
  · replace h := cond_f cZ2 h
    cases h
    try simp only [VS1, VS2, VS3, VS4, VS5, VS6, VT1, VT2, finM_ret, finM_nrm, decide_true, decide_false, List.nodup_nil, List.nodup_cons, oks_p, oks_m, oks_h, ne_eq, not_false_eq_true, Int.reduceEq, Int.reduceNe, true_and, Nat.reduceSub, Nat.reduceMul, ↓reduceIte, reduceCtorEq, Nat.reduceEqDiff, Nat.reduceAdd, Nat.reduceLeDiff, Int.reduceLE, cZ2]
    all_goals simp [qL, qJ, qJ0, qS, qX, qR, qM, Shp, sub, tupd, VS1, VS2, VS3, VS4, VS5, VS6, VT1, VT2, V95]
def S_spec_l18LinksL1 (linksZ0 : List TLink) (nodesZ0 : Int) (v : Int) : St := ⟨[(0, .lst .o 3 (linksZ0.map (e_TLink .o))), (1, .i nodesZ0), (5, .i v)], []⟩
def SX_spec_l18LinksL1 (linksZ0 : List TLink) (nodesZ0 : Int) (v : Unit) : St := ⟨[(0, .lst .o 3 (linksZ0.map (e_TLink .o))), (1, .i nodesZ0)], []⟩
theorem w_spec_l18LinksL1 (linksZ0 : List TLink) (nodesZ0 : Int) (sZ1 : Int) (o : Int ⊕ (Unit ⊕ Bool)) (h : M_spec_l18LinksL1 linksZ0 nodesZ0 sZ1 = some o) : AWP (OkS Try.prog) A66L3 (qL [0, 1, 5] [] (S_spec_l18LinksL1 linksZ0 nodesZ0) (qS (qX 0 [0, 1] [] (SX_spec_l18LinksL1 linksZ0 nodesZ0)) (qR V66 (fun r => .b r))) o) (S_spec_l18LinksL1 linksZ0 nodesZ0 sZ1) := by
  unfold M_spec_l18LinksL1 at h
  simp only [S_spec_l18LinksL1, A66L3]
  obtain ⟨oZ3, hoZ3, h⟩ := bind_s h
  try simp only [VS1, VS2, VS3, VS4, VS5, VS6, VT1, VT2, finM_ret, finM_nrm, decide_true, decide_false, List.nodup_nil, List.nodup_cons, oks_p, oks_m, oks_h, ne_eq, not_false_eq_true, Int.reduceEq, Int.reduceNe, true_and, Nat.reduceSub, Nat.reduceMul, ↓reduceIte, reduceCtorEq, Nat.reduceEqDiff, Nat.reduceAdd, Nat.reduceLeDiff, Int.reduceLE]
  refine join_rule0 (sh := (fun v => ⟨[(0, .lst .o 3 (linksZ0.map (e_TLink .o))), (1, .i nodesZ0), (5, .i sZ1), (13, .b v)], []⟩)) (s := oZ3) ?_ ?_
  · replace h := hoZ3
    refine Or.elim (bt (decide (sZ1 < (linksZ0.length : Int)))) (fun cZ2 => ?_) (fun cZ2 => ?_)
    · replace h := cond_t cZ2 h
      cases h
      try simp only [VS1, VS2, VS3, VS4, VS5, VS6, VT1, VT2, finM_ret, finM_nrm, decide_true, decide_false, List.nodup_nil, List.nodup_cons, oks_p, oks_m, oks_h, ne_eq, not_false_eq_true, Int.reduceEq, Int.reduceNe, true_and, Nat.reduceSub, Nat.reduceMul, ↓reduceIte, reduceCtorEq, Nat.reduceEqDiff, Nat.reduceAdd, Nat.reduceLeDiff, Int.reduceLE, cZ2]
      all_goals simp [qL, qJ, qJ0, qS, qX, qR, qM, Shp, sub, tupd, VS1, VS2, VS3, VS4, VS5, VS6, VT1, VT2]
    · replace h := cond_f cZ2 h
      cases h
      try simp only [VS1, VS2, VS3, VS4, VS5, VS6, VT1, VT2, finM_ret, finM_nrm, decide_true, decide_false, List.nodup_nil, List.nodup_cons, oks_p, oks_m, oks_h, ne_eq, not_false_eq_true, Int.reduceEq, Int.reduceNe, true_and, Nat.reduceSub, Nat.reduceMul, ↓reduceIte, reduceCtorEq, Nat.reduceEqDiff, Nat.reduceAdd, Nat.reduceLeDiff, Int.reduceLE, cZ2]
      all_goals simp [qL, qJ, qJ0, qS, qX, qR, qM, Shp, sub, tupd, VS1, VS2, VS3, VS4, VS5, VS6, VT1, VT2]
  · simp only [A66R1]
    refine Or.elim (bt (oZ3)) (fun cZ4 => ?_) (fun cZ4 => ?_)
    · replace h := cond_t cZ4 h
      obtain ⟨oZ9, hoZ9, h⟩ := bind_s h
      try simp only [VS1, VS2, VS3, VS4, VS5, VS6, VT1, VT2, finM_ret, finM_nrm, decide_true, decide_false, List.nodup_nil, List.nodup_cons, oks_p, oks_m, oks_h, ne_eq, not_false_eq_true, Int.reduceEq, Int.reduceNe, true_and, Nat.reduceSub, Nat.reduceMul, ↓reduceIte, reduceCtorEq, Nat.reduceEqDiff, Nat.reduceAdd, Nat.reduceLeDiff, Int.reduceLE, cZ4]
      refine join_rule0 (sh := (fun v => ⟨[(0, .lst .o 3 (linksZ0.map (e_TLink .o))), (1, .i nodesZ0), (5, .i sZ1), (37, .b v)], []⟩)) (s := oZ9) ?_ ?_
      · replace h := hoZ9
        obtain ⟨yZ5, hyZ5, h⟩ := bind_s h
        obtain ⟨hyZ5a, hyZ5b⟩ := geti_s hyZ5
        obtain ⟨rZ6, hrZ6, h⟩ := bind_s h
        simp only [VS1, VS2, VS3, VS4, VS5, VS6, VT1, VT2, finM_ret, finM_nrm, decide_true, decide_false, List.nodup_nil, List.nodup_cons, oks_p, oks_m, oks_h, ne_eq, not_false_eq_true, Int.reduceEq, Int.reduceNe, true_and, Nat.reduceSub, Nat.reduceMul, ↓reduceIte, reduceCtorEq, Nat.reduceEqDiff, Nat.reduceAdd, Nat.reduceLeDiff, Int.reduceLE, cZ4, hyZ5a, hyZ5b]
        refine call_s (by simp only [VS1, VS2, VS3, VS4, VS5, VS6, VT1, VT2, finM_ret, finM_nrm, decide_true, decide_false, List.nodup_nil, List.nodup_cons, oks_p, oks_m, oks_h, ne_eq, not_false_eq_true, Int.reduceEq, Int.reduceNe, true_and, Nat.reduceSub, Nat.reduceMul, ↓reduceIte, reduceCtorEq, Nat.reduceEqDiff, Nat.reduceAdd, Nat.reduceLeDiff, Int.reduceLE, cZ4, hyZ5a, hyZ5b]; exact w_spec_l18Pair _ _ _ hrZ6 ) ?_
        simp only [VA, VF1, ↓reduceIte, Nat.reduceEqDiff, Nat.reduceAdd, Nat.reduceMul, Nat.reduceSub, Nat.reduceLeDiff]
        refine Or.elim (bt (!rZ6)) (fun cZ7 => ?_) (fun cZ7 => ?_)
        · replace h := cond_t cZ7 h
          cases h
          try simp only [VS1, VS2, VS3, VS4, VS5, VS6, VT1, VT2, finM_ret, finM_nrm, decide_true, decide_false, List.nodup_nil, List.nodup_cons, oks_p, oks_m, oks_h, ne_eq, not_false_eq_true, Int.reduceEq, Int.reduceNe, true_and, Nat.reduceSub, Nat.reduceMul, ↓reduceIte, reduceCtorEq, Nat.reduceEqDiff, Nat.reduceAdd, Nat.reduceLeDiff, Int.reduceLE, cZ4, hyZ5a, hyZ5b, cZ7]
          all_goals simp [qL, qJ, qJ0, qS, qX, qR, qM, Shp, sub, tupd, VS1, VS2, VS3, VS4, VS5, VS6, VT1, VT2]
        · replace h := cond_f cZ7 h
          obtain ⟨rZ8, hrZ8, h⟩ := bind_s h
          simp only [VS1, VS2, VS3, VS4, VS5, VS6, VT1, VT2, finM_ret, finM_nrm, decide_true, decide_false, List.nodup_nil, List.nodup_cons, oks_p, oks_m, oks_h, ne_eq, not_false_eq_true, Int.reduceEq, Int.reduceNe, true_and, Nat.reduceSub, Nat.reduceMul, ↓reduceIte, reduceCtorEq, Nat.reduceEqDiff, Nat.reduceAdd, Nat.reduceLeDiff, Int.reduceLE, cZ4, hyZ5a, hyZ5b, cZ7]
          refine call_s (by simp only [VS1, VS2, VS3, VS4, VS5, VS6, VT1, VT2, finM_ret, finM_nrm, decide_true, decide_false, List.nodup_nil, List.nodup_cons, oks_p, oks_m, oks_h, ne_eq, not_false_eq_true, Int.reduceEq, Int.reduceNe, true_and, Nat.reduceSub, Nat.reduceMul, ↓reduceIte, reduceCtorEq, Nat.reduceEqDiff, Nat.reduceAdd, Nat.reduceLeDiff, Int.reduceLE, cZ4, hyZ5a, hyZ5b, cZ7]; exact w_spec_l1In _ _ _ hrZ8 ) ?_
          simp only [VA, VF1, ↓reduceIte, Nat.reduceEqDiff, Nat.reduceAdd, Nat.reduceMul, Nat.reduceSub, Nat.reduceLeDiff]
          cases h
          try simp only [VS1, VS2, VS3, VS4, VS5, VS6, VT1, VT2, finM_ret, finM_nrm, decide_true, decide_false, List.nodup_nil, List.nodup_cons, oks_p, oks_m, oks_h, ne_eq, not_false_eq_true, Int.reduceEq, Int.reduceNe, true_and, Nat.reduceSub, Nat.reduceMul, ↓reduceIte, reduceCtorEq, Nat.reduceEqDiff, Nat.reduceAdd, Nat.reduceLeDiff, Int.reduceLE, cZ4, hyZ5a, hyZ5b, cZ7]
          all_goals simp [qL, qJ, qJ0, qS, qX, qR, qM, Shp, sub, tupd, VS1, VS2, VS3, VS4, VS5, VS6, VT1, VT2]
      · simp only [A66R2]
        refine Or.elim (bt (oZ9)) (fun cZ10 => ?_) (fun cZ10 => ?_)
        · replace h := cond_t cZ10 h
          cases h
          try simp only [VS1, VS2, VS3, VS4, VS5, VS6, VT1, VT2, finM_ret, finM_nrm, decide_true, decide_false, List.nodup_nil, List.nodup_cons, oks_p, oks_m, oks_h, ne_eq, not_false_eq_true, Int.reduceEq, Int.reduceNe, true_and, Nat.reduceSub, Nat.reduceMul, ↓reduceIte, reduceCtorEq, Nat.reduceEqDiff, Nat.reduceAdd, Nat.reduceLeDiff, Int.reduceLE, cZ4, cZ10]
          all_goals simp [qL, qJ, qJ0, qS, qX, qR, qM, Shp, sub, tupd, VS1, VS2, VS3, VS4, VS5, VS6, VT1, VT2, V66]
        · replace h := cond_f cZ10 h
          cases h
          try simp only [VS1, VS2, VS3, VS4, VS5, VS6, VT1, VT2, finM_ret, finM_nrm, decide_true, decide_false, List.nodup_nil, List.nodup_cons, oks_p, oks_m, oks_h, ne_eq, not_false_eq_true, Int.reduceEq, Int.reduceNe, true_and, Nat.reduceSub, Nat.reduceMul, ↓reduceIte, reduceCtorEq, Nat.reduceEqDiff, Nat.reduceAdd, Nat.reduceLeDiff, Int.reduceLE, cZ4, cZ10]
          all_goals simp [qL, qJ, qJ0, qS, qX, qR, qM, Shp, sub, tupd, VS1, VS2, VS3, VS4, VS5, VS6, VT1, VT2, S_spec_l18LinksL1, SX_spec_l18LinksL1]
    · replace h := cond_f cZ4 h
      cases h
      try simp only [VS1, VS2, VS3, VS4, VS5, VS6, VT1, VT2, finM_ret, finM_nrm, decide_true, decide_false, List.nodup_nil, List.nodup_cons, oks_p, oks_m, oks_h, ne_eq, not_false_eq_true, Int.reduceEq, Int.reduceNe, true_and, Nat.reduceSub, Nat.reduceMul, ↓reduceIte, reduceCtorEq, Nat.reduceEqDiff, Nat.reduceAdd, Nat.reduceLeDiff, Int.reduceLE, cZ4]
      all_goals simp [qL, qJ, qJ0, qS, qX, qR, qM, Shp, sub, tupd, VS1, VS2, VS3, VS4, VS5, VS6, VT1, VT2, S_spec_l18LinksL1, SX_spec_l18LinksL1]
theorem w_spec_l18Links (linksZ0 : List TLink) (nodesZ0 : Int) {r : Bool} (h : M_spec_l18Links linksZ0 nodesZ0 = some r) : Ok Try.prog 66 [.lst .o 3 (linksZ0.map (e_TLink .o)), .i nodesZ0] ((fun r => .b r) r) := by
  refine ok_of_body hmix m66 rfl ?_
  unfold M_spec_l18Links at h
  simp only [A66, V66, body_eq]
  obtain ⟨oZ11, hoZ11, h⟩ := bind_s h
  try simp only [VS1, VS2, VS3, VS4, VS5, VS6, VT1, VT2, finM_ret, finM_nrm, decide_true, decide_false, List.nodup_nil, List.nodup_cons, oks_p, oks_m, oks_h, ne_eq, not_false_eq_true, Int.reduceEq, Int.reduceNe, true_and, Nat.reduceSub, Nat.reduceMul, ↓reduceIte, reduceCtorEq, Nat.reduceEqDiff, Nat.reduceAdd, Nat.reduceLeDiff, Int.reduceLE]
  refine join_rule (o := oZ11) (blk_rule sideR (loop_rule (w_spec_l18LinksL1 linksZ0 nodesZ0) hoZ11 ?_)) (fun vZ12 hv => ?_) (fun xZ13 hv e τ hne hq => ?_)
  · all_goals simp [qL, qJ, qJ0, qS, qX, qR, qM, Shp, sub, tupd, VS1, VS2, VS3, VS4, VS5, VS6, VT1, VT2, S_spec_l18LinksL1, SX_spec_l18LinksL1]
  · subst hv
    simp only [] at h
    simp only [SX_spec_l18LinksL1, A66R4]
    obtain ⟨rZ14, hrZ14, h⟩ := bind_s h
    simp only [VS1, VS2, VS3, VS4, VS5, VS6, VT1, VT2, finM_ret, finM_nrm, decide_true, decide_false, List.nodup_nil, List.nodup_cons, oks_p, oks_m, oks_h, ne_eq, not_false_eq_true, Int.reduceEq, Int.reduceNe, true_and, Nat.reduceSub, Nat.reduceMul, ↓reduceIte, reduceCtorEq, Nat.reduceEqDiff, Nat.reduceAdd, Nat.reduceLeDiff, Int.reduceLE]
    refine call_s (by simp only [VS1, VS2, VS3, VS4, VS5, VS6, VT1, VT2, finM_ret, finM_nrm, decide_true, decide_false, List.nodup_nil, List.nodup_cons, oks_p, oks_m, oks_h, ne_eq, not_false_eq_true, Int.reduceEq, Int.reduceNe, true_and, Nat.reduceSub, Nat.reduceMul, ↓reduceIte, reduceCtorEq, Nat.reduceEqDiff, Nat.reduceAdd, Nat.reduceLeDiff, Int.reduceLE]; exact w_spec_l1In _ _ _ hrZ14 ) ?_
    simp only [VA, VF1, ↓reduceIte, Nat.reduceEqDiff, Nat.reduceAdd, Nat.reduceMul, Nat.reduceSub, Nat.reduceLeDiff]
    refine Or.elim (bt (rZ14)) (fun cZ15 => ?_) (fun cZ15 => ?_)
    · replace h := cond_t cZ15 h
      cases h
      try simp only [VS1, VS2, VS3, VS4, VS5, VS6, VT1, VT2, finM_ret, finM_nrm, decide_true, decide_false, List.nodup_nil, List.nodup_cons, oks_p, oks_m, oks_h, ne_eq, not_false_eq_true, Int.reduceEq, Int.reduceNe, true_and, Nat.reduceSub, Nat.reduceMul, ↓reduceIte, reduceCtorEq, Nat.reduceEqDiff, Nat.reduceAdd, Nat.reduceLeDiff, Int.reduceLE, cZ15]
      all_goals simp [qL, qJ, qJ0, qS, qX, qR, qM, Shp, sub, tupd, VS1, VS2, VS3, VS4, VS5, VS6, VT1, VT2, V66]
    · replace h := cond_f cZ15 h
      cases h
      try simp only [VS1, VS2, VS3, VS4, VS5, VS6, VT1, VT2, finM_ret, finM_nrm, decide_true, decide_false, List.nodup_nil, List.nodup_cons, oks_p, oks_m, oks_h, ne_eq, not_false_eq_true, Int.reduceEq, Int.reduceNe, true_and, Nat.reduceSub, Nat.reduceMul, ↓reduceIte, reduceCtorEq, Nat.reduceEqDiff, Nat.reduceAdd, Nat.reduceLeDiff, Int.reduceLE, cZ15]
      all_goals simp [qL, qJ, qJ0, qS, qX, qR, qM, Shp, sub, tupd, VS1, VS2, VS3, VS4, VS5, VS6, VT1, VT2, V66]
  · subst hv
    simp only [] at h
    obtain ⟨rfl, qZ16⟩ := hq
    cases h
    exact qZ16
def S_spec_l18GoodL1 (listZ0 : List TTributary) (nodesZ0 : Int) (v : Int) : St := ⟨[(0, .lst .o 3 (listZ0.map (e_TTributary .o))), (1, .i nodesZ0), (5, .i v)], []⟩
def SX_spec_l18GoodL1 (listZ0 : List TTributary) (nodesZ0 : Int) (v : Unit) : St := ⟨[(0, .lst .o 3 (listZ0.map (e_TTributary .o))), (1, .i nodesZ0)], []⟩
theorem w_spec_l18GoodL1 (listZ0 : List TTributary) (nodesZ0 : Int) (sZ1 : Int) (o : Int ⊕ (Unit ⊕ Bool)) (h : M_spec_l18GoodL1 listZ0 nodesZ0 sZ1 = some o) : AWP (OkS Try.prog) A54L3 (qL [0, 1, 5] [] (S_spec_l18GoodL1 listZ0 nodesZ0) (qS (qX 0 [0, 1] [] (SX_spec_l18GoodL1 listZ0 nodesZ0)) (qR V54 (fun r => .b r))) o) (S_spec_l18GoodL1 listZ0 nodesZ0 sZ1) := by
  unfold M_spec_l18GoodL1 at h
  simp only [S_spec_l18GoodL1, A54L3]
  obtain ⟨oZ3, hoZ3, h⟩ := bind_s h
  try simp only [VS1, VS2, VS3, VS4, VS5, VS6, VT1, VT2, finM_ret, finM_nrm, decide_true, decide_false, List.nodup_nil, List.nodup_cons, oks_p, oks_m, oks_h, ne_eq, not_false_eq_true, Int.reduceEq, Int.reduceNe, true_and, Nat.reduceSub, Nat.reduceMul, ↓reduceIte, reduceCtorEq, Nat.reduceEqDiff, Nat.reduceAdd, Nat.reduceLeDiff, Int.reduceLE]
  refine join_rule0 (sh := (fun v => ⟨[(0, .lst .o 3 (listZ0.map (e_TTributary .o))), (1, .i nodesZ0), (5, .i sZ1), (13, .b v)], []⟩)) (s := oZ3) ?_ ?_
  · replace h := hoZ3
    refine Or.elim (bt (decide (sZ1 < (listZ0.length : Int)))) (fun cZ2 => ?_) (fun cZ2 => ?_)
    · replace h := cond_t cZ2 h
      cases h
      try simp only [VS1, VS2, VS3, VS4, VS5, VS6, VT1, VT2, finM_ret, finM_nrm, decide_true, decide_false, List.nodup_nil, List.nodup_cons, oks_p, oks_m, oks_h, ne_eq, not_false_eq_true, Int.reduceEq, Int.reduceNe, true_and, Nat.reduceSub, Nat.reduceMul, ↓reduceIte, reduceCtorEq, Nat.reduceEqDiff, Nat.reduceAdd, Nat.reduceLeDiff, Int.reduceLE, cZ2]
      all_goals simp [qL, qJ, qJ0, qS, qX, qR, qM, Shp, sub, tupd, VS1, VS2, VS3, VS4, VS5, VS6, VT1, VT2]
    · replace h := cond_f cZ2 h
      cases h
      try simp only [VS1, VS2, VS3, VS4, VS5, VS6, VT1, VT2, finM_ret, finM_nrm, decide_true, decide_false, List.nodup_nil, List.nodup_cons, oks_p, oks_m, oks_h, ne_eq, not_false_eq_true, Int.reduceEq, Int.reduceNe, true_and, Nat.reduceSub, Nat.reduceMul, ↓reduceIte, reduceCtorEq, Nat.reduceEqDiff, Nat.reduceAdd, Nat.reduceLeDiff, Int.reduceLE, cZ2]
      all_goals simp [qL, qJ, qJ0, qS, qX, qR, qM, Shp, sub, tupd, VS1, VS2, VS3, VS4, VS5, VS6, VT1, VT2]
  · simp only [A54R1]
    refine Or.elim (bt (oZ3)) (fun cZ4 => ?_) (fun cZ4 => ?_)
    · replace h := cond_t cZ4 h
      obtain ⟨oZ9, hoZ9, h⟩ := bind_s h
      try simp only [VS1, VS2, VS3, VS4, VS5, VS6, VT1, VT2, finM_ret, finM_nrm, decide_true, decide_false, List.nodup_nil, List.nodup_cons, oks_p, oks_m, oks_h, ne_eq, not_false_eq_true, Int.reduceEq, Int.reduceNe, true_and, Nat.reduceSub, Nat.reduceMul, ↓reduceIte, reduceCtorEq, Nat.reduceEqDiff, Nat.reduceAdd, Nat.reduceLeDiff, Int.reduceLE, cZ4]
      refine join_rule0 (sh := (fun v => ⟨[(0, .lst .o 3 (listZ0.map (e_TTributary .o))), (1, .i nodesZ0), (5, .i sZ1), (37, .b v)], []⟩)) (s := oZ9) ?_ ?_
      · replace h := hoZ9
        obtain ⟨yZ5, hyZ5, h⟩ := bind_s h
        obtain ⟨hyZ5a, hyZ5b⟩ := geti_s hyZ5
        obtain ⟨rZ6, hrZ6, h⟩ := bind_s h
        simp only [VS1, VS2, VS3, VS4, VS5, VS6, VT1, VT2, finM_ret, finM_nrm, decide_true, decide_false, List.nodup_nil, List.nodup_cons, oks_p, oks_m, oks_h, ne_eq, not_false_eq_true, Int.reduceEq, Int.reduceNe, true_and, Nat.reduceSub, Nat.reduceMul, ↓reduceIte, reduceCtorEq, Nat.reduceEqDiff, Nat.reduceAdd, Nat.reduceLeDiff, Int.reduceLE, cZ4, hyZ5a, hyZ5b]
        refine call_s (by simp only [VS1, VS2, VS3, VS4, VS5, VS6, VT1, VT2, finM_ret, finM_nrm, decide_true, decide_false, List.nodup_nil, List.nodup_cons, oks_p, oks_m, oks_h, ne_eq, not_false_eq_true, Int.reduceEq, Int.reduceNe, true_and, Nat.reduceSub, Nat.reduceMul, ↓reduceIte, reduceCtorEq, Nat.reduceEqDiff, Nat.reduceAdd, Nat.reduceLeDiff, Int.reduceLE, cZ4, hyZ5a, hyZ5b]; exact w_spec_l18Pair _ _ _ hrZ6 ) ?_
        simp only [VA, VF1, ↓reduceIte, Nat.reduceEqDiff, Nat.reduceAdd, Nat.reduceMul, Nat.reduceSub, Nat.reduceLeDiff]
        refine Or.elim (bt (!rZ6)) (fun cZ7 => ?_) (fun cZ7 => ?_)
        · replace h := cond_t cZ7 h
          cases h
          try simp only [VS1, VS2, VS3, VS4, VS5, VS6, VT1, VT2, finM_ret, finM_nrm, decide_true, decide_false, List.nodup_nil, List.nodup_cons, oks_p, oks_m, oks_h, ne_eq, not_false_eq_true, Int.reduceEq, Int.reduceNe, true_and, Nat.reduceSub, Nat.reduceMul, ↓reduceIte, reduceCtorEq, Nat.reduceEqDiff, Nat.reduceAdd, Nat.reduceLeDiff, Int.reduceLE, cZ4, hyZ5a, hyZ5b, cZ7]
          all_goals simp [qL, qJ, qJ0, qS, qX, qR, qM, Shp, sub, tupd, VS1, VS2, VS3, VS4, VS5, VS6, VT1, VT2]
        · replace h := cond_f cZ7 h
          obtain ⟨rZ8, hrZ8, h⟩ := bind_s h
          simp only [VS1, VS2, VS3, VS4, VS5, VS6, VT1, VT2, finM_ret, finM_nrm, decide_true, decide_false, List.nodup_nil, List.nodup_cons, oks_p, oks_m, oks_h, ne_eq, not_false_eq_true, Int.reduceEq, Int.reduceNe, true_and, Nat.reduceSub, Nat.reduceMul, ↓reduceIte, reduceCtorEq, Nat.reduceEqDiff, Nat.reduceAdd, Nat.reduceLeDiff, Int.reduceLE, cZ4, hyZ5a, hyZ5b, cZ7]
          refine call_s (by simp only [VS1, VS2, VS3, VS4, VS5, VS6, VT1, VT2, finM_ret, finM_nrm, decide_true, decide_false, List.nodup_nil, List.nodup_cons, oks_p, oks_m, oks_h, ne_eq, not_false_eq_true, Int.reduceEq, Int.reduceNe, true_and, Nat.reduceSub, Nat.reduceMul, ↓reduceIte, reduceCtorEq, Nat.reduceEqDiff, Nat.reduceAdd, Nat.reduceLeDiff, Int.reduceLE, cZ4, hyZ5a, hyZ5b, cZ7]; exact w_spec_l1In _ _ _ hrZ8 ) ?_
          simp only [VA, VF1, ↓reduceIte, Nat.reduceEqDiff, Nat.reduceAdd, Nat.reduceMul, Nat.reduceSub, Nat.reduceLeDiff]
          cases h
          try simp only [VS1, VS2, VS3, VS4, VS5, VS6, VT1, VT2, finM_ret, finM_nrm, decide_true, decide_false, List.nodup_nil, List.nodup_cons, oks_p, oks_m, oks_h, ne_eq, not_false_eq_true, Int.reduceEq, Int.reduceNe, true_and, Nat.reduceSub, Nat.reduceMul, ↓reduceIte, reduceCtorEq, Nat.reduceEqDiff, Nat.reduceAdd, Nat.reduceLeDiff, Int.reduceLE, cZ4, hyZ5a, hyZ5b, cZ7]
          all_goals simp [qL, qJ, qJ0, qS, qX, qR, qM, Shp, sub, tupd, VS1, VS2, VS3, VS4, VS5, VS6, VT1, VT2]
      · simp only [A54R2]
        refine Or.elim (bt (oZ9)) (fun cZ10 => ?_) (fun cZ10 => ?_)
        · replace h := cond_t cZ10 h
          cases h
          try simp only [VS1, VS2, VS3, VS4, VS5, VS6, VT1, VT2, finM_ret, finM_nrm, decide_true, decide_false, List.nodup_nil, List.nodup_cons, oks_p, oks_m, oks_h, ne_eq, not_false_eq_true, Int.reduceEq, Int.reduceNe, true_and, Nat.reduceSub, Nat.reduceMul, ↓reduceIte, reduceCtorEq, Nat.reduceEqDiff, Nat.reduceAdd, Nat.reduceLeDiff, Int.reduceLE, cZ4, cZ10]
          all_goals simp [qL, qJ, qJ0, qS, qX, qR, qM, Shp, sub, tupd, VS1, VS2, VS3, VS4, VS5, VS6, VT1, VT2, V54]
        · replace h := cond_f cZ10 h
          cases h
          try simp only [VS1, VS2, VS3, VS4, VS5, VS6, VT1, VT2, finM_ret, finM_nrm, decide_true, decide_false, List.nodup_nil, List.nodup_cons, oks_p, oks_m, oks_h, ne_eq, not_false_eq_true, Int.reduceEq, Int.reduceNe, true_and, Nat.reduceSub, Nat.reduceMul, ↓reduceIte, reduceCtorEq, Nat.reduceEqDiff, Nat.reduceAdd, Nat.reduceLeDiff, Int.reduceLE, cZ4, cZ10]
          all_goals simp [qL, qJ, qJ0, qS, qX, qR, qM, Shp, sub, tupd, VS1, VS2, VS3, VS4, VS5, VS6, VT1, VT2, S_spec_l18GoodL1, SX_spec_l18GoodL1]
    · replace h := cond_f cZ4 h
      cases h
      try simp only [VS1, VS2, VS3, VS4, VS5, VS6, VT1, VT2, finM_ret, finM_nrm, decide_true, decide_false, List.nodup_nil, List.nodup_cons, oks_p, oks_m, oks_h, ne_eq, not_false_eq_true, Int.reduceEq, Int.reduceNe, true_and, Nat.reduceSub, Nat.reduceMul, ↓reduceIte, reduceCtorEq, Nat.reduceEqDiff, Nat.reduceAdd, Nat.reduceLeDiff, Int.reduceLE, cZ4]
      all_goals simp [qL, qJ, qJ0, qS, qX, qR, qM, Shp, sub, tupd, VS1, VS2, VS3, VS4, VS5, VS6, VT1, VT2, S_spec_l18GoodL1, SX_spec_l18GoodL1]
theorem w_spec_l18Good (listZ0 : List TTributary) (nodesZ0 : Int) {r : Bool} (h : M_spec_l18Good listZ0 nodesZ0 = some r) : Ok Try.prog 54 [.lst .o 3 (listZ0.map (e_TTributary .o)), .i nodesZ0] ((fun r => .b r) r) := by
  refine ok_of_body hmix m54 rfl ?_
  unfold M_spec_l18Good at h
  simp only [A54, V54, body_eq]
  obtain ⟨oZ11, hoZ11, h⟩ := bind_s h
  try simp only [VS1, VS2, VS3, VS4, VS5, VS6, VT1, VT2, finM_ret, finM_nrm, decide_true, decide_false, List.nodup_nil, List.nodup_cons, oks_p, oks_m, oks_h, ne_eq, not_false_eq_true, Int.reduceEq, Int.reduceNe, true_and, Nat.reduceSub, Nat.reduceMul, ↓reduceIte, reduceCtorEq, Nat.reduceEqDiff, Nat.reduceAdd, Nat.reduceLeDiff, Int.reduceLE]
  refine join_rule (o := oZ11) (blk_rule sideR (loop_rule (w_spec_l18GoodL1 listZ0 nodesZ0) hoZ11 ?_)) (fun vZ12 hv => ?_) (fun xZ13 hv e τ hne hq => ?_)
  · all_goals simp [qL, qJ, qJ0, qS, qX, qR, qM, Shp, sub, tupd, VS1, VS2, VS3, VS4, VS5, VS6, VT1, VT2, S_spec_l18GoodL1, SX_spec_l18GoodL1]
  · subst hv
    simp only [] at h
    simp only [SX_spec_l18GoodL1, A54R4]
    obtain ⟨rZ14, hrZ14, h⟩ := bind_s h
    simp only [VS1, VS2, VS3, VS4, VS5, VS6, VT1, VT2, finM_ret, finM_nrm, decide_true, decide_false, List.nodup_nil, List.nodup_cons, oks_p, oks_m, oks_h, ne_eq, not_false_eq_true, Int.reduceEq, Int.reduceNe, true_and, Nat.reduceSub, Nat.reduceMul, ↓reduceIte, reduceCtorEq, Nat.reduceEqDiff, Nat.reduceAdd, Nat.reduceLeDiff, Int.reduceLE]
    refine call_s (by simp only [VS1, VS2, VS3, VS4, VS5, VS6, VT1, VT2, finM_ret, finM_nrm, decide_true, decide_false, List.nodup_nil, List.nodup_cons, oks_p, oks_m, oks_h, ne_eq, not_false_eq_true, Int.reduceEq, Int.reduceNe, true_and, Nat.reduceSub, Nat.reduceMul, ↓reduceIte, reduceCtorEq, Nat.reduceEqDiff, Nat.reduceAdd, Nat.reduceLeDiff, Int.reduceLE]; exact w_spec_l1In _ _ _ hrZ14 ) ?_
    simp only [VA, VF1, ↓reduceIte, Nat.reduceEqDiff, Nat.reduceAdd, Nat.reduceMul, Nat.reduceSub, Nat.reduceLeDiff]
    refine Or.elim (bt (rZ14)) (fun cZ15 => ?_) (fun cZ15 => ?_)
    · replace h := cond_t cZ15 h
      cases h
      try simp only [VS1, VS2, VS3, VS4, VS5, VS6, VT1, VT2, finM_ret, finM_nrm, decide_true, decide_false, List.nodup_nil, List.nodup_cons, oks_p, oks_m, oks_h, ne_eq, not_false_eq_true, Int.reduceEq, Int.reduceNe, true_and, Nat.reduceSub, Nat.reduceMul, ↓reduceIte, reduceCtorEq, Nat.reduceEqDiff, Nat.reduceAdd, Nat.reduceLeDiff, Int.reduceLE, cZ15]
      all_goals simp [qL, qJ, qJ0, qS, qX, qR, qM, Shp, sub, tupd, VS1, VS2, VS3, VS4, VS5, VS6, VT1, VT2, V54]
    · replace h := cond_f cZ15 h
      cases h
      try simp only [VS1, VS2, VS3, VS4, VS5, VS6, VT1, VT2, finM_ret, finM_nrm, decide_true, decide_false, List.nodup_nil, List.nodup_cons, oks_p, oks_m, oks_h, ne_eq, not_false_eq_true, Int.reduceEq, Int.reduceNe, true_and, Nat.reduceSub, Nat.reduceMul, ↓reduceIte, reduceCtorEq, Nat.reduceEqDiff, Nat.reduceAdd, Nat.reduceLeDiff, Int.reduceLE, cZ15]
      all_goals simp [qL, qJ, qJ0, qS, qX, qR, qM, Shp, sub, tupd, VS1, VS2, VS3, VS4, VS5, VS6, VT1, VT2, V54]
  · subst hv
    simp only [] at h
    obtain ⟨rfl, qZ16⟩ := hq
    cases h
    exact qZ16
def S_spec_l1HasL1 (lZ0 : List Int) (nZ0 : Int) (v : Int) : St := ⟨[(0, .lst .o 1 (lZ0.map AV.i)), (1, .i nZ0), (5, .i v)], []⟩
def SX_spec_l1HasL1 (v : Unit) : St := ⟨[], []⟩
theorem w_spec_l1HasL1 (lZ0 : List Int) (nZ0 : Int) (sZ1 : Int) (o : Int ⊕ (Unit ⊕ Bool)) (h : M_spec_l1HasL1 lZ0 nZ0 sZ1 = some o) : AWP (OkS Try.prog) A79L1 (qL [0, 1, 5] [] (S_spec_l1HasL1 lZ0 nZ0) (qS (qX 0 [] [] (SX_spec_l1HasL1)) (qR V79 (fun r => .b r))) o) (S_spec_l1HasL1 lZ0 nZ0 sZ1) := by
  unfold M_spec_l1HasL1 at h
  simp only [S_spec_l1HasL1, A79L1]
  refine Or.elim (bt (decide (sZ1 < (lZ0.length : Int)))) (fun cZ2 => ?_) (fun cZ2 => ?_)
  · replace h := cond_t cZ2 h
    obtain ⟨yZ3, hyZ3, h⟩ := bind_s h
    obtain ⟨hyZ3a, hyZ3b⟩ := geti_s hyZ3
    refine Or.elim (bt (yZ3 == nZ0)) (fun cZ4 => ?_) (fun cZ4 => ?_)
    · replace h := cond_t cZ4 h
      cases h
      try simp only [VS1, VS2, VS3, VS4, VS5, VS6, VT1, VT2, finM_ret, finM_nrm, decide_true, decide_false, List.nodup_nil, List.nodup_cons, oks_p, oks_m, oks_h, ne_eq, not_false_eq_true, Int.reduceEq, Int.reduceNe, true_and, Nat.reduceSub, Nat.reduceMul, ↓reduceIte, reduceCtorEq, Nat.reduceEqDiff, Nat.reduceAdd, Nat.reduceLeDiff, Int.reduceLE, cZ2, hyZ3a, hyZ3b, cZ4]
      all_goals simp [qL, qJ, qJ0, qS, qX, qR, qM, Shp, sub, tupd, VS1, VS2, VS3, VS4, VS5, VS6, VT1, VT2, V79]
    · replace h := cond_f cZ4 h
      cases h
      try simp only [VS1, VS2, VS3, VS4, VS5, VS6, VT1, VT2, finM_ret, finM_nrm, decide_true, decide_false, List.nodup_nil, List.nodup_cons, oks_p, oks_m, oks_h, ne_eq, not_false_eq_true, Int.reduceEq, Int.reduceNe, true_and, Nat.reduceSub, Nat.reduceMul, ↓reduceIte, reduceCtorEq, Nat.reduceEqDiff, Nat.reduceAdd, Nat.reduceLeDiff, Int.reduceLE, cZ2, hyZ3a, hyZ3b, cZ4]
      all_goals simp [qL, qJ, qJ0, qS, qX, qR, qM, Shp, sub, tupd, VS1, VS2, VS3, VS4, VS5, VS6, VT1, VT2, S_spec_l1HasL1, SX_spec_l1HasL1]
  · replace h := cond_f cZ2 h
    cases h
    try simp only [VS1, VS2, VS3, VS4, VS5, VS6, VT1, VT2, finM_ret, finM_nrm, decide_true, decide_false, List.nodup_nil, List.nodup_cons, oks_p, oks_m, oks_h, ne_eq, not_false_eq_true, Int.reduceEq, Int.reduceNe, true_and, Nat.reduceSub, Nat.reduceMul, ↓reduceIte, reduceCtorEq, Nat.reduceEqDiff, Nat.reduceAdd, Nat.reduceLeDiff, Int.reduceLE, cZ2]
    all_goals simp [qL, qJ, qJ0, qS, qX, qR, qM, Shp, sub, tupd, VS1, VS2, VS3, VS4, VS5, VS6, VT1, VT2, S_spec_l1HasL1, SX_spec_l1HasL1]
theorem w_spec_l1Has (lZ0 : List Int) (nZ0 : Int) {r : Bool} (h : M_spec_l1Has lZ0 nZ0 = some r) : Ok Try.prog 79 [.lst .o 1 (lZ0.map AV.i), .i nZ0] ((fun r => .b r) r) := by
  refine ok_of_body hmix m79 rfl ?_
  unfold M_spec_l1Has at h
  simp only [A79, V79, body_eq]
  obtain ⟨oZ5, hoZ5, h⟩ := bind_s h
  try simp only [VS1, VS2, VS3, VS4, VS5, VS6, VT1, VT2, finM_ret, finM_nrm, decide_true, decide_false, List.nodup_nil, List.nodup_cons, oks_p, oks_m, oks_h, ne_eq, not_false_eq_true, Int.reduceEq, Int.reduceNe, true_and, Nat.reduceSub, Nat.reduceMul, ↓reduceIte, reduceCtorEq, Nat.reduceEqDiff, Nat.reduceAdd, Nat.reduceLeDiff, Int.reduceLE]
  refine join_rule (o := oZ5) (blk_rule sideR (loop_rule (w_spec_l1HasL1 lZ0 nZ0) hoZ5 ?_)) (fun vZ6 hv => ?_) (fun xZ7 hv e τ hne hq => ?_)
  · all_goals simp [qL, qJ, qJ0, qS, qX, qR, qM, Shp, sub, tupd, VS1, VS2, VS3, VS4, VS5, VS6, VT1, VT2, S_spec_l1HasL1, SX_spec_l1HasL1]
  · subst hv
    simp only [] at h
    simp only [SX_spec_l1HasL1, A79R2]
    cases h
    try simp only [VS1, VS2, VS3, VS4, VS5, VS6, VT1, VT2, finM_ret, finM_nrm, decide_true, decide_false, List.nodup_nil, List.nodup_cons, oks_p, oks_m, oks_h, ne_eq, not_false_eq_true, Int.reduceEq, Int.reduceNe, true_and, Nat.reduceSub, Nat.reduceMul, ↓reduceIte, reduceCtorEq, Nat.reduceEqDiff, Nat.reduceAdd, Nat.reduceLeDiff, Int.reduceLE]
    all_goals simp [qL, qJ, qJ0, qS, qX, qR, qM, Shp, sub, tupd, VS1, VS2, VS3, VS4, VS5, VS6, VT1, VT2, V79]
  · subst hv
    simp only [] at h
    obtain ⟨rfl, qZ8⟩ := hq
    cases h
    exact qZ8
theorem w_spec_l1Own (lZ0 : List Int) {r : List Int} (h : M_spec_l1Own lZ0 = some r) : Ok Try.prog 112 [.lst .o 1 (lZ0.map AV.i)] ((fun r => .lst .u 1 (r.map AV.i)) r) := by
  refine ok_of_body hmix m112 rfl ?_
  unfold M_spec_l1Own at h
  simp only [A112, V112, body_eq]
  obtain ⟨uZ1, huZ1, h⟩ := bind_s h
  have huZ1g := grd_s huZ1
  cases h
  try simp only [VS1, VS2, VS3, VS4, VS5, VS6, VT1, VT2, finM_ret, finM_nrm, decide_true, decide_false, List.nodup_nil, List.nodup_cons, oks_p, oks_m, oks_h, ne_eq, not_false_eq_true, Int.reduceEq, Int.reduceNe, true_and, Nat.reduceSub, Nat.reduceMul, ↓reduceIte, reduceCtorEq, Nat.reduceEqDiff, Nat.reduceAdd, Nat.reduceLeDiff, Int.reduceLE, huZ1g]
  all_goals simp [qL, qJ, qJ0, qS, qX, qR, qM, Shp, sub, tupd, VS1, VS2, VS3, VS4, VS5, VS6, VT1, VT2, V112]
def S_spec_l18FindL1 (linksZ0 : List TLink) (freeZ0 : List Int) (atZ0 : Int) (toZ0 : Int) (rateZ0 : Int) (kZ0 : Int) (seenZ0 : List Int) (v : Int) : St := ⟨[(0, .lst .o 3 (linksZ0.map (e_TLink .o))), (1, .lst .o 1 (freeZ0.map AV.i)), (2, .i atZ0), (3, .i toZ0), (4, .i rateZ0), (5, .i kZ0), (6, .lst .o 1 (seenZ0.map AV.i)), (15, .i v)], []⟩
def SX_spec_l18FindL1 (v : Unit) : St := ⟨[], []⟩
theorem w_spec_l18FindL1 (linksZ0 : List TLink) (freeZ0 : List Int) (atZ0 : Int) (toZ0 : Int) (rateZ0 : Int) (kZ0 : Int) (seenZ0 : List Int) (rcZ0 : List TLink → List Int → Int → Int → Int → Int → List Int → Option (List Int)) (ihZ0 : ∀ (linksZ0 : List TLink) (freeZ0 : List Int) (atZ0 : Int) (toZ0 : Int) (rateZ0 : Int) (kZ0 : Int) (seenZ0 : List Int) {r : List Int}, rcZ0 linksZ0 freeZ0 atZ0 toZ0 rateZ0 kZ0 seenZ0 = some r → Ok Try.prog 100 [.lst .o 3 (linksZ0.map (e_TLink .o)), .lst .o 1 (freeZ0.map AV.i), .i atZ0, .i toZ0, .i rateZ0, .i kZ0, .lst .o 1 (seenZ0.map AV.i)] ((fun r => .lst .u 1 (r.map AV.i)) r)) (sZ1 : Int) (o : Int ⊕ (Unit ⊕ (List Int))) (h : M_spec_l18FindL1 linksZ0 freeZ0 atZ0 toZ0 rateZ0 kZ0 seenZ0 rcZ0 sZ1 = some o) : AWP (OkS Try.prog) A100L5 (qL [0, 1, 2, 3, 4, 5, 6, 15] [] (S_spec_l18FindL1 linksZ0 freeZ0 atZ0 toZ0 rateZ0 kZ0 seenZ0) (qS (qX 0 [] [] (SX_spec_l18FindL1)) (qR V100 (fun r => .lst .u 1 (r.map AV.i)))) o) (S_spec_l18FindL1 linksZ0 freeZ0 atZ0 toZ0 rateZ0 kZ0 seenZ0 sZ1) := by
  unfold M_spec_l18FindL1 at h
  simp only [S_spec_l18FindL1, A100L5]
  obtain ⟨oZ3, hoZ3, h⟩ := bind_s h
  try simp only [VS1, VS2, VS3, VS4, VS5, VS6, VT1, VT2, finM_ret, finM_nrm, decide_true, decide_false, List.nodup_nil, List.nodup_cons, oks_p, oks_m, oks_h, ne_eq, not_false_eq_true, Int.reduceEq, Int.reduceNe, true_and, Nat.reduceSub, Nat.reduceMul, ↓reduceIte, reduceCtorEq, Nat.reduceEqDiff, Nat.reduceAdd, Nat.reduceLeDiff, Int.reduceLE]
  refine join_rule0 (sh := (fun v => ⟨[(0, .lst .o 3 (linksZ0.map (e_TLink .o))), (1, .lst .o 1 (freeZ0.map AV.i)), (2, .i atZ0), (3, .i toZ0), (4, .i rateZ0), (5, .i kZ0), (6, .lst .o 1 (seenZ0.map AV.i)), (15, .i sZ1), (25, .b v)], []⟩)) (s := oZ3) ?_ ?_
  · replace h := hoZ3
    refine Or.elim (bt (decide (sZ1 < (linksZ0.length : Int)))) (fun cZ2 => ?_) (fun cZ2 => ?_)
    · replace h := cond_t cZ2 h
      cases h
      try simp only [VS1, VS2, VS3, VS4, VS5, VS6, VT1, VT2, finM_ret, finM_nrm, decide_true, decide_false, List.nodup_nil, List.nodup_cons, oks_p, oks_m, oks_h, ne_eq, not_false_eq_true, Int.reduceEq, Int.reduceNe, true_and, Nat.reduceSub, Nat.reduceMul, ↓reduceIte, reduceCtorEq, Nat.reduceEqDiff, Nat.reduceAdd, Nat.reduceLeDiff, Int.reduceLE, cZ2]
      all_goals simp [qL, qJ, qJ0, qS, qX, qR, qM, Shp, sub, tupd, VS1, VS2, VS3, VS4, VS5, VS6, VT1, VT2]
    · replace h := cond_f cZ2 h
      cases h
      try simp only [VS1, VS2, VS3, VS4, VS5, VS6, VT1, VT2, finM_ret, finM_nrm, decide_true, decide_false, List.nodup_nil, List.nodup_cons, oks_p, oks_m, oks_h, ne_eq, not_false_eq_true, Int.reduceEq, Int.reduceNe, true_and, Nat.reduceSub, Nat.reduceMul, ↓reduceIte, reduceCtorEq, Nat.reduceEqDiff, Nat.reduceAdd, Nat.reduceLeDiff, Int.reduceLE, cZ2]
      all_goals simp [qL, qJ, qJ0, qS, qX, qR, qM, Shp, sub, tupd, VS1, VS2, VS3, VS4, VS5, VS6, VT1, VT2]
  · simp only [A100R1]
    refine Or.elim (bt (oZ3)) (fun cZ4 => ?_) (fun cZ4 => ?_)
    · replace h := cond_t cZ4 h
      obtain ⟨oZ7, hoZ7, h⟩ := bind_s h
      try simp only [VS1, VS2, VS3, VS4, VS5, VS6, VT1, VT2, finM_ret, finM_nrm, decide_true, decide_false, List.nodup_nil, List.nodup_cons, oks_p, oks_m, oks_h, ne_eq, not_false_eq_true, Int.reduceEq, Int.reduceNe, true_and, Nat.reduceSub, Nat.reduceMul, ↓reduceIte, reduceCtorEq, Nat.reduceEqDiff, Nat.reduceAdd, Nat.reduceLeDiff, Int.reduceLE, cZ4]
      refine join_rule0 (sh := (fun v => ⟨[(0, .lst .o 3 (linksZ0.map (e_TLink .o))), (1, .lst .o 1 (freeZ0.map AV.i)), (2, .i atZ0), (3, .i toZ0), (4, .i rateZ0), (5, .i kZ0), (6, .lst .o 1 (seenZ0.map AV.i)), (15, .i sZ1), (16, .i v)], []⟩)) (s := oZ7) ?_ ?_
      · replace h := hoZ7
        obtain ⟨yZ5, hyZ5, h⟩ := bind_s h
        obtain ⟨hyZ5a, hyZ5b⟩ := geti_s hyZ5
        refine Or.elim (bt (yZ5.A == atZ0)) (fun cZ6 => ?_) (fun cZ6 => ?_)
        · replace h := cond_t cZ6 h
          cases h
          try simp only [VS1, VS2, VS3, VS4, VS5, VS6, VT1, VT2, finM_ret, finM_nrm, decide_true, decide_false, List.nodup_nil, List.nodup_cons, oks_p, oks_m, oks_h, ne_eq, not_false_eq_true, Int.reduceEq, Int.reduceNe, true_and, Nat.reduceSub, Nat.reduceMul, ↓reduceIte, reduceCtorEq, Nat.reduceEqDiff, Nat.reduceAdd, Nat.reduceLeDiff, Int.reduceLE, cZ4, hyZ5a, hyZ5b, cZ6]
          all_goals simp [qL, qJ, qJ0, qS, qX, qR, qM, Shp, sub, tupd, VS1, VS2, VS3, VS4, VS5, VS6, VT1, VT2]
        · replace h := cond_f cZ6 h
          cases h
          try simp only [VS1, VS2, VS3, VS4, VS5, VS6, VT1, VT2, finM_ret, finM_nrm, decide_true, decide_false, List.nodup_nil, List.nodup_cons, oks_p, oks_m, oks_h, ne_eq, not_false_eq_true, Int.reduceEq, Int.reduceNe, true_and, Nat.reduceSub, Nat.reduceMul, ↓reduceIte, reduceCtorEq, Nat.reduceEqDiff, Nat.reduceAdd, Nat.reduceLeDiff, Int.reduceLE, cZ4, hyZ5a, hyZ5b, cZ6]
          all_goals simp [qL, qJ, qJ0, qS, qX, qR, qM, Shp, sub, tupd, VS1, VS2, VS3, VS4, VS5, VS6, VT1, VT2]
      · simp only [A100R2]
        obtain ⟨oZ10, hoZ10, h⟩ := bind_s h
        try simp only [VS1, VS2, VS3, VS4, VS5, VS6, VT1, VT2, finM_ret, finM_nrm, decide_true, decide_false, List.nodup_nil, List.nodup_cons, oks_p, oks_m, oks_h, ne_eq, not_false_eq_true, Int.reduceEq, Int.reduceNe, true_and, Nat.reduceSub, Nat.reduceMul, ↓reduceIte, reduceCtorEq, Nat.reduceEqDiff, Nat.reduceAdd, Nat.reduceLeDiff, Int.reduceLE, cZ4]
        refine join_rule0 (sh := (fun v => ⟨[(0, .lst .o 3 (linksZ0.map (e_TLink .o))), (1, .lst .o 1 (freeZ0.map AV.i)), (2, .i atZ0), (3, .i toZ0), (4, .i rateZ0), (5, .i kZ0), (6, .lst .o 1 (seenZ0.map AV.i)), (15, .i sZ1), (16, .i v)], []⟩)) (s := oZ10) ?_ ?_
        · replace h := hoZ10
          obtain ⟨yZ8, hyZ8, h⟩ := bind_s h
          obtain ⟨hyZ8a, hyZ8b⟩ := geti_s hyZ8
          refine Or.elim (bt (yZ8.B == atZ0)) (fun cZ9 => ?_) (fun cZ9 => ?_)
          · replace h := cond_t cZ9 h
            cases h
            try simp only [VS1, VS2, VS3, VS4, VS5, VS6, VT1, VT2, finM_ret, finM_nrm, decide_true, decide_false, List.nodup_nil, List.nodup_cons, oks_p, oks_m, oks_h, ne_eq, not_false_eq_true, Int.reduceEq, Int.reduceNe, true_and, Nat.reduceSub, Nat.reduceMul, ↓reduceIte, reduceCtorEq, Nat.reduceEqDiff, Nat.reduceAdd, Nat.reduceLeDiff, Int.reduceLE, cZ4, hyZ8a, hyZ8b, cZ9]
            all_goals simp [qL, qJ, qJ0, qS, qX, qR, qM, Shp, sub, tupd, VS1, VS2, VS3, VS4, VS5, VS6, VT1, VT2]
          · replace h := cond_f cZ9 h
            cases h
            try simp only [VS1, VS2, VS3, VS4, VS5, VS6, VT1, VT2, finM_ret, finM_nrm, decide_true, decide_false, List.nodup_nil, List.nodup_cons, oks_p, oks_m, oks_h, ne_eq, not_false_eq_true, Int.reduceEq, Int.reduceNe, true_and, Nat.reduceSub, Nat.reduceMul, ↓reduceIte, reduceCtorEq, Nat.reduceEqDiff, Nat.reduceAdd, Nat.reduceLeDiff, Int.reduceLE, cZ4, hyZ8a, hyZ8b, cZ9]
            all_goals simp [qL, qJ, qJ0, qS, qX, qR, qM, Shp, sub, tupd, VS1, VS2, VS3, VS4, VS5, VS6, VT1, VT2]
        · simp only [A100R3]
          obtain ⟨oZ15, hoZ15, h⟩ := bind_s h
          try simp only [VS1, VS2, VS3, VS4, VS5, VS6, VT1, VT2, finM_ret, finM_nrm, decide_true, decide_false, List.nodup_nil, List.nodup_cons, oks_p, oks_m, oks_h, ne_eq, not_false_eq_true, Int.reduceEq, Int.reduceNe, true_and, Nat.reduceSub, Nat.reduceMul, ↓reduceIte, reduceCtorEq, Nat.reduceEqDiff, Nat.reduceAdd, Nat.reduceLeDiff, Int.reduceLE, cZ4]
          refine join_rule0 (sh := (fun v => ⟨[(0, .lst .o 3 (linksZ0.map (e_TLink .o))), (1, .lst .o 1 (freeZ0.map AV.i)), (2, .i atZ0), (3, .i toZ0), (4, .i rateZ0), (5, .i kZ0), (6, .lst .o 1 (seenZ0.map AV.i)), (15, .i sZ1), (16, .i oZ10), (66, .b v)], []⟩)) (s := oZ15) ?_ ?_
          · replace h := hoZ15
            refine Or.elim (bt (decide (oZ10 < 0))) (fun cZ11 => ?_) (fun cZ11 => ?_)
            · replace h := cond_t cZ11 h
              cases h
              try simp only [VS1, VS2, VS3, VS4, VS5, VS6, VT1, VT2, finM_ret, finM_nrm, decide_true, decide_false, List.nodup_nil, List.nodup_cons, oks_p, oks_m, oks_h, ne_eq, not_false_eq_true, Int.reduceEq, Int.reduceNe, true_and, Nat.reduceSub, Nat.reduceMul, ↓reduceIte, reduceCtorEq, Nat.reduceEqDiff, Nat.reduceAdd, Nat.reduceLeDiff, Int.reduceLE, cZ4, cZ11]
              all_goals simp [qL, qJ, qJ0, qS, qX, qR, qM, Shp, sub, tupd, VS1, VS2, VS3, VS4, VS5, VS6, VT1, VT2]
            · replace h := cond_f cZ11 h
              obtain ⟨yZ12, hyZ12, h⟩ := bind_s h
              obtain ⟨hyZ12a, hyZ12b⟩ := geti_s hyZ12
              refine Or.elim (bt (decide (yZ12 < rateZ0))) (fun cZ13 => ?_) (fun cZ13 => ?_)
              · replace h := cond_t cZ13 h
                cases h
                try simp only [VS1, VS2, VS3, VS4, VS5, VS6, VT1, VT2, finM_ret, finM_nrm, decide_true, decide_false, List.nodup_nil, List.nodup_cons, oks_p, oks_m, oks_h, ne_eq, not_false_eq_true, Int.reduceEq, Int.reduceNe, true_and, Nat.reduceSub, Nat.reduceMul, ↓reduceIte, reduceCtorEq, Nat.reduceEqDiff, Nat.reduceAdd, Nat.reduceLeDiff, Int.reduceLE, cZ4, cZ11, hyZ12a, hyZ12b, cZ13]
                all_goals simp [qL, qJ, qJ0, qS, qX, qR, qM, Shp, sub, tupd, VS1, VS2, VS3, VS4, VS5, VS6, VT1, VT2]
              · replace h := cond_f cZ13 h
                obtain ⟨rZ14, hrZ14, h⟩ := bind_s h
                simp only [VS1, VS2, VS3, VS4, VS5, VS6, VT1, VT2, finM_ret, finM_nrm, decide_true, decide_false, List.nodup_nil, List.nodup_cons, oks_p, oks_m, oks_h, ne_eq, not_false_eq_true, Int.reduceEq, Int.reduceNe, true_and, Nat.reduceSub, Nat.reduceMul, ↓reduceIte, reduceCtorEq, Nat.reduceEqDiff, Nat.reduceAdd, Nat.reduceLeDiff, Int.reduceLE, cZ4, cZ11, hyZ12a, hyZ12b, cZ13]
                refine call_s (by simp only [VS1, VS2, VS3, VS4, VS5, VS6, VT1, VT2, finM_ret, finM_nrm, decide_true, decide_false, List.nodup_nil, List.nodup_cons, oks_p, oks_m, oks_h, ne_eq, not_false_eq_true, Int.reduceEq, Int.reduceNe, true_and, Nat.reduceSub, Nat.reduceMul, ↓reduceIte, reduceCtorEq, Nat.reduceEqDiff, Nat.reduceAdd, Nat.reduceLeDiff, Int.reduceLE, cZ4, cZ11, hyZ12a, hyZ12b, cZ13]; exact w_spec_l1Has _ _ hrZ14 ) ?_
                simp only [VA, VF1, ↓reduceIte, Nat.reduceEqDiff, Nat.reduceAdd, Nat.reduceMul, Nat.reduceSub, Nat.reduceLeDiff]
                cases h
                try simp only [VS1, VS2, VS3, VS4, VS5, VS6, VT1, VT2, finM_ret, finM_nrm, decide_true, decide_false, List.nodup_nil, List.nodup_cons, oks_p, oks_m, oks_h, ne_eq, not_false_eq_true, Int.reduceEq, Int.reduceNe, true_and, Nat.reduceSub, Nat.reduceMul, ↓reduceIte, reduceCtorEq, Nat.reduceEqDiff, Nat.reduceAdd, Nat.reduceLeDiff, Int.reduceLE, cZ4, cZ11, hyZ12a, hyZ12b, cZ13]
                all_goals simp [qL, qJ, qJ0, qS, qX, qR, qM, Shp, sub, tupd, VS1, VS2, VS3, VS4, VS5, VS6, VT1, VT2]
          · simp only [A100R4]
            refine Or.elim (bt (oZ15)) (fun cZ16 => ?_) (fun cZ16 => ?_)
            · replace h := cond_t cZ16 h
              cases h
              try simp only [VS1, VS2, VS3, VS4, VS5, VS6, VT1, VT2, finM_ret, finM_nrm, decide_true, decide_false, List.nodup_nil, List.nodup_cons, oks_p, oks_m, oks_h, ne_eq, not_false_eq_true, Int.reduceEq, Int.reduceNe, true_and, Nat.reduceSub, Nat.reduceMul, ↓reduceIte, reduceCtorEq, Nat.reduceEqDiff, Nat.reduceAdd, Nat.reduceLeDiff, Int.reduceLE, cZ4, cZ16]
              all_goals simp [qL, qJ, qJ0, qS, qX, qR, qM, Shp, sub, tupd, VS1, VS2, VS3, VS4, VS5, VS6, VT1, VT2, S_spec_l18FindL1, SX_spec_l18FindL1]
            · replace h := cond_f cZ16 h
              refine Or.elim (bt (oZ10 == toZ0)) (fun cZ17 => ?_) (fun cZ17 => ?_)
              · replace h := cond_t cZ17 h
                refine Or.elim (bt (kZ0 == 1)) (fun cZ18 => ?_) (fun cZ18 => ?_)
                · replace h := cond_t cZ18 h
                  obtain ⟨lZ19, hlZ19, h⟩ := bnd_s h
                  have eZ20 : Row.arr 1 [(.i sZ1 : AV)] = Row.arr 1 (lZ19.map AV.i) := by rw [← hlZ19]; rfl
                  have eZ21 : lZ19.length = 1 := by rw [← hlZ19]; rfl
                  have nZ22 : sub (lZ19.map AV.i) 0 1 = lZ19.map AV.i := sub_n _ (by simp [← hlZ19])
                  cases h
                  try simp only [VS1, VS2, VS3, VS4, VS5, VS6, VT1, VT2, finM_ret, finM_nrm, decide_true, decide_false, List.nodup_nil, List.nodup_cons, oks_p, oks_m, oks_h, ne_eq, not_false_eq_true, Int.reduceEq, Int.reduceNe, true_and, Nat.reduceSub, Nat.reduceMul, ↓reduceIte, reduceCtorEq, Nat.reduceEqDiff, Nat.reduceAdd, Nat.reduceLeDiff, Int.reduceLE, cZ4, cZ16, cZ17, cZ18, eZ20, eZ21, nZ22]
                  all_goals simp [qL, qJ, qJ0, qS, qX, qR, qM, Shp, sub, tupd, VS1, VS2, VS3, VS4, VS5, VS6, VT1, VT2, V100, ← hlZ19]
                · replace h := cond_f cZ18 h
                  cases h
                  try simp only [VS1, VS2, VS3, VS4, VS5, VS6, VT1, VT2, finM_ret, finM_nrm, decide_true, decide_false, List.nodup_nil, List.nodup_cons, oks_p, oks_m, oks_h, ne_eq, not_false_eq_true, Int.reduceEq, Int.reduceNe, true_and, Nat.reduceSub, Nat.reduceMul, ↓reduceIte, reduceCtorEq, Nat.reduceEqDiff, Nat.reduceAdd, Nat.reduceLeDiff, Int.reduceLE, cZ4, cZ16, cZ17, cZ18]
                  all_goals simp [qL, qJ, qJ0, qS, qX, qR, qM, Shp, sub, tupd, VS1, VS2, VS3, VS4, VS5, VS6, VT1, VT2, S_spec_l18FindL1, SX_spec_l18FindL1]
              · replace h := cond_f cZ17 h
                obtain ⟨rZ23, hrZ23, h⟩ := bind_s h
                simp only [VS1, VS2, VS3, VS4, VS5, VS6, VT1, VT2, finM_ret, finM_nrm, decide_true, decide_false, List.nodup_nil, List.nodup_cons, oks_p, oks_m, oks_h, ne_eq, not_false_eq_true, Int.reduceEq, Int.reduceNe, true_and, Nat.reduceSub, Nat.reduceMul, ↓reduceIte, reduceCtorEq, Nat.reduceEqDiff, Nat.reduceAdd, Nat.reduceLeDiff, Int.reduceLE, cZ4, cZ16, cZ17]
                refine call_u (by simp only [VS1, VS2, VS3, VS4, VS5, VS6, VT1, VT2, finM_ret, finM_nrm, decide_true, decide_false, List.nodup_nil, List.nodup_cons, oks_p, oks_m, oks_h, ne_eq, not_false_eq_true, Int.reduceEq, Int.reduceNe, true_and, Nat.reduceSub, Nat.reduceMul, ↓reduceIte, reduceCtorEq, Nat.reduceEqDiff, Nat.reduceAdd, Nat.reduceLeDiff, Int.reduceLE, cZ4, cZ16, cZ17]; exact w_spec_l1Own _ hrZ23 ) (by simp [AV.allU, allUL, allUL_iff, VT1, VT2]) (by simp only [VS1, VS2, VS3, VS4, VS5, VS6, VT1, VT2, finM_ret, finM_nrm, decide_true, decide_false, List.nodup_nil, List.nodup_cons, oks_p, oks_m, oks_h, ne_eq, not_false_eq_true, Int.reduceEq, Int.reduceNe, true_and, Nat.reduceSub, Nat.reduceMul, ↓reduceIte, reduceCtorEq, Nat.reduceEqDiff, Nat.reduceAdd, Nat.reduceLeDiff, Int.reduceLE, Nat.reduceLT]) ?_
                simp only [VA, VF1, ↓reduceIte, Nat.reduceEqDiff, Nat.reduceAdd, Nat.reduceMul, Nat.reduceSub, Nat.reduceLeDiff]
                obtain ⟨lZ24, hlZ24, h⟩ := bnd_s h
                have eZ25 : Row.arr 1 [(.i oZ10 : AV)] = Row.arr 1 (lZ24.map AV.i) := by rw [← hlZ24]; rfl
                have eZ26 : lZ24.length = 1 := by rw [← hlZ24]; rfl
                obtain ⟨uZ27, huZ27, h⟩ := bind_s h
                have huZ27g := grd_s huZ27
                obtain ⟨lZ28, hlZ28, h⟩ := bnd_s h
                have eZ29 : rZ23.map AV.i ++ lZ24.map AV.i = lZ28.map AV.i := by rw [← hlZ28, List.map_append]
                have eZ30 : rZ23.length + 1 = lZ28.length := by simp [← hlZ24, ← hlZ28] <;> omega
                rw [eZ30] at huZ27g
                obtain ⟨rZ31, hrZ31, h⟩ := bind_s h
                simp only [VS1, VS2, VS3, VS4, VS5, VS6, VT1, VT2, finM_ret, finM_nrm, decide_true, decide_false, List.nodup_nil, List.nodup_cons, oks_p, oks_m, oks_h, ne_eq, not_false_eq_true, Int.reduceEq, Int.reduceNe, true_and, Nat.reduceSub, Nat.reduceMul, ↓reduceIte, reduceCtorEq, Nat.reduceEqDiff, Nat.reduceAdd, Nat.reduceLeDiff, Int.reduceLE, cZ4, cZ16, cZ17, eZ25, eZ26, huZ27g, eZ29, eZ30]
                refine call_u (by simp only [VS1, VS2, VS3, VS4, VS5, VS6, VT1, VT2, finM_ret, finM_nrm, decide_true, decide_false, List.nodup_nil, List.nodup_cons, oks_p, oks_m, oks_h, ne_eq, not_false_eq_true, Int.reduceEq, Int.reduceNe, true_and, Nat.reduceSub, Nat.reduceMul, ↓reduceIte, reduceCtorEq, Nat.reduceEqDiff, Nat.reduceAdd, Nat.reduceLeDiff, Int.reduceLE, cZ4, cZ16, cZ17, eZ25, eZ26, huZ27g, eZ29, eZ30]; exact ihZ0 _ _ _ _ _ _ _ hrZ31 ) (by simp [AV.allU, allUL, allUL_iff, VT1, VT2]) (by simp only [VS1, VS2, VS3, VS4, VS5, VS6, VT1, VT2, finM_ret, finM_nrm, decide_true, decide_false, List.nodup_nil, List.nodup_cons, oks_p, oks_m, oks_h, ne_eq, not_false_eq_true, Int.reduceEq, Int.reduceNe, true_and, Nat.reduceSub, Nat.reduceMul, ↓reduceIte, reduceCtorEq, Nat.reduceEqDiff, Nat.reduceAdd, Nat.reduceLeDiff, Int.reduceLE, Nat.reduceLT]) ?_
                simp only [VA, VF1, ↓reduceIte, Nat.reduceEqDiff, Nat.reduceAdd, Nat.reduceMul, Nat.reduceSub, Nat.reduceLeDiff]
                refine Or.elim (bt (decide (0 < (rZ31.length : Int)))) (fun cZ32 => ?_) (fun cZ32 => ?_)
                · replace h := cond_t cZ32 h
                  obtain ⟨lZ33, hlZ33, h⟩ := bnd_s h
                  have eZ34 : Row.arr 1 [(.i sZ1 : AV)] = Row.arr 1 (lZ33.map AV.i) := by rw [← hlZ33]; rfl
                  have eZ35 : lZ33.length = 1 := by rw [← hlZ33]; rfl
                  have nZ36 : sub (lZ33.map AV.i) 0 1 = lZ33.map AV.i := sub_n _ (by simp [← hlZ24, ← hlZ28, ← hlZ33])
                  obtain ⟨uZ37, huZ37, h⟩ := bind_s h
                  have huZ37g := grd_s huZ37
                  obtain ⟨lZ38, hlZ38, h⟩ := bnd_s h
                  have eZ39 : lZ33.map AV.i ++ rZ31.map AV.i = lZ38.map AV.i := by rw [← hlZ38, List.map_append]
                  have eZ40 : 1 + rZ31.length = lZ38.length := by simp [← hlZ24, ← hlZ28, ← hlZ33, ← hlZ38] <;> omega
                  rw [eZ40] at huZ37g
                  cases h
                  try simp only [VS1, VS2, VS3, VS4, VS5, VS6, VT1, VT2, finM_ret, finM_nrm, decide_true, decide_false, List.nodup_nil, List.nodup_cons, oks_p, oks_m, oks_h, ne_eq, not_false_eq_true, Int.reduceEq, Int.reduceNe, true_and, Nat.reduceSub, Nat.reduceMul, ↓reduceIte, reduceCtorEq, Nat.reduceEqDiff, Nat.reduceAdd, Nat.reduceLeDiff, Int.reduceLE, cZ4, cZ16, cZ17, eZ25, eZ26, huZ27g, eZ29, eZ30, cZ32, eZ34, eZ35, nZ36, huZ37g, eZ39, eZ40]
                  all_goals simp [qL, qJ, qJ0, qS, qX, qR, qM, Shp, sub, tupd, VS1, VS2, VS3, VS4, VS5, VS6, VT1, VT2, V100, ← hlZ24, ← hlZ28, ← hlZ33, ← hlZ38]
                · replace h := cond_f cZ32 h
                  cases h
                  try simp only [VS1, VS2, VS3, VS4, VS5, VS6, VT1, VT2, finM_ret, finM_nrm, decide_true, decide_false, List.nodup_nil, List.nodup_cons, oks_p, oks_m, oks_h, ne_eq, not_false_eq_true, Int.reduceEq, Int.reduceNe, true_and, Nat.reduceSub, Nat.reduceMul, ↓reduceIte, reduceCtorEq, Nat.reduceEqDiff, Nat.reduceAdd, Nat.reduceLeDiff, Int.reduceLE, cZ4, cZ16, cZ17, eZ25, eZ26, huZ27g, eZ29, eZ30, cZ32]
                  all_goals simp [qL, qJ, qJ0, qS, qX, qR, qM, Shp, sub, tupd, VS1, VS2, VS3, VS4, VS5, VS6, VT1, VT2, S_spec_l18FindL1, SX_spec_l18FindL1, ← hlZ24, ← hlZ28]
    · replace h := cond_f cZ4 h
      cases h
      try simp only [VS1, VS2, VS3, VS4, VS5, VS6, VT1, VT2, finM_ret, finM_nrm, decide_true, decide_false, List.nodup_nil, List.nodup_cons, oks_p, oks_m, oks_h, ne_eq, not_false_eq_true, Int.reduceEq, Int.reduceNe, true_and, Nat.reduceSub, Nat.reduceMul, ↓reduceIte, reduceCtorEq, Nat.reduceEqDiff, Nat.reduceAdd, Nat.reduceLeDiff, Int.reduceLE, cZ4]
      all_goals simp [qL, qJ, qJ0, qS, qX, qR, qM, Shp, sub, tupd, VS1, VS2, VS3, VS4, VS5, VS6, VT1, VT2, S_spec_l18FindL1, SX_spec_l18FindL1]
theorem wB_spec_l18Find (rcZ0 : List TLink → List Int → Int → Int → Int → Int → List Int → Option (List Int)) (ihZ0 : ∀ (linksZ0 : List TLink) (freeZ0 : List Int) (atZ0 : Int) (toZ0 : Int) (rateZ0 : Int) (kZ0 : Int) (seenZ0 : List Int) {r : List Int}, rcZ0 linksZ0 freeZ0 atZ0 toZ0 rateZ0 kZ0 seenZ0 = some r → Ok Try.prog 100 [.lst .o 3 (linksZ0.map (e_TLink .o)), .lst .o 1 (freeZ0.map AV.i), .i atZ0, .i toZ0, .i rateZ0, .i kZ0, .lst .o 1 (seenZ0.map AV.i)] ((fun r => .lst .u 1 (r.map AV.i)) r)) (linksZ0 : List TLink) (freeZ0 : List Int) (atZ0 : Int) (toZ0 : Int) (rateZ0 : Int) (kZ0 : Int) (seenZ0 : List Int) {r : List Int} (h : M_spec_l18Find_B rcZ0 linksZ0 freeZ0 atZ0 toZ0 rateZ0 kZ0 seenZ0 = some r) : Ok Try.prog 100 [.lst .o 3 (linksZ0.map (e_TLink .o)), .lst .o 1 (freeZ0.map AV.i), .i atZ0, .i toZ0, .i rateZ0, .i kZ0, .lst .o 1 (seenZ0.map AV.i)] ((fun r => .lst .u 1 (r.map AV.i)) r) := by
  refine ok_of_body hmix m100 rfl ?_
  unfold M_spec_l18Find_B at h
  simp only [A100, V100, body_eq]
  obtain ⟨oZ41, hoZ41, h⟩ := bind_s h
  try simp only [VS1, VS2, VS3, VS4, VS5, VS6, VT1, VT2, finM_ret, finM_nrm, decide_true, decide_false, List.nodup_nil, List.nodup_cons, oks_p, oks_m, oks_h, ne_eq, not_false_eq_true, Int.reduceEq, Int.reduceNe, true_and, Nat.reduceSub, Nat.reduceMul, ↓reduceIte, reduceCtorEq, Nat.reduceEqDiff, Nat.reduceAdd, Nat.reduceLeDiff, Int.reduceLE]
  refine join_rule (o := oZ41) (blk_rule sideR (loop_rule (w_spec_l18FindL1 linksZ0 freeZ0 atZ0 toZ0 rateZ0 kZ0 seenZ0 rcZ0 ihZ0) hoZ41 ?_)) (fun vZ42 hv => ?_) (fun xZ43 hv e τ hne hq => ?_)
  · all_goals simp [qL, qJ, qJ0, qS, qX, qR, qM, Shp, sub, tupd, VS1, VS2, VS3, VS4, VS5, VS6, VT1, VT2, S_spec_l18FindL1, SX_spec_l18FindL1]
  · subst hv
    simp only [] at h
    simp only [SX_spec_l18FindL1, A100R6]
    cases h
    try simp only [VS1, VS2, VS3, VS4, VS5, VS6, VT1, VT2, finM_ret, finM_nrm, decide_true, decide_false, List.nodup_nil, List.nodup_cons, oks_p, oks_m, oks_h, ne_eq, not_false_eq_true, Int.reduceEq, Int.reduceNe, true_and, Nat.reduceSub, Nat.reduceMul, ↓reduceIte, reduceCtorEq, Nat.reduceEqDiff, Nat.reduceAdd, Nat.reduceLeDiff, Int.reduceLE]
    all_goals simp [qL, qJ, qJ0, qS, qX, qR, qM, Shp, sub, tupd, VS1, VS2, VS3, VS4, VS5, VS6, VT1, VT2, V100]
  · subst hv
    simp only [] at h
    obtain ⟨rfl, qZ44⟩ := hq
    cases h
    exact qZ44
theorem w_spec_l18Find : ∀ (n : Nat) (linksZ0 : List TLink) (freeZ0 : List Int) (atZ0 : Int) (toZ0 : Int) (rateZ0 : Int) (kZ0 : Int) (seenZ0 : List Int) {r : List Int} (_ : M_spec_l18Find n linksZ0 freeZ0 atZ0 toZ0 rateZ0 kZ0 seenZ0 = some r), Ok Try.prog 100 [.lst .o 3 (linksZ0.map (e_TLink .o)), .lst .o 1 (freeZ0.map AV.i), .i atZ0, .i toZ0, .i rateZ0, .i kZ0, .lst .o 1 (seenZ0.map AV.i)] ((fun r => .lst .u 1 (r.map AV.i)) r)
  | 0, linksZ0, freeZ0, atZ0, toZ0, rateZ0, kZ0, seenZ0, _, h => by cases h
  | n + 1, linksZ0, freeZ0, atZ0, toZ0, rateZ0, kZ0, seenZ0, _, h => wB_spec_l18Find (M_spec_l18Find n) (w_spec_l18Find n) linksZ0 freeZ0 atZ0 toZ0 rateZ0 kZ0 seenZ0 h
def S_spec_l18RouteL1 (linksZ0 : List TLink) (freeZ0 : List Int) (tZ0 : TTributary) (v : Int) : St := ⟨[(0, .lst .o 3 (linksZ0.map (e_TLink .o))), (1, .lst .o 1 (freeZ0.map AV.i)), (5, .pt 5 0 0), (7, .i v)], [(5, .var (.agg [.i tZ0.From, .i tZ0.To, .i tZ0.Rate]))]⟩
def SX_spec_l18RouteL1 (v : Unit) : St := ⟨[], []⟩
theorem w_spec_l18RouteL1 (linksZ0 : List TLink) (freeZ0 : List Int) (tZ0 : TTributary) (sZ1 : Int) (o : Int ⊕ (Unit ⊕ (List Int))) (h : M_spec_l18RouteL1 linksZ0 freeZ0 tZ0 sZ1 = some o) : AWP (OkS Try.prog) A68L1 (qL [0, 1, 5, 7] [5] (S_spec_l18RouteL1 linksZ0 freeZ0 tZ0) (qS (qX 0 [] [] (SX_spec_l18RouteL1)) (qR V68 (fun r => .lst .u 1 (r.map AV.i)))) o) (S_spec_l18RouteL1 linksZ0 freeZ0 tZ0 sZ1) := by
  unfold M_spec_l18RouteL1 at h
  simp only [S_spec_l18RouteL1, A68L1]
  refine Or.elim (bt (decide (sZ1 < 8))) (fun cZ2 => ?_) (fun cZ2 => ?_)
  · replace h := cond_t cZ2 h
    obtain ⟨lZ3, hlZ3, h⟩ := bnd_s h
    have eZ4 : Row.arr 1 [(.i tZ0.From : AV)] = Row.arr 1 (lZ3.map AV.i) := by rw [← hlZ3]; rfl
    have eZ5 : lZ3.length = 1 := by rw [← hlZ3]; rfl
    have nZ6 : sub (lZ3.map AV.i) 0 1 = lZ3.map AV.i := sub_n _ (by simp [← hlZ3])
    obtain ⟨rZ7, hrZ7, h⟩ := bind_s h
    simp only [VS1, VS2, VS3, VS4, VS5, VS6, VT1, VT2, finM_ret, finM_nrm, decide_true, decide_false, List.nodup_nil, List.nodup_cons, oks_p, oks_m, oks_h, ne_eq, not_false_eq_true, Int.reduceEq, Int.reduceNe, true_and, Nat.reduceSub, Nat.reduceMul, ↓reduceIte, reduceCtorEq, Nat.reduceEqDiff, Nat.reduceAdd, Nat.reduceLeDiff, Int.reduceLE, cZ2, eZ4, eZ5, nZ6]
    refine call_u (by simp only [VS1, VS2, VS3, VS4, VS5, VS6, VT1, VT2, finM_ret, finM_nrm, decide_true, decide_false, List.nodup_nil, List.nodup_cons, oks_p, oks_m, oks_h, ne_eq, not_false_eq_true, Int.reduceEq, Int.reduceNe, true_and, Nat.reduceSub, Nat.reduceMul, ↓reduceIte, reduceCtorEq, Nat.reduceEqDiff, Nat.reduceAdd, Nat.reduceLeDiff, Int.reduceLE, cZ2, eZ4, eZ5, nZ6]; exact w_spec_l18Find N0 _ _ _ _ _ _ _ hrZ7 ) (by simp [AV.allU, allUL, allUL_iff, VT1, VT2]) (by simp only [VS1, VS2, VS3, VS4, VS5, VS6, VT1, VT2, finM_ret, finM_nrm, decide_true, decide_false, List.nodup_nil, List.nodup_cons, oks_p, oks_m, oks_h, ne_eq, not_false_eq_true, Int.reduceEq, Int.reduceNe, true_and, Nat.reduceSub, Nat.reduceMul, ↓reduceIte, reduceCtorEq, Nat.reduceEqDiff, Nat.reduceAdd, Nat.reduceLeDiff, Int.reduceLE, Nat.reduceLT]) ?_
    simp only [VA, VF1, ↓reduceIte, Nat.reduceEqDiff, Nat.reduceAdd, Nat.reduceMul, Nat.reduceSub, Nat.reduceLeDiff]
    refine Or.elim (bt (decide (0 < (rZ7.length : Int)))) (fun cZ8 => ?_) (fun cZ8 => ?_)
    · replace h := cond_t cZ8 h
      cases h
      try simp only [VS1, VS2, VS3, VS4, VS5, VS6, VT1, VT2, finM_ret, finM_nrm, decide_true, decide_false, List.nodup_nil, List.nodup_cons, oks_p, oks_m, oks_h, ne_eq, not_false_eq_true, Int.reduceEq, Int.reduceNe, true_and, Nat.reduceSub, Nat.reduceMul, ↓reduceIte, reduceCtorEq, Nat.reduceEqDiff, Nat.reduceAdd, Nat.reduceLeDiff, Int.reduceLE, cZ2, eZ4, eZ5, nZ6, cZ8]
      all_goals simp [qL, qJ, qJ0, qS, qX, qR, qM, Shp, sub, tupd, VS1, VS2, VS3, VS4, VS5, VS6, VT1, VT2, V68, ← hlZ3]
    · replace h := cond_f cZ8 h
      cases h
      try simp only [VS1, VS2, VS3, VS4, VS5, VS6, VT1, VT2, finM_ret, finM_nrm, decide_true, decide_false, List.nodup_nil, List.nodup_cons, oks_p, oks_m, oks_h, ne_eq, not_false_eq_true, Int.reduceEq, Int.reduceNe, true_and, Nat.reduceSub, Nat.reduceMul, ↓reduceIte, reduceCtorEq, Nat.reduceEqDiff, Nat.reduceAdd, Nat.reduceLeDiff, Int.reduceLE, cZ2, eZ4, eZ5, nZ6, cZ8]
      all_goals simp [qL, qJ, qJ0, qS, qX, qR, qM, Shp, sub, tupd, VS1, VS2, VS3, VS4, VS5, VS6, VT1, VT2, S_spec_l18RouteL1, SX_spec_l18RouteL1, ← hlZ3]
  · replace h := cond_f cZ2 h
    cases h
    try simp only [VS1, VS2, VS3, VS4, VS5, VS6, VT1, VT2, finM_ret, finM_nrm, decide_true, decide_false, List.nodup_nil, List.nodup_cons, oks_p, oks_m, oks_h, ne_eq, not_false_eq_true, Int.reduceEq, Int.reduceNe, true_and, Nat.reduceSub, Nat.reduceMul, ↓reduceIte, reduceCtorEq, Nat.reduceEqDiff, Nat.reduceAdd, Nat.reduceLeDiff, Int.reduceLE, cZ2]
    all_goals simp [qL, qJ, qJ0, qS, qX, qR, qM, Shp, sub, tupd, VS1, VS2, VS3, VS4, VS5, VS6, VT1, VT2, S_spec_l18RouteL1, SX_spec_l18RouteL1]
theorem w_spec_l18Route (linksZ0 : List TLink) (freeZ0 : List Int) (tZ0 : TTributary) {r : List Int} (h : M_spec_l18Route linksZ0 freeZ0 tZ0 = some r) : Ok Try.prog 68 [.lst .o 3 (linksZ0.map (e_TLink .o)), .lst .o 1 (freeZ0.map AV.i), .agg [.i tZ0.From, .i tZ0.To, .i tZ0.Rate]] ((fun r => .lst .u 1 (r.map AV.i)) r) := by
  refine ok_of_body hmix m68 rfl ?_
  unfold M_spec_l18Route at h
  simp only [A68, V68, body_eq]
  obtain ⟨oZ9, hoZ9, h⟩ := bind_s h
  try simp only [VS1, VS2, VS3, VS4, VS5, VS6, VT1, VT2, finM_ret, finM_nrm, decide_true, decide_false, List.nodup_nil, List.nodup_cons, oks_p, oks_m, oks_h, ne_eq, not_false_eq_true, Int.reduceEq, Int.reduceNe, true_and, Nat.reduceSub, Nat.reduceMul, ↓reduceIte, reduceCtorEq, Nat.reduceEqDiff, Nat.reduceAdd, Nat.reduceLeDiff, Int.reduceLE]
  refine join_rule (o := oZ9) (blk_rule sideR (loop_rule (w_spec_l18RouteL1 linksZ0 freeZ0 tZ0) hoZ9 ?_)) (fun vZ10 hv => ?_) (fun xZ11 hv e τ hne hq => ?_)
  · all_goals simp [qL, qJ, qJ0, qS, qX, qR, qM, Shp, sub, tupd, VS1, VS2, VS3, VS4, VS5, VS6, VT1, VT2, S_spec_l18RouteL1, SX_spec_l18RouteL1]
  · subst hv
    simp only [] at h
    simp only [SX_spec_l18RouteL1, A68R2]
    cases h
    try simp only [VS1, VS2, VS3, VS4, VS5, VS6, VT1, VT2, finM_ret, finM_nrm, decide_true, decide_false, List.nodup_nil, List.nodup_cons, oks_p, oks_m, oks_h, ne_eq, not_false_eq_true, Int.reduceEq, Int.reduceNe, true_and, Nat.reduceSub, Nat.reduceMul, ↓reduceIte, reduceCtorEq, Nat.reduceEqDiff, Nat.reduceAdd, Nat.reduceLeDiff, Int.reduceLE]
    all_goals simp [qL, qJ, qJ0, qS, qX, qR, qM, Shp, sub, tupd, VS1, VS2, VS3, VS4, VS5, VS6, VT1, VT2, V68]
  · subst hv
    simp only [] at h
    obtain ⟨rfl, qZ12⟩ := hq
    cases h
    exact qZ12
def S_spec_GroomAllL1 (linksZ0 : List TLink) (listZ0 : List TTributary) (v : Int × List Int) : St := ⟨[(0, .lst .o 3 (linksZ0.map (e_TLink .o))), (2, .lst .o 3 (listZ0.map (e_TTributary .o))), (9, .sl 9 0 0), (10, .sl 10 0 v.2.length), (11, .i v.1)], [(9, .arr 1 []), (10, .arr 1 (v.2.map AV.i))]⟩
def SX_spec_GroomAllL1 (linksZ0 : List TLink) (listZ0 : List TTributary) (v : List Int) : St := ⟨[(0, .lst .o 3 (linksZ0.map (e_TLink .o))), (2, .lst .o 3 (listZ0.map (e_TTributary .o))), (9, .sl 9 0 0), (10, .sl 10 0 v.length)], [(9, .arr 1 []), (10, .arr 1 (v.map AV.i))]⟩
theorem w_spec_GroomAllL1 (linksZ0 : List TLink) (listZ0 : List TTributary) (sZ6 : Int × List Int) (o : (Int × List Int) ⊕ (List Int)) (h : M_spec_GroomAllL1 linksZ0 sZ6 = some o) : AWP (OkS Try.prog) A46L2 (qL [0, 2, 9, 10, 11] [9, 10] (S_spec_GroomAllL1 linksZ0 listZ0) (qX 0 [0, 2, 9, 10] [9, 10] (SX_spec_GroomAllL1 linksZ0 listZ0)) o) (S_spec_GroomAllL1 linksZ0 listZ0 sZ6) := by
  unfold M_spec_GroomAllL1 at h
  simp only [S_spec_GroomAllL1, A46L2]
  refine Or.elim (bt (decide (sZ6.1 < (linksZ0.length : Int)))) (fun cZ7 => ?_) (fun cZ7 => ?_)
  · replace h := cond_t cZ7 h
    obtain ⟨yZ8, hyZ8, h⟩ := bind_s h
    obtain ⟨hyZ8a, hyZ8b⟩ := geti_s hyZ8
    obtain ⟨lZ9, hlZ9, h⟩ := bnd_s h
    have eZ10 : Row.arr 1 [(.i yZ8.Capacity : AV)] = Row.arr 1 (lZ9.map AV.i) := by rw [← hlZ9]; rfl
    have eZ11 : lZ9.length = 1 := by rw [← hlZ9]; rfl
    obtain ⟨uZ12, huZ12, h⟩ := bind_s h
    have huZ12g := grd_s huZ12
    obtain ⟨lZ13, hlZ13, h⟩ := bnd_s h
    have eZ14 : sZ6.2.map AV.i ++ lZ9.map AV.i = lZ13.map AV.i := by rw [← hlZ13, List.map_append]
    have eZ15 : sZ6.2.length + 1 = lZ13.length := by simp [← hlZ9, ← hlZ13] <;> omega
    rw [eZ15] at huZ12g
    cases h
    try simp only [VS1, VS2, VS3, VS4, VS5, VS6, VT1, VT2, finM_ret, finM_nrm, decide_true, decide_false, List.nodup_nil, List.nodup_cons, oks_p, oks_m, oks_h, ne_eq, not_false_eq_true, Int.reduceEq, Int.reduceNe, true_and, Nat.reduceSub, Nat.reduceMul, ↓reduceIte, reduceCtorEq, Nat.reduceEqDiff, Nat.reduceAdd, Nat.reduceLeDiff, Int.reduceLE, cZ7, hyZ8a, hyZ8b, eZ10, eZ11, huZ12g, eZ14, eZ15]
    all_goals simp [qL, qJ, qJ0, qS, qX, qR, qM, Shp, sub, tupd, VS1, VS2, VS3, VS4, VS5, VS6, VT1, VT2, S_spec_GroomAllL1, SX_spec_GroomAllL1, ← hlZ9, ← hlZ13]
  · replace h := cond_f cZ7 h
    cases h
    try simp only [VS1, VS2, VS3, VS4, VS5, VS6, VT1, VT2, finM_ret, finM_nrm, decide_true, decide_false, List.nodup_nil, List.nodup_cons, oks_p, oks_m, oks_h, ne_eq, not_false_eq_true, Int.reduceEq, Int.reduceNe, true_and, Nat.reduceSub, Nat.reduceMul, ↓reduceIte, reduceCtorEq, Nat.reduceEqDiff, Nat.reduceAdd, Nat.reduceLeDiff, Int.reduceLE, cZ7]
    all_goals simp [qL, qJ, qJ0, qS, qX, qR, qM, Shp, sub, tupd, VS1, VS2, VS3, VS4, VS5, VS6, VT1, VT2, S_spec_GroomAllL1, SX_spec_GroomAllL1]
def S_spec_GroomAllL3 (linksZ0 : List TLink) (listZ0 : List TTributary) (sZ17 : Int × List (List Int) × List Int) (rZ20 : List Int) (v : Int × List Int) : St := ⟨[(0, .lst .o 3 (linksZ0.map (e_TLink .o))), (2, .lst .o 3 (listZ0.map (e_TTributary .o))), (9, .sl 9 0 sZ17.2.1.length), (10, .sl 10 0 v.2.length), (12, .i sZ17.1), (13, .sl 13 0 rZ20.length), (14, .i v.1)], [(9, .arr 1 (sZ17.2.1.map (e_Li .u))), (10, .arr 1 (v.2.map AV.i)), (13, .arr 1 (rZ20.map AV.i))]⟩
def SX_spec_GroomAllL3 (linksZ0 : List TLink) (listZ0 : List TTributary) (sZ17 : Int × List (List Int) × List Int) (rZ20 : List Int) (v : List Int) : St := ⟨[(0, .lst .o 3 (linksZ0.map (e_TLink .o))), (2, .lst .o 3 (listZ0.map (e_TTributary .o))), (9, .sl 9 0 sZ17.2.1.length), (10, .sl 10 0 v.length), (12, .i sZ17.1), (13, .sl 13 0 rZ20.length)], [(9, .arr 1 (sZ17.2.1.map (e_Li .u))), (10, .arr 1 (v.map AV.i)), (13, .arr 1 (rZ20.map AV.i))]⟩
theorem w_spec_GroomAllL3 (linksZ0 : List TLink) (listZ0 : List TTributary) (sZ17 : Int × List (List Int) × List Int) (rZ20 : List Int) (sZ21 : Int × List Int) (o : (Int × List Int) ⊕ (List Int)) (h : M_spec_GroomAllL3 listZ0 sZ17 rZ20 sZ21 = some o) : AWP (OkS Try.prog) A46L4 (qL [0, 2, 9, 10, 12, 13, 14] [9, 10, 13] (S_spec_GroomAllL3 linksZ0 listZ0 sZ17 rZ20) (qX 4 [0, 2, 9, 10, 12, 13] [9, 10, 13] (SX_spec_GroomAllL3 linksZ0 listZ0 sZ17 rZ20)) o) (S_spec_GroomAllL3 linksZ0 listZ0 sZ17 rZ20 sZ21) := by
  unfold M_spec_GroomAllL3 at h
  simp only [S_spec_GroomAllL3, A46L4]
  refine Or.elim (bt (decide (sZ21.1 < (rZ20.length : Int)))) (fun cZ22 => ?_) (fun cZ22 => ?_)
  · replace h := cond_t cZ22 h
    obtain ⟨kZ23, hkZ23, h⟩ := bind_s h
    obtain ⟨hkZ23a, hkZ23b⟩ := grd_s hkZ23
    obtain ⟨yZ24, hyZ24, h⟩ := bind_s h
    obtain ⟨kZ25, hkZ25, h⟩ := bind_s h
    obtain ⟨hkZ25a, hkZ25b⟩ := grd_s hkZ25
    obtain ⟨yZ26, hyZ26, h⟩ := bind_s h
    obtain ⟨yZ27, hyZ27, h⟩ := bind_s h
    obtain ⟨hyZ27a, hyZ27b⟩ := geti_s hyZ27
    obtain ⟨lZ28, hlZ28, h⟩ := bnd_s h
    have eZ29 : (sZ21.2.map AV.i).set (Int.toNat yZ24) (.i (IntKind.wrap .i64 (yZ26 - yZ27.Rate))) = lZ28.map AV.i := by rw [← hlZ28, List.map_set]
    cases h
    try simp only [VS1, VS2, VS3, VS4, VS5, VS6, VT1, VT2, finM_ret, finM_nrm, decide_true, decide_false, List.nodup_nil, List.nodup_cons, oks_p, oks_m, oks_h, ne_eq, not_false_eq_true, Int.reduceEq, Int.reduceNe, true_and, Nat.reduceSub, Nat.reduceMul, ↓reduceIte, reduceCtorEq, Nat.reduceEqDiff, Nat.reduceAdd, Nat.reduceLeDiff, Int.reduceLE, cZ22, hkZ23a, hkZ23b, hyZ24, hkZ25a, hkZ25b, hyZ26, hyZ27a, hyZ27b, eZ29]
    all_goals simp [qL, qJ, qJ0, qS, qX, qR, qM, Shp, sub, tupd, VS1, VS2, VS3, VS4, VS5, VS6, VT1, VT2, S_spec_GroomAllL3, SX_spec_GroomAllL3, ← hlZ28]
  · replace h := cond_f cZ22 h
    cases h
    try simp only [VS1, VS2, VS3, VS4, VS5, VS6, VT1, VT2, finM_ret, finM_nrm, decide_true, decide_false, List.nodup_nil, List.nodup_cons, oks_p, oks_m, oks_h, ne_eq, not_false_eq_true, Int.reduceEq, Int.reduceNe, true_and, Nat.reduceSub, Nat.reduceMul, ↓reduceIte, reduceCtorEq, Nat.reduceEqDiff, Nat.reduceAdd, Nat.reduceLeDiff, Int.reduceLE, cZ22]
    all_goals simp [qL, qJ, qJ0, qS, qX, qR, qM, Shp, sub, tupd, VS1, VS2, VS3, VS4, VS5, VS6, VT1, VT2, S_spec_GroomAllL3, SX_spec_GroomAllL3]
def S_spec_GroomAllL2 (linksZ0 : List TLink) (listZ0 : List TTributary) (v : Int × List (List Int) × List Int) : St := ⟨[(0, .lst .o 3 (linksZ0.map (e_TLink .o))), (2, .lst .o 3 (listZ0.map (e_TTributary .o))), (9, .sl 9 0 v.2.1.length), (10, .sl 10 0 v.2.2.length), (12, .i v.1)], [(9, .arr 1 (v.2.1.map (e_Li .u))), (10, .arr 1 (v.2.2.map AV.i))]⟩
def SX_spec_GroomAllL2 (v : List (List Int) × List Int) : St := ⟨[(9, .sl 9 0 v.1.length), (10, .sl 10 0 v.2.length)], [(9, .arr 1 (v.1.map (e_Li .u))), (10, .arr 1 (v.2.map AV.i))]⟩
theorem w_spec_GroomAllL2 (linksZ0 : List TLink) (listZ0 : List TTributary) (sZ17 : Int × List (List Int) × List Int) (o : (Int × List (List Int) × List Int) ⊕ (List (List Int) × List Int)) (h : M_spec_GroomAllL2 linksZ0 listZ0 sZ17 = some o) : AWP (OkS Try.prog) A46L6 (qL [0, 2, 9, 10, 12] [9, 10] (S_spec_GroomAllL2 linksZ0 listZ0) (qX 2 [9, 10] [9, 10] (SX_spec_GroomAllL2)) o) (S_spec_GroomAllL2 linksZ0 listZ0 sZ17) := by
  unfold M_spec_GroomAllL2 at h
  simp only [S_spec_GroomAllL2, A46L6]
  refine Or.elim (bt (decide (sZ17.1 < (listZ0.length : Int)))) (fun cZ18 => ?_) (fun cZ18 => ?_)
  · replace h := cond_t cZ18 h
    obtain ⟨yZ19, hyZ19, h⟩ := bind_s h
    obtain ⟨hyZ19a, hyZ19b⟩ := geti_s hyZ19
    obtain ⟨rZ20, hrZ20, h⟩ := bind_s h
    simp only [VS1, VS2, VS3, VS4, VS5, VS6, VT1, VT2, finM_ret, finM_nrm, decide_true, decide_false, List.nodup_nil, List.nodup_cons, oks_p, oks_m, oks_h, ne_eq, not_false_eq_true, Int.reduceEq, Int.reduceNe, true_and, Nat.reduceSub, Nat.reduceMul, ↓reduceIte, reduceCtorEq, Nat.reduceEqDiff, Nat.reduceAdd, Nat.reduceLeDiff, Int.reduceLE, cZ18, hyZ19a, hyZ19b]
    refine call_u (by simp only [VS1, VS2, VS3, VS4, VS5, VS6, VT1, VT2, finM_ret, finM_nrm, decide_true, decide_false, List.nodup_nil, List.nodup_cons, oks_p, oks_m, oks_h, ne_eq, not_false_eq_true, Int.reduceEq, Int.reduceNe, true_and, Nat.reduceSub, Nat.reduceMul, ↓reduceIte, reduceCtorEq, Nat.reduceEqDiff, Nat.reduceAdd, Nat.reduceLeDiff, Int.reduceLE, cZ18, hyZ19a, hyZ19b]; exact w_spec_l18Route _ _ _ hrZ20 ) (by simp [AV.allU, allUL, allUL_iff, VT1, VT2]) (by simp only [VS1, VS2, VS3, VS4, VS5, VS6, VT1, VT2, finM_ret, finM_nrm, decide_true, decide_false, List.nodup_nil, List.nodup_cons, oks_p, oks_m, oks_h, ne_eq, not_false_eq_true, Int.reduceEq, Int.reduceNe, true_and, Nat.reduceSub, Nat.reduceMul, ↓reduceIte, reduceCtorEq, Nat.reduceEqDiff, Nat.reduceAdd, Nat.reduceLeDiff, Int.reduceLE, Nat.reduceLT]) ?_
    simp only [VA, VF1, ↓reduceIte, Nat.reduceEqDiff, Nat.reduceAdd, Nat.reduceMul, Nat.reduceSub, Nat.reduceLeDiff]
    obtain ⟨oZ30, hoZ30, h⟩ := bind_s h
    try simp only [VS1, VS2, VS3, VS4, VS5, VS6, VT1, VT2, finM_ret, finM_nrm, decide_true, decide_false, List.nodup_nil, List.nodup_cons, oks_p, oks_m, oks_h, ne_eq, not_false_eq_true, Int.reduceEq, Int.reduceNe, true_and, Nat.reduceSub, Nat.reduceMul, ↓reduceIte, reduceCtorEq, Nat.reduceEqDiff, Nat.reduceAdd, Nat.reduceLeDiff, Int.reduceLE, cZ18, hyZ19a, hyZ19b]
    refine join_rule0 (blk_rule0 (loop_rule (w_spec_GroomAllL3 linksZ0 listZ0 sZ17 rZ20) hoZ30 ?_)) ?_
    · all_goals simp [qL, qJ, qJ0, qS, qX, qR, qM, Shp, sub, tupd, VS1, VS2, VS3, VS4, VS5, VS6, VT1, VT2, S_spec_GroomAllL3, SX_spec_GroomAllL3]
    · simp only [SX_spec_GroomAllL3, A46R5]
      obtain ⟨lZ31, hlZ31, h⟩ := bnd_s h
      have eZ32 : Row.arr 1 [(.lst .u 1 (rZ20.map AV.i) : AV)] = Row.arr 1 (lZ31.map (e_Li .u)) := by rw [← hlZ31]; rfl
      have eZ33 : lZ31.length = 1 := by rw [← hlZ31]; rfl
      obtain ⟨uZ34, huZ34, h⟩ := bind_s h
      have huZ34g := grd_s huZ34
      obtain ⟨lZ35, hlZ35, h⟩ := bnd_s h
      have eZ36 : sZ17.2.1.map (e_Li .u) ++ lZ31.map (e_Li .u) = lZ35.map (e_Li .u) := by rw [← hlZ35, List.map_append]
      have eZ37 : sZ17.2.1.length + 1 = lZ35.length := by simp [← hlZ31, ← hlZ35] <;> omega
      rw [eZ37] at huZ34g
      cases h
      try simp only [VS1, VS2, VS3, VS4, VS5, VS6, VT1, VT2, finM_ret, finM_nrm, decide_true, decide_false, List.nodup_nil, List.nodup_cons, oks_p, oks_m, oks_h, ne_eq, not_false_eq_true, Int.reduceEq, Int.reduceNe, true_and, Nat.reduceSub, Nat.reduceMul, ↓reduceIte, reduceCtorEq, Nat.reduceEqDiff, Nat.reduceAdd, Nat.reduceLeDiff, Int.reduceLE, cZ18, hyZ19a, hyZ19b, eZ32, eZ33, huZ34g, eZ36, eZ37]
      all_goals simp [qL, qJ, qJ0, qS, qX, qR, qM, Shp, sub, tupd, VS1, VS2, VS3, VS4, VS5, VS6, VT1, VT2, S_spec_GroomAllL2, SX_spec_GroomAllL2, ← hlZ31, ← hlZ35]
  · replace h := cond_f cZ18 h
    cases h
    try simp only [VS1, VS2, VS3, VS4, VS5, VS6, VT1, VT2, finM_ret, finM_nrm, decide_true, decide_false, List.nodup_nil, List.nodup_cons, oks_p, oks_m, oks_h, ne_eq, not_false_eq_true, Int.reduceEq, Int.reduceNe, true_and, Nat.reduceSub, Nat.reduceMul, ↓reduceIte, reduceCtorEq, Nat.reduceEqDiff, Nat.reduceAdd, Nat.reduceLeDiff, Int.reduceLE, cZ18]
    all_goals simp [qL, qJ, qJ0, qS, qX, qR, qM, Shp, sub, tupd, VS1, VS2, VS3, VS4, VS5, VS6, VT1, VT2, S_spec_GroomAllL2, SX_spec_GroomAllL2]
theorem w_spec_GroomAll (linksZ0 : List TLink) (nodesZ0 : Int) (listZ0 : List TTributary) {r : List (List Int) × List Int × Bool} (h : M_spec_GroomAll linksZ0 nodesZ0 listZ0 = some r) : Ok Try.prog 46 [.lst .o 3 (linksZ0.map (e_TLink .o)), .i nodesZ0, .lst .o 3 (listZ0.map (e_TTributary .o))] ((fun r => .tup [.lst .u 1 (r.1.map (e_Li .u)), .lst .u 1 (r.2.1.map AV.i), .b r.2.2]) r) := by
  refine ok_of_body hmix m46 rfl ?_
  unfold M_spec_GroomAll at h
  simp only [A46, V46, body_eq]
  obtain ⟨oZ4, hoZ4, h⟩ := bind_s h
  try simp only [VS1, VS2, VS3, VS4, VS5, VS6, VT1, VT2, finM_ret, finM_nrm, decide_true, decide_false, List.nodup_nil, List.nodup_cons, oks_p, oks_m, oks_h, ne_eq, not_false_eq_true, Int.reduceEq, Int.reduceNe, true_and, Nat.reduceSub, Nat.reduceMul, ↓reduceIte, reduceCtorEq, Nat.reduceEqDiff, Nat.reduceAdd, Nat.reduceLeDiff, Int.reduceLE]
  refine join_rule0 (sh := (fun v => ⟨[(0, .lst .o 3 (linksZ0.map (e_TLink .o))), (2, .lst .o 3 (listZ0.map (e_TTributary .o))), (9, .sl 9 0 0), (10, .sl 10 0 0), (26, .b v)], [(9, .arr 1 []), (10, .arr 1 [])]⟩)) (s := oZ4) ?_ ?_
  · replace h := hoZ4
    obtain ⟨rZ1, hrZ1, h⟩ := bind_s h
    simp only [VS1, VS2, VS3, VS4, VS5, VS6, VT1, VT2, finM_ret, finM_nrm, decide_true, decide_false, List.nodup_nil, List.nodup_cons, oks_p, oks_m, oks_h, ne_eq, not_false_eq_true, Int.reduceEq, Int.reduceNe, true_and, Nat.reduceSub, Nat.reduceMul, ↓reduceIte, reduceCtorEq, Nat.reduceEqDiff, Nat.reduceAdd, Nat.reduceLeDiff, Int.reduceLE]
    refine call_s (by simp only [VS1, VS2, VS3, VS4, VS5, VS6, VT1, VT2, finM_ret, finM_nrm, decide_true, decide_false, List.nodup_nil, List.nodup_cons, oks_p, oks_m, oks_h, ne_eq, not_false_eq_true, Int.reduceEq, Int.reduceNe, true_and, Nat.reduceSub, Nat.reduceMul, ↓reduceIte, reduceCtorEq, Nat.reduceEqDiff, Nat.reduceAdd, Nat.reduceLeDiff, Int.reduceLE]; exact w_spec_l18Links _ _ hrZ1 ) ?_
    simp only [VA, VF1, ↓reduceIte, Nat.reduceEqDiff, Nat.reduceAdd, Nat.reduceMul, Nat.reduceSub, Nat.reduceLeDiff]
    refine Or.elim (bt (!rZ1)) (fun cZ2 => ?_) (fun cZ2 => ?_)
    · replace h := cond_t cZ2 h
      cases h
      try simp only [VS1, VS2, VS3, VS4, VS5, VS6, VT1, VT2, finM_ret, finM_nrm, decide_true, decide_false, List.nodup_nil, List.nodup_cons, oks_p, oks_m, oks_h, ne_eq, not_false_eq_true, Int.reduceEq, Int.reduceNe, true_and, Nat.reduceSub, Nat.reduceMul, ↓reduceIte, reduceCtorEq, Nat.reduceEqDiff, Nat.reduceAdd, Nat.reduceLeDiff, Int.reduceLE, cZ2]
      all_goals simp [qL, qJ, qJ0, qS, qX, qR, qM, Shp, sub, tupd, VS1, VS2, VS3, VS4, VS5, VS6, VT1, VT2]
    · replace h := cond_f cZ2 h
      obtain ⟨rZ3, hrZ3, h⟩ := bind_s h
      simp only [VS1, VS2, VS3, VS4, VS5, VS6, VT1, VT2, finM_ret, finM_nrm, decide_true, decide_false, List.nodup_nil, List.nodup_cons, oks_p, oks_m, oks_h, ne_eq, not_false_eq_true, Int.reduceEq, Int.reduceNe, true_and, Nat.reduceSub, Nat.reduceMul, ↓reduceIte, reduceCtorEq, Nat.reduceEqDiff, Nat.reduceAdd, Nat.reduceLeDiff, Int.reduceLE, cZ2]
      refine call_s (by simp only [VS1, VS2, VS3, VS4, VS5, VS6, VT1, VT2, finM_ret, finM_nrm, decide_true, decide_false, List.nodup_nil, List.nodup_cons, oks_p, oks_m, oks_h, ne_eq, not_false_eq_true, Int.reduceEq, Int.reduceNe, true_and, Nat.reduceSub, Nat.reduceMul, ↓reduceIte, reduceCtorEq, Nat.reduceEqDiff, Nat.reduceAdd, Nat.reduceLeDiff, Int.reduceLE, cZ2]; exact w_spec_l18Good _ _ hrZ3 ) ?_
      simp only [VA, VF1, ↓reduceIte, Nat.reduceEqDiff, Nat.reduceAdd, Nat.reduceMul, Nat.reduceSub, Nat.reduceLeDiff]
      cases h
      try simp only [VS1, VS2, VS3, VS4, VS5, VS6, VT1, VT2, finM_ret, finM_nrm, decide_true, decide_false, List.nodup_nil, List.nodup_cons, oks_p, oks_m, oks_h, ne_eq, not_false_eq_true, Int.reduceEq, Int.reduceNe, true_and, Nat.reduceSub, Nat.reduceMul, ↓reduceIte, reduceCtorEq, Nat.reduceEqDiff, Nat.reduceAdd, Nat.reduceLeDiff, Int.reduceLE, cZ2]
      all_goals simp [qL, qJ, qJ0, qS, qX, qR, qM, Shp, sub, tupd, VS1, VS2, VS3, VS4, VS5, VS6, VT1, VT2]
  · simp only [A46R1]
    refine Or.elim (bt (oZ4)) (fun cZ5 => ?_) (fun cZ5 => ?_)
    · replace h := cond_t cZ5 h
      cases h
      try simp only [VS1, VS2, VS3, VS4, VS5, VS6, VT1, VT2, finM_ret, finM_nrm, decide_true, decide_false, List.nodup_nil, List.nodup_cons, oks_p, oks_m, oks_h, ne_eq, not_false_eq_true, Int.reduceEq, Int.reduceNe, true_and, Nat.reduceSub, Nat.reduceMul, ↓reduceIte, reduceCtorEq, Nat.reduceEqDiff, Nat.reduceAdd, Nat.reduceLeDiff, Int.reduceLE, cZ5]
      all_goals simp [qL, qJ, qJ0, qS, qX, qR, qM, Shp, sub, tupd, VS1, VS2, VS3, VS4, VS5, VS6, VT1, VT2, V46]
    · replace h := cond_f cZ5 h
      obtain ⟨oZ16, hoZ16, h⟩ := bind_s h
      try simp only [VS1, VS2, VS3, VS4, VS5, VS6, VT1, VT2, finM_ret, finM_nrm, decide_true, decide_false, List.nodup_nil, List.nodup_cons, oks_p, oks_m, oks_h, ne_eq, not_false_eq_true, Int.reduceEq, Int.reduceNe, true_and, Nat.reduceSub, Nat.reduceMul, ↓reduceIte, reduceCtorEq, Nat.reduceEqDiff, Nat.reduceAdd, Nat.reduceLeDiff, Int.reduceLE, cZ5]
      refine join_rule0 (blk_rule0 (loop_rule (w_spec_GroomAllL1 linksZ0 listZ0) hoZ16 ?_)) ?_
      · all_goals simp [qL, qJ, qJ0, qS, qX, qR, qM, Shp, sub, tupd, VS1, VS2, VS3, VS4, VS5, VS6, VT1, VT2, S_spec_GroomAllL1, SX_spec_GroomAllL1]
      · simp only [SX_spec_GroomAllL1, A46R3]
        obtain ⟨oZ38, hoZ38, h⟩ := bind_s h
        try simp only [VS1, VS2, VS3, VS4, VS5, VS6, VT1, VT2, finM_ret, finM_nrm, decide_true, decide_false, List.nodup_nil, List.nodup_cons, oks_p, oks_m, oks_h, ne_eq, not_false_eq_true, Int.reduceEq, Int.reduceNe, true_and, Nat.reduceSub, Nat.reduceMul, ↓reduceIte, reduceCtorEq, Nat.reduceEqDiff, Nat.reduceAdd, Nat.reduceLeDiff, Int.reduceLE, cZ5]
        refine join_rule0 (blk_rule0 (loop_rule (w_spec_GroomAllL2 linksZ0 listZ0) hoZ38 ?_)) ?_
        · all_goals simp [qL, qJ, qJ0, qS, qX, qR, qM, Shp, sub, tupd, VS1, VS2, VS3, VS4, VS5, VS6, VT1, VT2, S_spec_GroomAllL2, SX_spec_GroomAllL2]
        · simp only [SX_spec_GroomAllL2, A46R7]
          cases h
          try simp only [VS1, VS2, VS3, VS4, VS5, VS6, VT1, VT2, finM_ret, finM_nrm, decide_true, decide_false, List.nodup_nil, List.nodup_cons, oks_p, oks_m, oks_h, ne_eq, not_false_eq_true, Int.reduceEq, Int.reduceNe, true_and, Nat.reduceSub, Nat.reduceMul, ↓reduceIte, reduceCtorEq, Nat.reduceEqDiff, Nat.reduceAdd, Nat.reduceLeDiff, Int.reduceLE, cZ5]
          all_goals simp [qL, qJ, qJ0, qS, qX, qR, qM, Shp, sub, tupd, VS1, VS2, VS3, VS4, VS5, VS6, VT1, VT2, V46]
theorem w_impl_within (nZ0 : Int) (lowZ0 : Int) (highZ0 : Int) {r : Bool} (h : M_impl_within nZ0 lowZ0 highZ0 = some r) : Ok Try.prog 55 [.i nZ0, .i lowZ0, .i highZ0] ((fun r => .b r) r) := by
  refine ok_of_body hmix m55 rfl ?_
  unfold M_impl_within at h
  simp only [A55, V55, body_eq]
  refine Or.elim (bt (decide (lowZ0 ≤ nZ0))) (fun cZ1 => ?_) (fun cZ1 => ?_)
  · replace h := cond_t cZ1 h
    cases h
    try simp only [VS1, VS2, VS3, VS4, VS5, VS6, VT1, VT2, finM_ret, finM_nrm, decide_true, decide_false, List.nodup_nil, List.nodup_cons, oks_p, oks_m, oks_h, ne_eq, not_false_eq_true, Int.reduceEq, Int.reduceNe, true_and, Nat.reduceSub, Nat.reduceMul, ↓reduceIte, reduceCtorEq, Nat.reduceEqDiff, Nat.reduceAdd, Nat.reduceLeDiff, Int.reduceLE, cZ1]
    all_goals simp [qL, qJ, qJ0, qS, qX, qR, qM, Shp, sub, tupd, VS1, VS2, VS3, VS4, VS5, VS6, VT1, VT2, V55]
  · replace h := cond_f cZ1 h
    cases h
    try simp only [VS1, VS2, VS3, VS4, VS5, VS6, VT1, VT2, finM_ret, finM_nrm, decide_true, decide_false, List.nodup_nil, List.nodup_cons, oks_p, oks_m, oks_h, ne_eq, not_false_eq_true, Int.reduceEq, Int.reduceNe, true_and, Nat.reduceSub, Nat.reduceMul, ↓reduceIte, reduceCtorEq, Nat.reduceEqDiff, Nat.reduceAdd, Nat.reduceLeDiff, Int.reduceLE, cZ1]
    all_goals simp [qL, qJ, qJ0, qS, qX, qR, qM, Shp, sub, tupd, VS1, VS2, VS3, VS4, VS5, VS6, VT1, VT2, V55]
def S_slices_IndexFunc_LinkL1 (sZ0 : List TLink) (F_fZ0 : Nat) (C_fZ0 : List AV) (v : Int) : St := ⟨[(0, .lst .o 3 (sZ0.map (e_TLink .o))), (1, .fn F_fZ0 C_fZ0), (7, .i (sZ0.length : Int)), (8, .i v)], []⟩
def SX_slices_IndexFunc_LinkL1 (v : Unit) : St := ⟨[], []⟩
theorem w_slices_IndexFunc_LinkL1 (sZ0 : List TLink) (fZ0 : TLink → Option Bool) (F_fZ0 : Nat) (C_fZ0 : List AV) (hC_fZ0 : Fixed C_fZ0) (hf_fZ0 : ∀ (x0 : TLink) (r : Bool), fZ0 x0 = some r → Ok Try.prog F_fZ0 ((.agg [.i x0.A, .i x0.B, .i x0.Capacity]) :: C_fZ0) (.b r)) (sZ1 : Int) (o : Int ⊕ (Unit ⊕ Int)) (h : M_slices_IndexFunc_LinkL1 sZ0 fZ0 sZ1 = some o) : AWP (OkS Try.prog) A113L1 (qL [0, 1, 7, 8] [] (S_slices_IndexFunc_LinkL1 sZ0 F_fZ0 C_fZ0) (qS (qX 0 [] [] (SX_slices_IndexFunc_LinkL1)) (qR V113 (fun r => .i r))) o) (S_slices_IndexFunc_LinkL1 sZ0 F_fZ0 C_fZ0 sZ1) := by
  unfold M_slices_IndexFunc_LinkL1 at h
  simp only [S_slices_IndexFunc_LinkL1, A113L1]
  refine Or.elim (bt (decide (sZ1 < (sZ0.length : Int)))) (fun cZ2 => ?_) (fun cZ2 => ?_)
  · replace h := cond_t cZ2 h
    obtain ⟨yZ3, hyZ3, h⟩ := bind_s h
    obtain ⟨hyZ3a, hyZ3b⟩ := geti_s hyZ3
    obtain ⟨rZ4, hrZ4, h⟩ := bind_s h
    simp only [VS1, VS2, VS3, VS4, VS5, VS6, VT1, VT2, finM_ret, finM_nrm, decide_true, decide_false, List.nodup_nil, List.nodup_cons, oks_p, oks_m, oks_h, ne_eq, not_false_eq_true, Int.reduceEq, Int.reduceNe, true_and, Nat.reduceSub, Nat.reduceMul, ↓reduceIte, reduceCtorEq, Nat.reduceEqDiff, Nat.reduceAdd, Nat.reduceLeDiff, Int.reduceLE, cZ2, hyZ3a, hyZ3b]
    refine call_s (by simp only [VS1, VS2, VS3, VS4, VS5, VS6, VT1, VT2, finM_ret, finM_nrm, decide_true, decide_false, List.nodup_nil, List.nodup_cons, oks_p, oks_m, oks_h, ne_eq, not_false_eq_true, Int.reduceEq, Int.reduceNe, true_and, Nat.reduceSub, Nat.reduceMul, ↓reduceIte, reduceCtorEq, Nat.reduceEqDiff, Nat.reduceAdd, Nat.reduceLeDiff, Int.reduceLE, cZ2, hyZ3a, hyZ3b, hC_fZ0.1 _ _]; exact hf_fZ0 _ _ hrZ4) ?_
    simp only [VA, VF1, ↓reduceIte, Nat.reduceEqDiff, Nat.reduceAdd, Nat.reduceMul, Nat.reduceSub, Nat.reduceLeDiff]
    refine Or.elim (bt (rZ4)) (fun cZ5 => ?_) (fun cZ5 => ?_)
    · replace h := cond_t cZ5 h
      cases h
      try simp only [VS1, VS2, VS3, VS4, VS5, VS6, VT1, VT2, finM_ret, finM_nrm, decide_true, decide_false, List.nodup_nil, List.nodup_cons, oks_p, oks_m, oks_h, ne_eq, not_false_eq_true, Int.reduceEq, Int.reduceNe, true_and, Nat.reduceSub, Nat.reduceMul, ↓reduceIte, reduceCtorEq, Nat.reduceEqDiff, Nat.reduceAdd, Nat.reduceLeDiff, Int.reduceLE, cZ2, hyZ3a, hyZ3b, cZ5]
      all_goals simp [qL, qJ, qJ0, qS, qX, qR, qM, Shp, sub, tupd, VS1, VS2, VS3, VS4, VS5, VS6, VT1, VT2, V113, hC_fZ0.2]
    · replace h := cond_f cZ5 h
      cases h
      try simp only [VS1, VS2, VS3, VS4, VS5, VS6, VT1, VT2, finM_ret, finM_nrm, decide_true, decide_false, List.nodup_nil, List.nodup_cons, oks_p, oks_m, oks_h, ne_eq, not_false_eq_true, Int.reduceEq, Int.reduceNe, true_and, Nat.reduceSub, Nat.reduceMul, ↓reduceIte, reduceCtorEq, Nat.reduceEqDiff, Nat.reduceAdd, Nat.reduceLeDiff, Int.reduceLE, cZ2, hyZ3a, hyZ3b, cZ5]
      all_goals simp [qL, qJ, qJ0, qS, qX, qR, qM, Shp, sub, tupd, VS1, VS2, VS3, VS4, VS5, VS6, VT1, VT2, S_slices_IndexFunc_LinkL1, SX_slices_IndexFunc_LinkL1, hC_fZ0.2]
  · replace h := cond_f cZ2 h
    cases h
    try simp only [VS1, VS2, VS3, VS4, VS5, VS6, VT1, VT2, finM_ret, finM_nrm, decide_true, decide_false, List.nodup_nil, List.nodup_cons, oks_p, oks_m, oks_h, ne_eq, not_false_eq_true, Int.reduceEq, Int.reduceNe, true_and, Nat.reduceSub, Nat.reduceMul, ↓reduceIte, reduceCtorEq, Nat.reduceEqDiff, Nat.reduceAdd, Nat.reduceLeDiff, Int.reduceLE, cZ2]
    all_goals simp [qL, qJ, qJ0, qS, qX, qR, qM, Shp, sub, tupd, VS1, VS2, VS3, VS4, VS5, VS6, VT1, VT2, S_slices_IndexFunc_LinkL1, SX_slices_IndexFunc_LinkL1, hC_fZ0.2]
theorem w_slices_IndexFunc_Link (sZ0 : List TLink) (fZ0 : TLink → Option Bool) {r : Int} (h : M_slices_IndexFunc_Link sZ0 fZ0 = some r) (F_fZ0 : Nat) (C_fZ0 : List AV) (hC_fZ0 : Fixed C_fZ0) (hf_fZ0 : ∀ (x0 : TLink) (r : Bool), fZ0 x0 = some r → Ok Try.prog F_fZ0 ((.agg [.i x0.A, .i x0.B, .i x0.Capacity]) :: C_fZ0) (.b r)) : Ok Try.prog 113 [.lst .o 3 (sZ0.map (e_TLink .o)), .fn F_fZ0 C_fZ0] ((fun r => .i r) r) := by
  refine ok_of_body hmix m113 rfl ?_
  unfold M_slices_IndexFunc_Link at h
  simp only [A113, V113, body_eq]
  obtain ⟨oZ6, hoZ6, h⟩ := bind_s h
  try simp only [VS1, VS2, VS3, VS4, VS5, VS6, VT1, VT2, finM_ret, finM_nrm, decide_true, decide_false, List.nodup_nil, List.nodup_cons, oks_p, oks_m, oks_h, ne_eq, not_false_eq_true, Int.reduceEq, Int.reduceNe, true_and, Nat.reduceSub, Nat.reduceMul, ↓reduceIte, reduceCtorEq, Nat.reduceEqDiff, Nat.reduceAdd, Nat.reduceLeDiff, Int.reduceLE]
  refine join_rule (o := oZ6) (blk_rule sideR (loop_rule (w_slices_IndexFunc_LinkL1 sZ0 fZ0 F_fZ0 C_fZ0 hC_fZ0 hf_fZ0) hoZ6 ?_)) (fun vZ7 hv => ?_) (fun xZ8 hv e τ hne hq => ?_)
  · all_goals simp [qL, qJ, qJ0, qS, qX, qR, qM, Shp, sub, tupd, VS1, VS2, VS3, VS4, VS5, VS6, VT1, VT2, S_slices_IndexFunc_LinkL1, SX_slices_IndexFunc_LinkL1, hC_fZ0.2]
  · subst hv
    simp only [] at h
    simp only [SX_slices_IndexFunc_LinkL1, A113R2]
    cases h
    try simp only [VS1, VS2, VS3, VS4, VS5, VS6, VT1, VT2, finM_ret, finM_nrm, decide_true, decide_false, List.nodup_nil, List.nodup_cons, oks_p, oks_m, oks_h, ne_eq, not_false_eq_true, Int.reduceEq, Int.reduceNe, true_and, Nat.reduceSub, Nat.reduceMul, ↓reduceIte, reduceCtorEq, Nat.reduceEqDiff, Nat.reduceAdd, Nat.reduceLeDiff, Int.reduceLE]
    all_goals simp [qL, qJ, qJ0, qS, qX, qR, qM, Shp, sub, tupd, VS1, VS2, VS3, VS4, VS5, VS6, VT1, VT2, V113, hC_fZ0.2]
  · subst hv
    simp only [] at h
    obtain ⟨rfl, qZ9⟩ := hq
    cases h
    exact qZ9
theorem w_slices_ContainsFunc_Link (sZ0 : List TLink) (fZ0 : TLink → Option Bool) {r : Bool} (h : M_slices_ContainsFunc_Link sZ0 fZ0 = some r) (F_fZ0 : Nat) (C_fZ0 : List AV) (hC_fZ0 : Fixed C_fZ0) (hf_fZ0 : ∀ (x0 : TLink) (r : Bool), fZ0 x0 = some r → Ok Try.prog F_fZ0 ((.agg [.i x0.A, .i x0.B, .i x0.Capacity]) :: C_fZ0) (.b r)) : Ok Try.prog 101 [.lst .o 3 (sZ0.map (e_TLink .o)), .fn F_fZ0 C_fZ0] ((fun r => .b r) r) := by
  refine ok_of_body hmix m101 rfl ?_
  unfold M_slices_ContainsFunc_Link at h
  simp only [A101, V101, body_eq]
  obtain ⟨rZ1, hrZ1, h⟩ := bind_s h
  simp only [VS1, VS2, VS3, VS4, VS5, VS6, VT1, VT2, finM_ret, finM_nrm, decide_true, decide_false, List.nodup_nil, List.nodup_cons, oks_p, oks_m, oks_h, ne_eq, not_false_eq_true, Int.reduceEq, Int.reduceNe, true_and, Nat.reduceSub, Nat.reduceMul, ↓reduceIte, reduceCtorEq, Nat.reduceEqDiff, Nat.reduceAdd, Nat.reduceLeDiff, Int.reduceLE]
  refine call_s (by simp only [VS1, VS2, VS3, VS4, VS5, VS6, VT1, VT2, finM_ret, finM_nrm, decide_true, decide_false, List.nodup_nil, List.nodup_cons, oks_p, oks_m, oks_h, ne_eq, not_false_eq_true, Int.reduceEq, Int.reduceNe, true_and, Nat.reduceSub, Nat.reduceMul, ↓reduceIte, reduceCtorEq, Nat.reduceEqDiff, Nat.reduceAdd, Nat.reduceLeDiff, Int.reduceLE, hC_fZ0.1 _ _]; exact w_slices_IndexFunc_Link _ _ hrZ1 F_fZ0 C_fZ0 hC_fZ0 hf_fZ0) ?_
  simp only [VA, VF1, ↓reduceIte, Nat.reduceEqDiff, Nat.reduceAdd, Nat.reduceMul, Nat.reduceSub, Nat.reduceLeDiff]
  cases h
  try simp only [VS1, VS2, VS3, VS4, VS5, VS6, VT1, VT2, finM_ret, finM_nrm, decide_true, decide_false, List.nodup_nil, List.nodup_cons, oks_p, oks_m, oks_h, ne_eq, not_false_eq_true, Int.reduceEq, Int.reduceNe, true_and, Nat.reduceSub, Nat.reduceMul, ↓reduceIte, reduceCtorEq, Nat.reduceEqDiff, Nat.reduceAdd, Nat.reduceLeDiff, Int.reduceLE]
  all_goals simp [qL, qJ, qJ0, qS, qX, qR, qM, Shp, sub, tupd, VS1, VS2, VS3, VS4, VS5, VS6, VT1, VT2, V101, hC_fZ0.2]
theorem w_impl_areEnds (aZ0 : Int) (bZ0 : Int) (nodesZ0 : Int) {r : Bool} (h : M_impl_areEnds aZ0 bZ0 nodesZ0 = some r) : Ok Try.prog 58 [.i aZ0, .i bZ0, .i nodesZ0] ((fun r => .b r) r) := by
  refine ok_of_body hmix m58 rfl ?_
  unfold M_impl_areEnds at h
  simp only [A58, V58, body_eq]
  obtain ⟨rZ1, hrZ1, h⟩ := bind_s h
  simp only [VS1, VS2, VS3, VS4, VS5, VS6, VT1, VT2, finM_ret, finM_nrm, decide_true, decide_false, List.nodup_nil, List.nodup_cons, oks_p, oks_m, oks_h, ne_eq, not_false_eq_true, Int.reduceEq, Int.reduceNe, true_and, Nat.reduceSub, Nat.reduceMul, ↓reduceIte, reduceCtorEq, Nat.reduceEqDiff, Nat.reduceAdd, Nat.reduceLeDiff, Int.reduceLE]
  refine call_s (by simp only [VS1, VS2, VS3, VS4, VS5, VS6, VT1, VT2, finM_ret, finM_nrm, decide_true, decide_false, List.nodup_nil, List.nodup_cons, oks_p, oks_m, oks_h, ne_eq, not_false_eq_true, Int.reduceEq, Int.reduceNe, true_and, Nat.reduceSub, Nat.reduceMul, ↓reduceIte, reduceCtorEq, Nat.reduceEqDiff, Nat.reduceAdd, Nat.reduceLeDiff, Int.reduceLE]; exact w_impl_within _ _ _ hrZ1 ) ?_
  simp only [VA, VF1, ↓reduceIte, Nat.reduceEqDiff, Nat.reduceAdd, Nat.reduceMul, Nat.reduceSub, Nat.reduceLeDiff]
  refine Or.elim (bt (rZ1)) (fun cZ2 => ?_) (fun cZ2 => ?_)
  · replace h := cond_t cZ2 h
    obtain ⟨rZ3, hrZ3, h⟩ := bind_s h
    simp only [VS1, VS2, VS3, VS4, VS5, VS6, VT1, VT2, finM_ret, finM_nrm, decide_true, decide_false, List.nodup_nil, List.nodup_cons, oks_p, oks_m, oks_h, ne_eq, not_false_eq_true, Int.reduceEq, Int.reduceNe, true_and, Nat.reduceSub, Nat.reduceMul, ↓reduceIte, reduceCtorEq, Nat.reduceEqDiff, Nat.reduceAdd, Nat.reduceLeDiff, Int.reduceLE, cZ2]
    refine call_s (by simp only [VS1, VS2, VS3, VS4, VS5, VS6, VT1, VT2, finM_ret, finM_nrm, decide_true, decide_false, List.nodup_nil, List.nodup_cons, oks_p, oks_m, oks_h, ne_eq, not_false_eq_true, Int.reduceEq, Int.reduceNe, true_and, Nat.reduceSub, Nat.reduceMul, ↓reduceIte, reduceCtorEq, Nat.reduceEqDiff, Nat.reduceAdd, Nat.reduceLeDiff, Int.reduceLE, cZ2]; exact w_impl_within _ _ _ hrZ3 ) ?_
    simp only [VA, VF1, ↓reduceIte, Nat.reduceEqDiff, Nat.reduceAdd, Nat.reduceMul, Nat.reduceSub, Nat.reduceLeDiff]
    refine Or.elim (bt (rZ3)) (fun cZ4 => ?_) (fun cZ4 => ?_)
    · replace h := cond_t cZ4 h
      cases h
      try simp only [VS1, VS2, VS3, VS4, VS5, VS6, VT1, VT2, finM_ret, finM_nrm, decide_true, decide_false, List.nodup_nil, List.nodup_cons, oks_p, oks_m, oks_h, ne_eq, not_false_eq_true, Int.reduceEq, Int.reduceNe, true_and, Nat.reduceSub, Nat.reduceMul, ↓reduceIte, reduceCtorEq, Nat.reduceEqDiff, Nat.reduceAdd, Nat.reduceLeDiff, Int.reduceLE, cZ2, cZ4]
      all_goals simp [qL, qJ, qJ0, qS, qX, qR, qM, Shp, sub, tupd, VS1, VS2, VS3, VS4, VS5, VS6, VT1, VT2, V58]
    · replace h := cond_f cZ4 h
      cases h
      try simp only [VS1, VS2, VS3, VS4, VS5, VS6, VT1, VT2, finM_ret, finM_nrm, decide_true, decide_false, List.nodup_nil, List.nodup_cons, oks_p, oks_m, oks_h, ne_eq, not_false_eq_true, Int.reduceEq, Int.reduceNe, true_and, Nat.reduceSub, Nat.reduceMul, ↓reduceIte, reduceCtorEq, Nat.reduceEqDiff, Nat.reduceAdd, Nat.reduceLeDiff, Int.reduceLE, cZ2, cZ4]
      all_goals simp [qL, qJ, qJ0, qS, qX, qR, qM, Shp, sub, tupd, VS1, VS2, VS3, VS4, VS5, VS6, VT1, VT2, V58]
  · replace h := cond_f cZ2 h
    cases h
    try simp only [VS1, VS2, VS3, VS4, VS5, VS6, VT1, VT2, finM_ret, finM_nrm, decide_true, decide_false, List.nodup_nil, List.nodup_cons, oks_p, oks_m, oks_h, ne_eq, not_false_eq_true, Int.reduceEq, Int.reduceNe, true_and, Nat.reduceSub, Nat.reduceMul, ↓reduceIte, reduceCtorEq, Nat.reduceEqDiff, Nat.reduceAdd, Nat.reduceLeDiff, Int.reduceLE, cZ2]
    all_goals simp [qL, qJ, qJ0, qS, qX, qR, qM, Shp, sub, tupd, VS1, VS2, VS3, VS4, VS5, VS6, VT1, VT2, V58]
theorem w_impl_areLinks_c1 (lZ0 : TLink) (p1Z0 : Int) {r : Bool} (h : M_impl_areLinks_c1 lZ0 p1Z0 = some r) : Ok Try.prog 102 [.agg [.i lZ0.A, .i lZ0.B, .i lZ0.Capacity], .bp (.i p1Z0) 0] ((fun r => .b r) r) := by
  refine ok_of_body hmix m102 rfl ?_
  unfold M_impl_areLinks_c1 at h
  simp only [A102, V102, body_eq]
  obtain ⟨rZ1, hrZ1, h⟩ := bind_s h
  simp only [VS1, VS2, VS3, VS4, VS5, VS6, VT1, VT2, finM_ret, finM_nrm, decide_true, decide_false, List.nodup_nil, List.nodup_cons, oks_p, oks_m, oks_h, ne_eq, not_false_eq_true, Int.reduceEq, Int.reduceNe, true_and, Nat.reduceSub, Nat.reduceMul, ↓reduceIte, reduceCtorEq, Nat.reduceEqDiff, Nat.reduceAdd, Nat.reduceLeDiff, Int.reduceLE]
  refine call_s (by simp only [VS1, VS2, VS3, VS4, VS5, VS6, VT1, VT2, finM_ret, finM_nrm, decide_true, decide_false, List.nodup_nil, List.nodup_cons, oks_p, oks_m, oks_h, ne_eq, not_false_eq_true, Int.reduceEq, Int.reduceNe, true_and, Nat.reduceSub, Nat.reduceMul, ↓reduceIte, reduceCtorEq, Nat.reduceEqDiff, Nat.reduceAdd, Nat.reduceLeDiff, Int.reduceLE]; exact w_impl_areEnds _ _ _ hrZ1 ) ?_
  simp only [VA, VF1, ↓reduceIte, Nat.reduceEqDiff, Nat.reduceAdd, Nat.reduceMul, Nat.reduceSub, Nat.reduceLeDiff]
  refine Or.elim (bt (!rZ1)) (fun cZ2 => ?_) (fun cZ2 => ?_)
  · replace h := cond_t cZ2 h
    cases h
    try simp only [VS1, VS2, VS3, VS4, VS5, VS6, VT1, VT2, finM_ret, finM_nrm, decide_true, decide_false, List.nodup_nil, List.nodup_cons, oks_p, oks_m, oks_h, ne_eq, not_false_eq_true, Int.reduceEq, Int.reduceNe, true_and, Nat.reduceSub, Nat.reduceMul, ↓reduceIte, reduceCtorEq, Nat.reduceEqDiff, Nat.reduceAdd, Nat.reduceLeDiff, Int.reduceLE, cZ2]
    all_goals simp [qL, qJ, qJ0, qS, qX, qR, qM, Shp, sub, tupd, VS1, VS2, VS3, VS4, VS5, VS6, VT1, VT2, V102]
  · replace h := cond_f cZ2 h
    obtain ⟨rZ3, hrZ3, h⟩ := bind_s h
    simp only [VS1, VS2, VS3, VS4, VS5, VS6, VT1, VT2, finM_ret, finM_nrm, decide_true, decide_false, List.nodup_nil, List.nodup_cons, oks_p, oks_m, oks_h, ne_eq, not_false_eq_true, Int.reduceEq, Int.reduceNe, true_and, Nat.reduceSub, Nat.reduceMul, ↓reduceIte, reduceCtorEq, Nat.reduceEqDiff, Nat.reduceAdd, Nat.reduceLeDiff, Int.reduceLE, cZ2]
    refine call_s (by simp only [VS1, VS2, VS3, VS4, VS5, VS6, VT1, VT2, finM_ret, finM_nrm, decide_true, decide_false, List.nodup_nil, List.nodup_cons, oks_p, oks_m, oks_h, ne_eq, not_false_eq_true, Int.reduceEq, Int.reduceNe, true_and, Nat.reduceSub, Nat.reduceMul, ↓reduceIte, reduceCtorEq, Nat.reduceEqDiff, Nat.reduceAdd, Nat.reduceLeDiff, Int.reduceLE, cZ2]; exact w_impl_within _ _ _ hrZ3 ) ?_
    simp only [VA, VF1, ↓reduceIte, Nat.reduceEqDiff, Nat.reduceAdd, Nat.reduceMul, Nat.reduceSub, Nat.reduceLeDiff]
    cases h
    try simp only [VS1, VS2, VS3, VS4, VS5, VS6, VT1, VT2, finM_ret, finM_nrm, decide_true, decide_false, List.nodup_nil, List.nodup_cons, oks_p, oks_m, oks_h, ne_eq, not_false_eq_true, Int.reduceEq, Int.reduceNe, true_and, Nat.reduceSub, Nat.reduceMul, ↓reduceIte, reduceCtorEq, Nat.reduceEqDiff, Nat.reduceAdd, Nat.reduceLeDiff, Int.reduceLE, cZ2]
    all_goals simp [qL, qJ, qJ0, qS, qX, qR, qM, Shp, sub, tupd, VS1, VS2, VS3, VS4, VS5, VS6, VT1, VT2, V102]
theorem w_impl_areLinks (linksZ0 : List TLink) (nodesZ0 : Int) {r : Bool} (h : M_impl_areLinks linksZ0 nodesZ0 = some r) : Ok Try.prog 70 [.lst .o 3 (linksZ0.map (e_TLink .o)), .i nodesZ0] ((fun r => .b r) r) := by
  refine ok_of_body hmix m70 rfl ?_
  unfold M_impl_areLinks at h
  simp only [A70, V70, body_eq]
  obtain ⟨rZ1, hrZ1, h⟩ := bind_s h
  simp only [VS1, VS2, VS3, VS4, VS5, VS6, VT1, VT2, finM_ret, finM_nrm, decide_true, decide_false, List.nodup_nil, List.nodup_cons, oks_p, oks_m, oks_h, ne_eq, not_false_eq_true, Int.reduceEq, Int.reduceNe, true_and, Nat.reduceSub, Nat.reduceMul, ↓reduceIte, reduceCtorEq, Nat.reduceEqDiff, Nat.reduceAdd, Nat.reduceLeDiff, Int.reduceLE]
  refine call_s (by simp only [VS1, VS2, VS3, VS4, VS5, VS6, VT1, VT2, finM_ret, finM_nrm, decide_true, decide_false, List.nodup_nil, List.nodup_cons, oks_p, oks_m, oks_h, ne_eq, not_false_eq_true, Int.reduceEq, Int.reduceNe, true_and, Nat.reduceSub, Nat.reduceMul, ↓reduceIte, reduceCtorEq, Nat.reduceEqDiff, Nat.reduceAdd, Nat.reduceLeDiff, Int.reduceLE]; exact w_impl_within _ _ _ hrZ1 ) ?_
  simp only [VA, VF1, ↓reduceIte, Nat.reduceEqDiff, Nat.reduceAdd, Nat.reduceMul, Nat.reduceSub, Nat.reduceLeDiff]
  refine Or.elim (bt (rZ1)) (fun cZ2 => ?_) (fun cZ2 => ?_)
  · replace h := cond_t cZ2 h
    refine Or.elim (bt (decide ((linksZ0.length : Int) ≤ 12))) (fun cZ3 => ?_) (fun cZ3 => ?_)
    · replace h := cond_t cZ3 h
      obtain ⟨rZ4, hrZ4, h⟩ := bind_s h
      simp only [VS1, VS2, VS3, VS4, VS5, VS6, VT1, VT2, finM_ret, finM_nrm, decide_true, decide_false, List.nodup_nil, List.nodup_cons, oks_p, oks_m, oks_h, ne_eq, not_false_eq_true, Int.reduceEq, Int.reduceNe, true_and, Nat.reduceSub, Nat.reduceMul, ↓reduceIte, reduceCtorEq, Nat.reduceEqDiff, Nat.reduceAdd, Nat.reduceLeDiff, Int.reduceLE, cZ2, cZ3]
      refine call_s (by simp only [VS1, VS2, VS3, VS4, VS5, VS6, VT1, VT2, finM_ret, finM_nrm, decide_true, decide_false, List.nodup_nil, List.nodup_cons, oks_p, oks_m, oks_h, ne_eq, not_false_eq_true, Int.reduceEq, Int.reduceNe, true_and, Nat.reduceSub, Nat.reduceMul, ↓reduceIte, reduceCtorEq, Nat.reduceEqDiff, Nat.reduceAdd, Nat.reduceLeDiff, Int.reduceLE, cZ2, cZ3]; exact w_slices_ContainsFunc_Link _ _ hrZ4 102 [.bp (.i nodesZ0) 0] ⟨fun ρ k => by simp only [VS1, VS2, VS3, VS4, VS5, VS6, VT1, VT2, finM_ret, finM_nrm, decide_true, decide_false, List.nodup_nil, List.nodup_cons, oks_p, oks_m, oks_h, ne_eq, not_false_eq_true, Int.reduceEq, Int.reduceNe, true_and, Nat.reduceSub, Nat.reduceMul, ↓reduceIte, reduceCtorEq, Nat.reduceEqDiff, Nat.reduceAdd, Nat.reduceLeDiff, Int.reduceLE], by simp [mentsL, AV.ments]⟩ (fun _ _ h => w_impl_areLinks_c1 _ _ h)) ?_
      simp only [VA, VF1, ↓reduceIte, Nat.reduceEqDiff, Nat.reduceAdd, Nat.reduceMul, Nat.reduceSub, Nat.reduceLeDiff]
      cases h
      try simp only [VS1, VS2, VS3, VS4, VS5, VS6, VT1, VT2, finM_ret, finM_nrm, decide_true, decide_false, List.nodup_nil, List.nodup_cons, oks_p, oks_m, oks_h, ne_eq, not_false_eq_true, Int.reduceEq, Int.reduceNe, true_and, Nat.reduceSub, Nat.reduceMul, ↓reduceIte, reduceCtorEq, Nat.reduceEqDiff, Nat.reduceAdd, Nat.reduceLeDiff, Int.reduceLE, cZ2, cZ3]
      all_goals simp [qL, qJ, qJ0, qS, qX, qR, qM, Shp, sub, tupd, VS1, VS2, VS3, VS4, VS5, VS6, VT1, VT2, V70]
    · replace h := cond_f cZ3 h
      cases h
      try simp only [VS1, VS2, VS3, VS4, VS5, VS6, VT1, VT2, finM_ret, finM_nrm, decide_true, decide_false, List.nodup_nil, List.nodup_cons, oks_p, oks_m, oks_h, ne_eq, not_false_eq_true, Int.reduceEq, Int.reduceNe, true_and, Nat.reduceSub, Nat.reduceMul, ↓reduceIte, reduceCtorEq, Nat.reduceEqDiff, Nat.reduceAdd, Nat.reduceLeDiff, Int.reduceLE, cZ2, cZ3]
      all_goals simp [qL, qJ, qJ0, qS, qX, qR, qM, Shp, sub, tupd, VS1, VS2, VS3, VS4, VS5, VS6, VT1, VT2, V70]
  · replace h := cond_f cZ2 h
    cases h
    try simp only [VS1, VS2, VS3, VS4, VS5, VS6, VT1, VT2, finM_ret, finM_nrm, decide_true, decide_false, List.nodup_nil, List.nodup_cons, oks_p, oks_m, oks_h, ne_eq, not_false_eq_true, Int.reduceEq, Int.reduceNe, true_and, Nat.reduceSub, Nat.reduceMul, ↓reduceIte, reduceCtorEq, Nat.reduceEqDiff, Nat.reduceAdd, Nat.reduceLeDiff, Int.reduceLE, cZ2]
    all_goals simp [qL, qJ, qJ0, qS, qX, qR, qM, Shp, sub, tupd, VS1, VS2, VS3, VS4, VS5, VS6, VT1, VT2, V70]
def S_slices_IndexFunc_TributaryL1 (sZ0 : List TTributary) (F_fZ0 : Nat) (C_fZ0 : List AV) (v : Int) : St := ⟨[(0, .lst .o 3 (sZ0.map (e_TTributary .o))), (1, .fn F_fZ0 C_fZ0), (7, .i (sZ0.length : Int)), (8, .i v)], []⟩
def SX_slices_IndexFunc_TributaryL1 (v : Unit) : St := ⟨[], []⟩
theorem w_slices_IndexFunc_TributaryL1 (sZ0 : List TTributary) (fZ0 : TTributary → Option Bool) (F_fZ0 : Nat) (C_fZ0 : List AV) (hC_fZ0 : Fixed C_fZ0) (hf_fZ0 : ∀ (x0 : TTributary) (r : Bool), fZ0 x0 = some r → Ok Try.prog F_fZ0 ((.agg [.i x0.From, .i x0.To, .i x0.Rate]) :: C_fZ0) (.b r)) (sZ1 : Int) (o : Int ⊕ (Unit ⊕ Int)) (h : M_slices_IndexFunc_TributaryL1 sZ0 fZ0 sZ1 = some o) : AWP (OkS Try.prog) A96L1 (qL [0, 1, 7, 8] [] (S_slices_IndexFunc_TributaryL1 sZ0 F_fZ0 C_fZ0) (qS (qX 0 [] [] (SX_slices_IndexFunc_TributaryL1)) (qR V96 (fun r => .i r))) o) (S_slices_IndexFunc_TributaryL1 sZ0 F_fZ0 C_fZ0 sZ1) := by
  unfold M_slices_IndexFunc_TributaryL1 at h
  simp only [S_slices_IndexFunc_TributaryL1, A96L1]
  refine Or.elim (bt (decide (sZ1 < (sZ0.length : Int)))) (fun cZ2 => ?_) (fun cZ2 => ?_)
  · replace h := cond_t cZ2 h
    obtain ⟨yZ3, hyZ3, h⟩ := bind_s h
    obtain ⟨hyZ3a, hyZ3b⟩ := geti_s hyZ3
    obtain ⟨rZ4, hrZ4, h⟩ := bind_s h
    simp only [VS1, VS2, VS3, VS4, VS5, VS6, VT1, VT2, finM_ret, finM_nrm, decide_true, decide_false, List.nodup_nil, List.nodup_cons, oks_p, oks_m, oks_h, ne_eq, not_false_eq_true, Int.reduceEq, Int.reduceNe, true_and, Nat.reduceSub, Nat.reduceMul, ↓reduceIte, reduceCtorEq, Nat.reduceEqDiff, Nat.reduceAdd, Nat.reduceLeDiff, Int.reduceLE, cZ2, hyZ3a, hyZ3b]
    refine call_s (by simp only [VS1, VS2, VS3, VS4, VS5, VS6, VT1, VT2, finM_ret, finM_nrm, decide_true, decide_false, List.nodup_nil, List.nodup_cons, oks_p, oks_m, oks_h, ne_eq, not_false_eq_true, Int.reduceEq, Int.reduceNe, true_and, Nat.reduceSub, Nat.reduceMul, ↓reduceIte, reduceCtorEq, Nat.reduceEqDiff, Nat.reduceAdd, Nat.reduceLeDiff, Int.reduceLE, cZ2, hyZ3a, hyZ3b, hC_fZ0.1 _ _]; exact hf_fZ0 _ _ hrZ4) ?_
    simp only [VA, VF1, ↓reduceIte, Nat.reduceEqDiff, Nat.reduceAdd, Nat.reduceMul, Nat.reduceSub, Nat.reduceLeDiff]
    refine Or.elim (bt (rZ4)) (fun cZ5 => ?_) (fun cZ5 => ?_)
    · replace h := cond_t cZ5 h
      cases h
      try simp only [VS1, VS2, VS3, VS4, VS5, VS6, VT1, VT2, finM_ret, finM_nrm, decide_true, decide_false, List.nodup_nil, List.nodup_cons, oks_p, oks_m, oks_h, ne_eq, not_false_eq_true, Int.reduceEq, Int.reduceNe, true_and, Nat.reduceSub, Nat.reduceMul, ↓reduceIte, reduceCtorEq, Nat.reduceEqDiff, Nat.reduceAdd, Nat.reduceLeDiff, Int.reduceLE, cZ2, hyZ3a, hyZ3b, cZ5]
      all_goals simp [qL, qJ, qJ0, qS, qX, qR, qM, Shp, sub, tupd, VS1, VS2, VS3, VS4, VS5, VS6, VT1, VT2, V96, hC_fZ0.2]
    · replace h := cond_f cZ5 h
      cases h
      try simp only [VS1, VS2, VS3, VS4, VS5, VS6, VT1, VT2, finM_ret, finM_nrm, decide_true, decide_false, List.nodup_nil, List.nodup_cons, oks_p, oks_m, oks_h, ne_eq, not_false_eq_true, Int.reduceEq, Int.reduceNe, true_and, Nat.reduceSub, Nat.reduceMul, ↓reduceIte, reduceCtorEq, Nat.reduceEqDiff, Nat.reduceAdd, Nat.reduceLeDiff, Int.reduceLE, cZ2, hyZ3a, hyZ3b, cZ5]
      all_goals simp [qL, qJ, qJ0, qS, qX, qR, qM, Shp, sub, tupd, VS1, VS2, VS3, VS4, VS5, VS6, VT1, VT2, S_slices_IndexFunc_TributaryL1, SX_slices_IndexFunc_TributaryL1, hC_fZ0.2]
  · replace h := cond_f cZ2 h
    cases h
    try simp only [VS1, VS2, VS3, VS4, VS5, VS6, VT1, VT2, finM_ret, finM_nrm, decide_true, decide_false, List.nodup_nil, List.nodup_cons, oks_p, oks_m, oks_h, ne_eq, not_false_eq_true, Int.reduceEq, Int.reduceNe, true_and, Nat.reduceSub, Nat.reduceMul, ↓reduceIte, reduceCtorEq, Nat.reduceEqDiff, Nat.reduceAdd, Nat.reduceLeDiff, Int.reduceLE, cZ2]
    all_goals simp [qL, qJ, qJ0, qS, qX, qR, qM, Shp, sub, tupd, VS1, VS2, VS3, VS4, VS5, VS6, VT1, VT2, S_slices_IndexFunc_TributaryL1, SX_slices_IndexFunc_TributaryL1, hC_fZ0.2]
theorem w_slices_IndexFunc_Tributary (sZ0 : List TTributary) (fZ0 : TTributary → Option Bool) {r : Int} (h : M_slices_IndexFunc_Tributary sZ0 fZ0 = some r) (F_fZ0 : Nat) (C_fZ0 : List AV) (hC_fZ0 : Fixed C_fZ0) (hf_fZ0 : ∀ (x0 : TTributary) (r : Bool), fZ0 x0 = some r → Ok Try.prog F_fZ0 ((.agg [.i x0.From, .i x0.To, .i x0.Rate]) :: C_fZ0) (.b r)) : Ok Try.prog 96 [.lst .o 3 (sZ0.map (e_TTributary .o)), .fn F_fZ0 C_fZ0] ((fun r => .i r) r) := by
  refine ok_of_body hmix m96 rfl ?_
  unfold M_slices_IndexFunc_Tributary at h
  simp only [A96, V96, body_eq]
  obtain ⟨oZ6, hoZ6, h⟩ := bind_s h
  try simp only [VS1, VS2, VS3, VS4, VS5, VS6, VT1, VT2, finM_ret, finM_nrm, decide_true, decide_false, List.nodup_nil, List.nodup_cons, oks_p, oks_m, oks_h, ne_eq, not_false_eq_true, Int.reduceEq, Int.reduceNe, true_and, Nat.reduceSub, Nat.reduceMul, ↓reduceIte, reduceCtorEq, Nat.reduceEqDiff, Nat.reduceAdd, Nat.reduceLeDiff, Int.reduceLE]
  refine join_rule (o := oZ6) (blk_rule sideR (loop_rule (w_slices_IndexFunc_TributaryL1 sZ0 fZ0 F_fZ0 C_fZ0 hC_fZ0 hf_fZ0) hoZ6 ?_)) (fun vZ7 hv => ?_) (fun xZ8 hv e τ hne hq => ?_)
  · all_goals simp [qL, qJ, qJ0, qS, qX, qR, qM, Shp, sub, tupd, VS1, VS2, VS3, VS4, VS5, VS6, VT1, VT2, S_slices_IndexFunc_TributaryL1, SX_slices_IndexFunc_TributaryL1, hC_fZ0.2]
  · subst hv
    simp only [] at h
    simp only [SX_slices_IndexFunc_TributaryL1, A96R2]
    cases h
    try simp only [VS1, VS2, VS3, VS4, VS5, VS6, VT1, VT2, finM_ret, finM_nrm, decide_true, decide_false, List.nodup_nil, List.nodup_cons, oks_p, oks_m, oks_h, ne_eq, not_false_eq_true, Int.reduceEq, Int.reduceNe, true_and, Nat.reduceSub, Nat.reduceMul, ↓reduceIte, reduceCtorEq, Nat.reduceEqDiff, Nat.reduceAdd, Nat.reduceLeDiff, Int.reduceLE]
    all_goals simp [qL, qJ, qJ0, qS, qX, qR, qM, Shp, sub, tupd, VS1, VS2, VS3, VS4, VS5, VS6, VT1, VT2, V96, hC_fZ0.2]
  · subst hv
    simp only [] at h
    obtain ⟨rfl, qZ9⟩ := hq
    cases h
    exact qZ9
theorem w_slices_ContainsFunc_Tributary (sZ0 : List TTributary) (fZ0 : TTributary → Option Bool) {r : Bool} (h : M_slices_ContainsFunc_Tributary sZ0 fZ0 = some r) (F_fZ0 : Nat) (C_fZ0 : List AV) (hC_fZ0 : Fixed C_fZ0) (hf_fZ0 : ∀ (x0 : TTributary) (r : Bool), fZ0 x0 = some r → Ok Try.prog F_fZ0 ((.agg [.i x0.From, .i x0.To, .i x0.Rate]) :: C_fZ0) (.b r)) : Ok Try.prog 56 [.lst .o 3 (sZ0.map (e_TTributary .o)), .fn F_fZ0 C_fZ0] ((fun r => .b r) r) := by
  refine ok_of_body hmix m56 rfl ?_
  unfold M_slices_ContainsFunc_Tributary at h
  simp only [A56, V56, body_eq]
  obtain ⟨rZ1, hrZ1, h⟩ := bind_s h
  simp only [VS1, VS2, VS3, VS4, VS5, VS6, VT1, VT2, finM_ret, finM_nrm, decide_true, decide_false, List.nodup_nil, List.nodup_cons, oks_p, oks_m, oks_h, ne_eq, not_false_eq_true, Int.reduceEq, Int.reduceNe, true_and, Nat.reduceSub, Nat.reduceMul, ↓reduceIte, reduceCtorEq, Nat.reduceEqDiff, Nat.reduceAdd, Nat.reduceLeDiff, Int.reduceLE]
  refine call_s (by simp only [VS1, VS2, VS3, VS4, VS5, VS6, VT1, VT2, finM_ret, finM_nrm, decide_true, decide_false, List.nodup_nil, List.nodup_cons, oks_p, oks_m, oks_h, ne_eq, not_false_eq_true, Int.reduceEq, Int.reduceNe, true_and, Nat.reduceSub, Nat.reduceMul, ↓reduceIte, reduceCtorEq, Nat.reduceEqDiff, Nat.reduceAdd, Nat.reduceLeDiff, Int.reduceLE, hC_fZ0.1 _ _]; exact w_slices_IndexFunc_Tributary _ _ hrZ1 F_fZ0 C_fZ0 hC_fZ0 hf_fZ0) ?_
  simp only [VA, VF1, ↓reduceIte, Nat.reduceEqDiff, Nat.reduceAdd, Nat.reduceMul, Nat.reduceSub, Nat.reduceLeDiff]
  cases h
  try simp only [VS1, VS2, VS3, VS4, VS5, VS6, VT1, VT2, finM_ret, finM_nrm, decide_true, decide_false, List.nodup_nil, List.nodup_cons, oks_p, oks_m, oks_h, ne_eq, not_false_eq_true, Int.reduceEq, Int.reduceNe, true_and, Nat.reduceSub, Nat.reduceMul, ↓reduceIte, reduceCtorEq, Nat.reduceEqDiff, Nat.reduceAdd, Nat.reduceLeDiff, Int.reduceLE]
  all_goals simp [qL, qJ, qJ0, qS, qX, qR, qM, Shp, sub, tupd, VS1, VS2, VS3, VS4, VS5, VS6, VT1, VT2, V56, hC_fZ0.2]
theorem w_impl_IsValidTributaries_c1 (tZ0 : TTributary) (p1Z0 : Int) {r : Bool} (h : M_impl_IsValidTributaries_c1 tZ0 p1Z0 = some r) : Ok Try.prog 57 [.agg [.i tZ0.From, .i tZ0.To, .i tZ0.Rate], .bp (.i p1Z0) 0] ((fun r => .b r) r) := by
  refine ok_of_body hmix m57 rfl ?_
  unfold M_impl_IsValidTributaries_c1 at h
  simp only [A57, V57, body_eq]
  obtain ⟨rZ1, hrZ1, h⟩ := bind_s h
  simp only [VS1, VS2, VS3, VS4, VS5, VS6, VT1, VT2, finM_ret, finM_nrm, decide_true, decide_false, List.nodup_nil, List.nodup_cons, oks_p, oks_m, oks_h, ne_eq, not_false_eq_true, Int.reduceEq, Int.reduceNe, true_and, Nat.reduceSub, Nat.reduceMul, ↓reduceIte, reduceCtorEq, Nat.reduceEqDiff, Nat.reduceAdd, Nat.reduceLeDiff, Int.reduceLE]
  refine call_s (by simp only [VS1, VS2, VS3, VS4, VS5, VS6, VT1, VT2, finM_ret, finM_nrm, decide_true, decide_false, List.nodup_nil, List.nodup_cons, oks_p, oks_m, oks_h, ne_eq, not_false_eq_true, Int.reduceEq, Int.reduceNe, true_and, Nat.reduceSub, Nat.reduceMul, ↓reduceIte, reduceCtorEq, Nat.reduceEqDiff, Nat.reduceAdd, Nat.reduceLeDiff, Int.reduceLE]; exact w_impl_areEnds _ _ _ hrZ1 ) ?_
  simp only [VA, VF1, ↓reduceIte, Nat.reduceEqDiff, Nat.reduceAdd, Nat.reduceMul, Nat.reduceSub, Nat.reduceLeDiff]
  refine Or.elim (bt (!rZ1)) (fun cZ2 => ?_) (fun cZ2 => ?_)
  · replace h := cond_t cZ2 h
    cases h
    try simp only [VS1, VS2, VS3, VS4, VS5, VS6, VT1, VT2, finM_ret, finM_nrm, decide_true, decide_false, List.nodup_nil, List.nodup_cons, oks_p, oks_m, oks_h, ne_eq, not_false_eq_true, Int.reduceEq, Int.reduceNe, true_and, Nat.reduceSub, Nat.reduceMul, ↓reduceIte, reduceCtorEq, Nat.reduceEqDiff, Nat.reduceAdd, Nat.reduceLeDiff, Int.reduceLE, cZ2]
    all_goals simp [qL, qJ, qJ0, qS, qX, qR, qM, Shp, sub, tupd, VS1, VS2, VS3, VS4, VS5, VS6, VT1, VT2, V57]
  · replace h := cond_f cZ2 h
    obtain ⟨rZ3, hrZ3, h⟩ := bind_s h
    simp only [VS1, VS2, VS3, VS4, VS5, VS6, VT1, VT2, finM_ret, finM_nrm, decide_true, decide_false, List.nodup_nil, List.nodup_cons, oks_p, oks_m, oks_h, ne_eq, not_false_eq_true, Int.reduceEq, Int.reduceNe, true_and, Nat.reduceSub, Nat.reduceMul, ↓reduceIte, reduceCtorEq, Nat.reduceEqDiff, Nat.reduceAdd, Nat.reduceLeDiff, Int.reduceLE, cZ2]
    refine call_s (by simp only [VS1, VS2, VS3, VS4, VS5, VS6, VT1, VT2, finM_ret, finM_nrm, decide_true, decide_false, List.nodup_nil, List.nodup_cons, oks_p, oks_m, oks_h, ne_eq, not_false_eq_true, Int.reduceEq, Int.reduceNe, true_and, Nat.reduceSub, Nat.reduceMul, ↓reduceIte, reduceCtorEq, Nat.reduceEqDiff, Nat.reduceAdd, Nat.reduceLeDiff, Int.reduceLE, cZ2]; exact w_impl_within _ _ _ hrZ3 ) ?_
    simp only [VA, VF1, ↓reduceIte, Nat.reduceEqDiff, Nat.reduceAdd, Nat.reduceMul, Nat.reduceSub, Nat.reduceLeDiff]
    cases h
    try simp only [VS1, VS2, VS3, VS4, VS5, VS6, VT1, VT2, finM_ret, finM_nrm, decide_true, decide_false, List.nodup_nil, List.nodup_cons, oks_p, oks_m, oks_h, ne_eq, not_false_eq_true, Int.reduceEq, Int.reduceNe, true_and, Nat.reduceSub, Nat.reduceMul, ↓reduceIte, reduceCtorEq, Nat.reduceEqDiff, Nat.reduceAdd, Nat.reduceLeDiff, Int.reduceLE, cZ2]
    all_goals simp [qL, qJ, qJ0, qS, qX, qR, qM, Shp, sub, tupd, VS1, VS2, VS3, VS4, VS5, VS6, VT1, VT2, V57]
theorem w_impl_IsValidTributaries (listZ0 : List TTributary) (nodesZ0 : Int) {r : Bool} (h : M_impl_IsValidTributaries listZ0 nodesZ0 = some r) : Ok Try.prog 17 [.lst .o 3 (listZ0.map (e_TTributary .o)), .i nodesZ0] ((fun r => .b r) r) := by
  refine ok_of_body hmix m17 rfl ?_
  unfold M_impl_IsValidTributaries at h
  simp only [A17, V17, body_eq]
  obtain ⟨rZ1, hrZ1, h⟩ := bind_s h
  simp only [VS1, VS2, VS3, VS4, VS5, VS6, VT1, VT2, finM_ret, finM_nrm, decide_true, decide_false, List.nodup_nil, List.nodup_cons, oks_p, oks_m, oks_h, ne_eq, not_false_eq_true, Int.reduceEq, Int.reduceNe, true_and, Nat.reduceSub, Nat.reduceMul, ↓reduceIte, reduceCtorEq, Nat.reduceEqDiff, Nat.reduceAdd, Nat.reduceLeDiff, Int.reduceLE]
  refine call_s (by simp only [VS1, VS2, VS3, VS4, VS5, VS6, VT1, VT2, finM_ret, finM_nrm, decide_true, decide_false, List.nodup_nil, List.nodup_cons, oks_p, oks_m, oks_h, ne_eq, not_false_eq_true, Int.reduceEq, Int.reduceNe, true_and, Nat.reduceSub, Nat.reduceMul, ↓reduceIte, reduceCtorEq, Nat.reduceEqDiff, Nat.reduceAdd, Nat.reduceLeDiff, Int.reduceLE]; exact w_impl_within _ _ _ hrZ1 ) ?_
  simp only [VA, VF1, ↓reduceIte, Nat.reduceEqDiff, Nat.reduceAdd, Nat.reduceMul, Nat.reduceSub, Nat.reduceLeDiff]
  refine Or.elim (bt (rZ1)) (fun cZ2 => ?_) (fun cZ2 => ?_)
  · replace h := cond_t cZ2 h
    refine Or.elim (bt (decide ((listZ0.length : Int) ≤ 12))) (fun cZ3 => ?_) (fun cZ3 => ?_)
    · replace h := cond_t cZ3 h
      obtain ⟨rZ4, hrZ4, h⟩ := bind_s h
      simp only [VS1, VS2, VS3, VS4, VS5, VS6, VT1, VT2, finM_ret, finM_nrm, decide_true, decide_false, List.nodup_nil, List.nodup_cons, oks_p, oks_m, oks_h, ne_eq, not_false_eq_true, Int.reduceEq, Int.reduceNe, true_and, Nat.reduceSub, Nat.reduceMul, ↓reduceIte, reduceCtorEq, Nat.reduceEqDiff, Nat.reduceAdd, Nat.reduceLeDiff, Int.reduceLE, cZ2, cZ3]
      refine call_s (by simp only [VS1, VS2, VS3, VS4, VS5, VS6, VT1, VT2, finM_ret, finM_nrm, decide_true, decide_false, List.nodup_nil, List.nodup_cons, oks_p, oks_m, oks_h, ne_eq, not_false_eq_true, Int.reduceEq, Int.reduceNe, true_and, Nat.reduceSub, Nat.reduceMul, ↓reduceIte, reduceCtorEq, Nat.reduceEqDiff, Nat.reduceAdd, Nat.reduceLeDiff, Int.reduceLE, cZ2, cZ3]; exact w_slices_ContainsFunc_Tributary _ _ hrZ4 57 [.bp (.i nodesZ0) 0] ⟨fun ρ k => by simp only [VS1, VS2, VS3, VS4, VS5, VS6, VT1, VT2, finM_ret, finM_nrm, decide_true, decide_false, List.nodup_nil, List.nodup_cons, oks_p, oks_m, oks_h, ne_eq, not_false_eq_true, Int.reduceEq, Int.reduceNe, true_and, Nat.reduceSub, Nat.reduceMul, ↓reduceIte, reduceCtorEq, Nat.reduceEqDiff, Nat.reduceAdd, Nat.reduceLeDiff, Int.reduceLE], by simp [mentsL, AV.ments]⟩ (fun _ _ h => w_impl_IsValidTributaries_c1 _ _ h)) ?_
      simp only [VA, VF1, ↓reduceIte, Nat.reduceEqDiff, Nat.reduceAdd, Nat.reduceMul, Nat.reduceSub, Nat.reduceLeDiff]
      cases h
      try simp only [VS1, VS2, VS3, VS4, VS5, VS6, VT1, VT2, finM_ret, finM_nrm, decide_true, decide_false, List.nodup_nil, List.nodup_cons, oks_p, oks_m, oks_h, ne_eq, not_false_eq_true, Int.reduceEq, Int.reduceNe, true_and, Nat.reduceSub, Nat.reduceMul, ↓reduceIte, reduceCtorEq, Nat.reduceEqDiff, Nat.reduceAdd, Nat.reduceLeDiff, Int.reduceLE, cZ2, cZ3]
      all_goals simp [qL, qJ, qJ0, qS, qX, qR, qM, Shp, sub, tupd, VS1, VS2, VS3, VS4, VS5, VS6, VT1, VT2, V17]
    · replace h := cond_f cZ3 h
      cases h
      try simp only [VS1, VS2, VS3, VS4, VS5, VS6, VT1, VT2, finM_ret, finM_nrm, decide_true, decide_false, List.nodup_nil, List.nodup_cons, oks_p, oks_m, oks_h, ne_eq, not_false_eq_true, Int.reduceEq, Int.reduceNe, true_and, Nat.reduceSub, Nat.reduceMul, ↓reduceIte, reduceCtorEq, Nat.reduceEqDiff, Nat.reduceAdd, Nat.reduceLeDiff, Int.reduceLE, cZ2, cZ3]
      all_goals simp [qL, qJ, qJ0, qS, qX, qR, qM, Shp, sub, tupd, VS1, VS2, VS3, VS4, VS5, VS6, VT1, VT2, V17]
  · replace h := cond_f cZ2 h
    cases h
    try simp only [VS1, VS2, VS3, VS4, VS5, VS6, VT1, VT2, finM_ret, finM_nrm, decide_true, decide_false, List.nodup_nil, List.nodup_cons, oks_p, oks_m, oks_h, ne_eq, not_false_eq_true, Int.reduceEq, Int.reduceNe, true_and, Nat.reduceSub, Nat.reduceMul, ↓reduceIte, reduceCtorEq, Nat.reduceEqDiff, Nat.reduceAdd, Nat.reduceLeDiff, Int.reduceLE, cZ2]
    all_goals simp [qL, qJ, qJ0, qS, qX, qR, qM, Shp, sub, tupd, VS1, VS2, VS3, VS4, VS5, VS6, VT1, VT2, V17]
theorem w_impl_isGrooming (linksZ0 : List TLink) (nodesZ0 : Int) (listZ0 : List TTributary) {r : Bool} (h : M_impl_isGrooming linksZ0 nodesZ0 listZ0 = some r) : Ok Try.prog 75 [.lst .o 3 (linksZ0.map (e_TLink .o)), .i nodesZ0, .lst .o 3 (listZ0.map (e_TTributary .o))] ((fun r => .b r) r) := by
  refine ok_of_body hmix m75 rfl ?_
  unfold M_impl_isGrooming at h
  simp only [A75, V75, body_eq]
  obtain ⟨rZ1, hrZ1, h⟩ := bind_s h
  simp only [VS1, VS2, VS3, VS4, VS5, VS6, VT1, VT2, finM_ret, finM_nrm, decide_true, decide_false, List.nodup_nil, List.nodup_cons, oks_p, oks_m, oks_h, ne_eq, not_false_eq_true, Int.reduceEq, Int.reduceNe, true_and, Nat.reduceSub, Nat.reduceMul, ↓reduceIte, reduceCtorEq, Nat.reduceEqDiff, Nat.reduceAdd, Nat.reduceLeDiff, Int.reduceLE]
  refine call_s (by simp only [VS1, VS2, VS3, VS4, VS5, VS6, VT1, VT2, finM_ret, finM_nrm, decide_true, decide_false, List.nodup_nil, List.nodup_cons, oks_p, oks_m, oks_h, ne_eq, not_false_eq_true, Int.reduceEq, Int.reduceNe, true_and, Nat.reduceSub, Nat.reduceMul, ↓reduceIte, reduceCtorEq, Nat.reduceEqDiff, Nat.reduceAdd, Nat.reduceLeDiff, Int.reduceLE]; exact w_impl_areLinks _ _ hrZ1 ) ?_
  simp only [VA, VF1, ↓reduceIte, Nat.reduceEqDiff, Nat.reduceAdd, Nat.reduceMul, Nat.reduceSub, Nat.reduceLeDiff]
  refine Or.elim (bt (rZ1)) (fun cZ2 => ?_) (fun cZ2 => ?_)
  · replace h := cond_t cZ2 h
    obtain ⟨rZ3, hrZ3, h⟩ := bind_s h
    simp only [VS1, VS2, VS3, VS4, VS5, VS6, VT1, VT2, finM_ret, finM_nrm, decide_true, decide_false, List.nodup_nil, List.nodup_cons, oks_p, oks_m, oks_h, ne_eq, not_false_eq_true, Int.reduceEq, Int.reduceNe, true_and, Nat.reduceSub, Nat.reduceMul, ↓reduceIte, reduceCtorEq, Nat.reduceEqDiff, Nat.reduceAdd, Nat.reduceLeDiff, Int.reduceLE, cZ2]
    refine call_s (by simp only [VS1, VS2, VS3, VS4, VS5, VS6, VT1, VT2, finM_ret, finM_nrm, decide_true, decide_false, List.nodup_nil, List.nodup_cons, oks_p, oks_m, oks_h, ne_eq, not_false_eq_true, Int.reduceEq, Int.reduceNe, true_and, Nat.reduceSub, Nat.reduceMul, ↓reduceIte, reduceCtorEq, Nat.reduceEqDiff, Nat.reduceAdd, Nat.reduceLeDiff, Int.reduceLE, cZ2]; exact w_impl_IsValidTributaries _ _ hrZ3 ) ?_
    simp only [VA, VF1, ↓reduceIte, Nat.reduceEqDiff, Nat.reduceAdd, Nat.reduceMul, Nat.reduceSub, Nat.reduceLeDiff]
    cases h
    try simp only [VS1, VS2, VS3, VS4, VS5, VS6, VT1, VT2, finM_ret, finM_nrm, decide_true, decide_false, List.nodup_nil, List.nodup_cons, oks_p, oks_m, oks_h, ne_eq, not_false_eq_true, Int.reduceEq, Int.reduceNe, true_and, Nat.reduceSub, Nat.reduceMul, ↓reduceIte, reduceCtorEq, Nat.reduceEqDiff, Nat.reduceAdd, Nat.reduceLeDiff, Int.reduceLE, cZ2]
    all_goals simp [qL, qJ, qJ0, qS, qX, qR, qM, Shp, sub, tupd, VS1, VS2, VS3, VS4, VS5, VS6, VT1, VT2, V75]
  · replace h := cond_f cZ2 h
    cases h
    try simp only [VS1, VS2, VS3, VS4, VS5, VS6, VT1, VT2, finM_ret, finM_nrm, decide_true, decide_false, List.nodup_nil, List.nodup_cons, oks_p, oks_m, oks_h, ne_eq, not_false_eq_true, Int.reduceEq, Int.reduceNe, true_and, Nat.reduceSub, Nat.reduceMul, ↓reduceIte, reduceCtorEq, Nat.reduceEqDiff, Nat.reduceAdd, Nat.reduceLeDiff, Int.reduceLE, cZ2]
    all_goals simp [qL, qJ, qJ0, qS, qX, qR, qM, Shp, sub, tupd, VS1, VS2, VS3, VS4, VS5, VS6, VT1, VT2, V75]
theorem w_impl_otherEnd (fZ0 : TFiber) (nodeZ0 : Int) {r : Int} (h : M_impl_otherEnd fZ0 nodeZ0 = some r) : Ok Try.prog 114 [.agg [.i fZ0.A, .i fZ0.B, .i fZ0.Length, .i fZ0.Risk], .i nodeZ0] ((fun r => .i r) r) := by
  refine ok_of_body hmix m114 rfl ?_
  unfold M_impl_otherEnd at h
  simp only [A114, V114, body_eq]
  refine Or.elim (bt (nodeZ0 == fZ0.A)) (fun cZ1 => ?_) (fun cZ1 => ?_)
  · replace h := cond_t cZ1 h
    cases h
    try simp only [VS1, VS2, VS3, VS4, VS5, VS6, VT1, VT2, finM_ret, finM_nrm, decide_true, decide_false, List.nodup_nil, List.nodup_cons, oks_p, oks_m, oks_h, ne_eq, not_false_eq_true, Int.reduceEq, Int.reduceNe, true_and, Nat.reduceSub, Nat.reduceMul, ↓reduceIte, reduceCtorEq, Nat.reduceEqDiff, Nat.reduceAdd, Nat.reduceLeDiff, Int.reduceLE, cZ1]
    all_goals simp [qL, qJ, qJ0, qS, qX, qR, qM, Shp, sub, tupd, VS1, VS2, VS3, VS4, VS5, VS6, VT1, VT2, V114]
  · replace h := cond_f cZ1 h
    refine Or.elim (bt (nodeZ0 == fZ0.B)) (fun cZ2 => ?_) (fun cZ2 => ?_)
    · replace h := cond_t cZ2 h
      cases h
      try simp only [VS1, VS2, VS3, VS4, VS5, VS6, VT1, VT2, finM_ret, finM_nrm, decide_true, decide_false, List.nodup_nil, List.nodup_cons, oks_p, oks_m, oks_h, ne_eq, not_false_eq_true, Int.reduceEq, Int.reduceNe, true_and, Nat.reduceSub, Nat.reduceMul, ↓reduceIte, reduceCtorEq, Nat.reduceEqDiff, Nat.reduceAdd, Nat.reduceLeDiff, Int.reduceLE, cZ1, cZ2]
      all_goals simp [qL, qJ, qJ0, qS, qX, qR, qM, Shp, sub, tupd, VS1, VS2, VS3, VS4, VS5, VS6, VT1, VT2, V114]
    · replace h := cond_f cZ2 h
      cases h
      try simp only [VS1, VS2, VS3, VS4, VS5, VS6, VT1, VT2, finM_ret, finM_nrm, decide_true, decide_false, List.nodup_nil, List.nodup_cons, oks_p, oks_m, oks_h, ne_eq, not_false_eq_true, Int.reduceEq, Int.reduceNe, true_and, Nat.reduceSub, Nat.reduceMul, ↓reduceIte, reduceCtorEq, Nat.reduceEqDiff, Nat.reduceAdd, Nat.reduceLeDiff, Int.reduceLE, cZ1, cZ2]
      all_goals simp [qL, qJ, qJ0, qS, qX, qR, qM, Shp, sub, tupd, VS1, VS2, VS3, VS4, VS5, VS6, VT1, VT2, V114]
def S_impl_leadsL1 (linksZ0 : List TLink) (freeZ0 : List Int) (atZ0 : Int) (toZ0 : Int) (rateZ0 : Int) (countZ0 : Int) (seenZ0 : Int) (v : Int) : St := ⟨[(0, .lst .o 3 (linksZ0.map (e_TLink .o))), (1, .lst .o 1 (freeZ0.map AV.i)), (2, .i atZ0), (3, .i toZ0), (4, .i rateZ0), (5, .i countZ0), (6, .i seenZ0), (27, .lst .o 3 (linksZ0.map (e_TLink .o))), (28, .i (linksZ0.length : Int)), (29, .i v)], []⟩
def SX_impl_leadsL1 (v : Unit) : St := ⟨[], []⟩
theorem w_impl_leadsL1 (linksZ0 : List TLink) (freeZ0 : List Int) (atZ0 : Int) (toZ0 : Int) (rateZ0 : Int) (countZ0 : Int) (seenZ0 : Int) (rcZ0 : List TLink → List Int → Int → Int → Int → Int → Int → Option (List Int × Bool)) (ihZ0 : ∀ (linksZ0 : List TLink) (freeZ0 : List Int) (atZ0 : Int) (toZ0 : Int) (rateZ0 : Int) (countZ0 : Int) (seenZ0 : Int) {r : List Int × Bool}, rcZ0 linksZ0 freeZ0 atZ0 toZ0 rateZ0 countZ0 seenZ0 = some r → Ok Try.prog 103 [.lst .o 3 (linksZ0.map (e_TLink .o)), .lst .o 1 (freeZ0.map AV.i), .i atZ0, .i toZ0, .i rateZ0, .i countZ0, .i seenZ0] ((fun r => .tup [.lst .u 1 (r.1.map AV.i), .b r.2]) r)) (sZ3 : Int) (o : Int ⊕ (Unit ⊕ (List Int × Bool))) (h : M_impl_leadsL1 linksZ0 freeZ0 atZ0 toZ0 rateZ0 countZ0 seenZ0 rcZ0 sZ3 = some o) : AWP (OkS Try.prog) A103L2 (qL [0, 1, 2, 3, 4, 5, 6, 27, 28, 29] [] (S_impl_leadsL1 linksZ0 freeZ0 atZ0 toZ0 rateZ0 countZ0 seenZ0) (qS (qX 0 [] [] (SX_impl_leadsL1)) (qR V103 (fun r => .tup [.lst .u 1 (r.1.map AV.i), .b r.2]))) o) (S_impl_leadsL1 linksZ0 freeZ0 atZ0 toZ0 rateZ0 countZ0 seenZ0 sZ3) := by
  unfold M_impl_leadsL1 at h
  simp only [S_impl_leadsL1, A103L2]
  refine Or.elim (bt (decide (sZ3 < (linksZ0.length : Int)))) (fun cZ4 => ?_) (fun cZ4 => ?_)
  · replace h := cond_t cZ4 h
    obtain ⟨yZ5, hyZ5, h⟩ := bind_s h
    obtain ⟨hyZ5a, hyZ5b⟩ := geti_s hyZ5
    obtain ⟨rZ6, hrZ6, h⟩ := bind_s h
    simp only [VS1, VS2, VS3, VS4, VS5, VS6, VT1, VT2, finM_ret, finM_nrm, decide_true, decide_false, List.nodup_nil, List.nodup_cons, oks_p, oks_m, oks_h, ne_eq, not_false_eq_true, Int.reduceEq, Int.reduceNe, true_and, Nat.reduceSub, Nat.reduceMul, ↓reduceIte, reduceCtorEq, Nat.reduceEqDiff, Nat.reduceAdd, Nat.reduceLeDiff, Int.reduceLE, cZ4, hyZ5a, hyZ5b]
    refine call_s (by simp only [VS1, VS2, VS3, VS4, VS5, VS6, VT1, VT2, finM_ret, finM_nrm, decide_true, decide_false, List.nodup_nil, List.nodup_cons, oks_p, oks_m, oks_h, ne_eq, not_false_eq_true, Int.reduceEq, Int.reduceNe, true_and, Nat.reduceSub, Nat.reduceMul, ↓reduceIte, reduceCtorEq, Nat.reduceEqDiff, Nat.reduceAdd, Nat.reduceLeDiff, Int.reduceLE, cZ4, hyZ5a, hyZ5b]; exact w_impl_otherEnd _ _ hrZ6 ) ?_
    simp only [VA, VF1, ↓reduceIte, Nat.reduceEqDiff, Nat.reduceAdd, Nat.reduceMul, Nat.reduceSub, Nat.reduceLeDiff]
    obtain ⟨oZ11, hoZ11, h⟩ := bind_s h
    try simp only [VS1, VS2, VS3, VS4, VS5, VS6, VT1, VT2, finM_ret, finM_nrm, decide_true, decide_false, List.nodup_nil, List.nodup_cons, oks_p, oks_m, oks_h, ne_eq, not_false_eq_true, Int.reduceEq, Int.reduceNe, true_and, Nat.reduceSub, Nat.reduceMul, ↓reduceIte, reduceCtorEq, Nat.reduceEqDiff, Nat.reduceAdd, Nat.reduceLeDiff, Int.reduceLE, cZ4, hyZ5a, hyZ5b]
    refine join_rule0 (sh := (fun v => ⟨[(0, .lst .o 3 (linksZ0.map (e_TLink .o))), (1, .lst .o 1 (freeZ0.map AV.i)), (2, .i atZ0), (3, .i toZ0), (4, .i rateZ0), (5, .i countZ0), (6, .i seenZ0), (16, .i sZ3), (18, .i rZ6), (27, .lst .o 3 (linksZ0.map (e_TLink .o))), (28, .i (linksZ0.length : Int)), (29, .i sZ3), (57, .b v)], []⟩)) (s := oZ11) ?_ ?_
    · replace h := hoZ11
      refine Or.elim (bt (decide (rZ6 < 0))) (fun cZ7 => ?_) (fun cZ7 => ?_)
      · replace h := cond_t cZ7 h
        cases h
        try simp only [VS1, VS2, VS3, VS4, VS5, VS6, VT1, VT2, finM_ret, finM_nrm, decide_true, decide_false, List.nodup_nil, List.nodup_cons, oks_p, oks_m, oks_h, ne_eq, not_false_eq_true, Int.reduceEq, Int.reduceNe, true_and, Nat.reduceSub, Nat.reduceMul, ↓reduceIte, reduceCtorEq, Nat.reduceEqDiff, Nat.reduceAdd, Nat.reduceLeDiff, Int.reduceLE, cZ4, hyZ5a, hyZ5b, cZ7]
        all_goals simp [qL, qJ, qJ0, qS, qX, qR, qM, Shp, sub, tupd, VS1, VS2, VS3, VS4, VS5, VS6, VT1, VT2]
      · replace h := cond_f cZ7 h
        obtain ⟨yZ8, hyZ8, h⟩ := bind_s h
        obtain ⟨hyZ8a, hyZ8b⟩ := geti_s hyZ8
        refine Or.elim (bt (decide (yZ8 < rateZ0))) (fun cZ9 => ?_) (fun cZ9 => ?_)
        · replace h := cond_t cZ9 h
          cases h
          try simp only [VS1, VS2, VS3, VS4, VS5, VS6, VT1, VT2, finM_ret, finM_nrm, decide_true, decide_false, List.nodup_nil, List.nodup_cons, oks_p, oks_m, oks_h, ne_eq, not_false_eq_true, Int.reduceEq, Int.reduceNe, true_and, Nat.reduceSub, Nat.reduceMul, ↓reduceIte, reduceCtorEq, Nat.reduceEqDiff, Nat.reduceAdd, Nat.reduceLeDiff, Int.reduceLE, cZ4, hyZ5a, hyZ5b, cZ7, hyZ8a, hyZ8b, cZ9]
          all_goals simp [qL, qJ, qJ0, qS, qX, qR, qM, Shp, sub, tupd, VS1, VS2, VS3, VS4, VS5, VS6, VT1, VT2]
        · replace h := cond_f cZ9 h
          obtain ⟨uZ10, huZ10, h⟩ := bind_s h
          have huZ10g := grd_s huZ10
          cases h
          try simp only [VS1, VS2, VS3, VS4, VS5, VS6, VT1, VT2, finM_ret, finM_nrm, decide_true, decide_false, List.nodup_nil, List.nodup_cons, oks_p, oks_m, oks_h, ne_eq, not_false_eq_true, Int.reduceEq, Int.reduceNe, true_and, Nat.reduceSub, Nat.reduceMul, ↓reduceIte, reduceCtorEq, Nat.reduceEqDiff, Nat.reduceAdd, Nat.reduceLeDiff, Int.reduceLE, cZ4, hyZ5a, hyZ5b, cZ7, hyZ8a, hyZ8b, cZ9, huZ10g]
          all_goals simp [qL, qJ, qJ0, qS, qX, qR, qM, Shp, sub, tupd, VS1, VS2, VS3, VS4, VS5, VS6, VT1, VT2]
    · simp only [A103R1]
      refine Or.elim (bt (oZ11)) (fun cZ12 => ?_) (fun cZ12 => ?_)
      · replace h := cond_t cZ12 h
        cases h
        try simp only [VS1, VS2, VS3, VS4, VS5, VS6, VT1, VT2, finM_ret, finM_nrm, decide_true, decide_false, List.nodup_nil, List.nodup_cons, oks_p, oks_m, oks_h, ne_eq, not_false_eq_true, Int.reduceEq, Int.reduceNe, true_and, Nat.reduceSub, Nat.reduceMul, ↓reduceIte, reduceCtorEq, Nat.reduceEqDiff, Nat.reduceAdd, Nat.reduceLeDiff, Int.reduceLE, cZ4, hyZ5a, hyZ5b, cZ12]
        all_goals simp [qL, qJ, qJ0, qS, qX, qR, qM, Shp, sub, tupd, VS1, VS2, VS3, VS4, VS5, VS6, VT1, VT2, S_impl_leadsL1, SX_impl_leadsL1]
      · replace h := cond_f cZ12 h
        obtain ⟨uZ13, huZ13, h⟩ := bind_s h
        have huZ13g := grd_s huZ13
        obtain ⟨rZ14, hrZ14, h⟩ := bind_s h
        simp only [VS1, VS2, VS3, VS4, VS5, VS6, VT1, VT2, finM_ret, finM_nrm, decide_true, decide_false, List.nodup_nil, List.nodup_cons, oks_p, oks_m, oks_h, ne_eq, not_false_eq_true, Int.reduceEq, Int.reduceNe, true_and, Nat.reduceSub, Nat.reduceMul, ↓reduceIte, reduceCtorEq, Nat.reduceEqDiff, Nat.reduceAdd, Nat.reduceLeDiff, Int.reduceLE, cZ4, hyZ5a, hyZ5b, cZ12, huZ13g]
        refine call_u (by simp only [VS1, VS2, VS3, VS4, VS5, VS6, VT1, VT2, finM_ret, finM_nrm, decide_true, decide_false, List.nodup_nil, List.nodup_cons, oks_p, oks_m, oks_h, ne_eq, not_false_eq_true, Int.reduceEq, Int.reduceNe, true_and, Nat.reduceSub, Nat.reduceMul, ↓reduceIte, reduceCtorEq, Nat.reduceEqDiff, Nat.reduceAdd, Nat.reduceLeDiff, Int.reduceLE, cZ4, hyZ5a, hyZ5b, cZ12, huZ13g]; exact ihZ0 _ _ _ _ _ _ _ hrZ14 ) (by simp [AV.allU, allUL, allUL_iff, VT1, VT2]) (by simp only [VS1, VS2, VS3, VS4, VS5, VS6, VT1, VT2, finM_ret, finM_nrm, decide_true, decide_false, List.nodup_nil, List.nodup_cons, oks_p, oks_m, oks_h, ne_eq, not_false_eq_true, Int.reduceEq, Int.reduceNe, true_and, Nat.reduceSub, Nat.reduceMul, ↓reduceIte, reduceCtorEq, Nat.reduceEqDiff, Nat.reduceAdd, Nat.reduceLeDiff, Int.reduceLE, Nat.reduceLT]) ?_
        simp only [VA, VF1, ↓reduceIte, Nat.reduceEqDiff, Nat.reduceAdd, Nat.reduceMul, Nat.reduceSub, Nat.reduceLeDiff]
        refine Or.elim (bt (rZ14.2)) (fun cZ15 => ?_) (fun cZ15 => ?_)
        · replace h := cond_t cZ15 h
          obtain ⟨lZ16, hlZ16, h⟩ := bnd_s h
          have eZ17 : Row.arr 1 [(.i sZ3 : AV)] = Row.arr 1 (lZ16.map AV.i) := by rw [← hlZ16]; rfl
          have eZ18 : lZ16.length = 1 := by rw [← hlZ16]; rfl
          have nZ19 : sub (lZ16.map AV.i) 0 1 = lZ16.map AV.i := sub_n _ (by simp [← hlZ16])
          obtain ⟨uZ20, huZ20, h⟩ := bind_s h
          have huZ20g := grd_s huZ20
          obtain ⟨lZ21, hlZ21, h⟩ := bnd_s h
          have eZ22 : lZ16.map AV.i ++ rZ14.1.map AV.i = lZ21.map AV.i := by rw [← hlZ21, List.map_append]
          have eZ23 : 1 + rZ14.1.length = lZ21.length := by simp [← hlZ16, ← hlZ21] <;> omega
          rw [eZ23] at huZ20g
          cases h
          try simp only [VS1, VS2, VS3, VS4, VS5, VS6, VT1, VT2, finM_ret, finM_nrm, decide_true, decide_false, List.nodup_nil, List.nodup_cons, oks_p, oks_m, oks_h, ne_eq, not_false_eq_true, Int.reduceEq, Int.reduceNe, true_and, Nat.reduceSub, Nat.reduceMul, ↓reduceIte, reduceCtorEq, Nat.reduceEqDiff, Nat.reduceAdd, Nat.reduceLeDiff, Int.reduceLE, cZ4, hyZ5a, hyZ5b, cZ12, huZ13g, cZ15, eZ17, eZ18, nZ19, huZ20g, eZ22, eZ23]
          all_goals simp [qL, qJ, qJ0, qS, qX, qR, qM, Shp, sub, tupd, VS1, VS2, VS3, VS4, VS5, VS6, VT1, VT2, V103, ← hlZ16, ← hlZ21]
        · replace h := cond_f cZ15 h
          cases h
          try simp only [VS1, VS2, VS3, VS4, VS5, VS6, VT1, VT2, finM_ret, finM_nrm, decide_true, decide_false, List.nodup_nil, List.nodup_cons, oks_p, oks_m, oks_h, ne_eq, not_false_eq_true, Int.reduceEq, Int.reduceNe, true_and, Nat.reduceSub, Nat.reduceMul, ↓reduceIte, reduceCtorEq, Nat.reduceEqDiff, Nat.reduceAdd, Nat.reduceLeDiff, Int.reduceLE, cZ4, hyZ5a, hyZ5b, cZ12, huZ13g, cZ15]
          all_goals simp [qL, qJ, qJ0, qS, qX, qR, qM, Shp, sub, tupd, VS1, VS2, VS3, VS4, VS5, VS6, VT1, VT2, S_impl_leadsL1, SX_impl_leadsL1]
  · replace h := cond_f cZ4 h
    cases h
    try simp only [VS1, VS2, VS3, VS4, VS5, VS6, VT1, VT2, finM_ret, finM_nrm, decide_true, decide_false, List.nodup_nil, List.nodup_cons, oks_p, oks_m, oks_h, ne_eq, not_false_eq_true, Int.reduceEq, Int.reduceNe, true_and, Nat.reduceSub, Nat.reduceMul, ↓reduceIte, reduceCtorEq, Nat.reduceEqDiff, Nat.reduceAdd, Nat.reduceLeDiff, Int.reduceLE, cZ4]
    all_goals simp [qL, qJ, qJ0, qS, qX, qR, qM, Shp, sub, tupd, VS1, VS2, VS3, VS4, VS5, VS6, VT1, VT2, S_impl_leadsL1, SX_impl_leadsL1]
theorem wB_impl_leads (rcZ0 : List TLink → List Int → Int → Int → Int → Int → Int → Option (List Int × Bool)) (ihZ0 : ∀ (linksZ0 : List TLink) (freeZ0 : List Int) (atZ0 : Int) (toZ0 : Int) (rateZ0 : Int) (countZ0 : Int) (seenZ0 : Int) {r : List Int × Bool}, rcZ0 linksZ0 freeZ0 atZ0 toZ0 rateZ0 countZ0 seenZ0 = some r → Ok Try.prog 103 [.lst .o 3 (linksZ0.map (e_TLink .o)), .lst .o 1 (freeZ0.map AV.i), .i atZ0, .i toZ0, .i rateZ0, .i countZ0, .i seenZ0] ((fun r => .tup [.lst .u 1 (r.1.map AV.i), .b r.2]) r)) (linksZ0 : List TLink) (freeZ0 : List Int) (atZ0 : Int) (toZ0 : Int) (rateZ0 : Int) (countZ0 : Int) (seenZ0 : Int) {r : List Int × Bool} (h : M_impl_leads_B rcZ0 linksZ0 freeZ0 atZ0 toZ0 rateZ0 countZ0 seenZ0 = some r) : Ok Try.prog 103 [.lst .o 3 (linksZ0.map (e_TLink .o)), .lst .o 1 (freeZ0.map AV.i), .i atZ0, .i toZ0, .i rateZ0, .i countZ0, .i seenZ0] ((fun r => .tup [.lst .u 1 (r.1.map AV.i), .b r.2]) r) := by
  refine ok_of_body hmix m103 rfl ?_
  unfold M_impl_leads_B at h
  simp only [A103, V103, body_eq]
  refine Or.elim (bt (atZ0 == toZ0)) (fun cZ1 => ?_) (fun cZ1 => ?_)
  · replace h := cond_t cZ1 h
    cases h
    try simp only [VS1, VS2, VS3, VS4, VS5, VS6, VT1, VT2, finM_ret, finM_nrm, decide_true, decide_false, List.nodup_nil, List.nodup_cons, oks_p, oks_m, oks_h, ne_eq, not_false_eq_true, Int.reduceEq, Int.reduceNe, true_and, Nat.reduceSub, Nat.reduceMul, ↓reduceIte, reduceCtorEq, Nat.reduceEqDiff, Nat.reduceAdd, Nat.reduceLeDiff, Int.reduceLE, cZ1]
    all_goals simp [qL, qJ, qJ0, qS, qX, qR, qM, Shp, sub, tupd, VS1, VS2, VS3, VS4, VS5, VS6, VT1, VT2, V103]
  · replace h := cond_f cZ1 h
    refine Or.elim (bt (countZ0 == 0)) (fun cZ2 => ?_) (fun cZ2 => ?_)
    · replace h := cond_t cZ2 h
      cases h
      try simp only [VS1, VS2, VS3, VS4, VS5, VS6, VT1, VT2, finM_ret, finM_nrm, decide_true, decide_false, List.nodup_nil, List.nodup_cons, oks_p, oks_m, oks_h, ne_eq, not_false_eq_true, Int.reduceEq, Int.reduceNe, true_and, Nat.reduceSub, Nat.reduceMul, ↓reduceIte, reduceCtorEq, Nat.reduceEqDiff, Nat.reduceAdd, Nat.reduceLeDiff, Int.reduceLE, cZ1, cZ2]
      all_goals simp [qL, qJ, qJ0, qS, qX, qR, qM, Shp, sub, tupd, VS1, VS2, VS3, VS4, VS5, VS6, VT1, VT2, V103]
    · replace h := cond_f cZ2 h
      obtain ⟨oZ24, hoZ24, h⟩ := bind_s h
      try simp only [VS1, VS2, VS3, VS4, VS5, VS6, VT1, VT2, finM_ret, finM_nrm, decide_true, decide_false, List.nodup_nil, List.nodup_cons, oks_p, oks_m, oks_h, ne_eq, not_false_eq_true, Int.reduceEq, Int.reduceNe, true_and, Nat.reduceSub, Nat.reduceMul, ↓reduceIte, reduceCtorEq, Nat.reduceEqDiff, Nat.reduceAdd, Nat.reduceLeDiff, Int.reduceLE, cZ1, cZ2]
      refine join_rule (o := oZ24) (blk_rule sideR (loop_rule (w_impl_leadsL1 linksZ0 freeZ0 atZ0 toZ0 rateZ0 countZ0 seenZ0 rcZ0 ihZ0) hoZ24 ?_)) (fun vZ25 hv => ?_) (fun xZ26 hv e τ hne hq => ?_)
      · all_goals simp [qL, qJ, qJ0, qS, qX, qR, qM, Shp, sub, tupd, VS1, VS2, VS3, VS4, VS5, VS6, VT1, VT2, S_impl_leadsL1, SX_impl_leadsL1]
      · subst hv
        simp only [] at h
        simp only [SX_impl_leadsL1, A103R3]
        cases h
        try simp only [VS1, VS2, VS3, VS4, VS5, VS6, VT1, VT2, finM_ret, finM_nrm, decide_true, decide_false, List.nodup_nil, List.nodup_cons, oks_p, oks_m, oks_h, ne_eq, not_false_eq_true, Int.reduceEq, Int.reduceNe, true_and, Nat.reduceSub, Nat.reduceMul, ↓reduceIte, reduceCtorEq, Nat.reduceEqDiff, Nat.reduceAdd, Nat.reduceLeDiff, Int.reduceLE, cZ1, cZ2]
        all_goals simp [qL, qJ, qJ0, qS, qX, qR, qM, Shp, sub, tupd, VS1, VS2, VS3, VS4, VS5, VS6, VT1, VT2, V103]
      · subst hv
        simp only [] at h
        obtain ⟨rfl, qZ27⟩ := hq
        cases h
        exact qZ27
theorem w_impl_leads : ∀ (n : Nat) (linksZ0 : List TLink) (freeZ0 : List Int) (atZ0 : Int) (toZ0 : Int) (rateZ0 : Int) (countZ0 : Int) (seenZ0 : Int) {r : List Int × Bool} (_ : M_impl_leads n linksZ0 freeZ0 atZ0 toZ0 rateZ0 countZ0 seenZ0 = some r), Ok Try.prog 103 [.lst .o 3 (linksZ0.map (e_TLink .o)), .lst .o 1 (freeZ0.map AV.i), .i atZ0, .i toZ0, .i rateZ0, .i countZ0, .i seenZ0] ((fun r => .tup [.lst .u 1 (r.1.map AV.i), .b r.2]) r)
  | 0, linksZ0, freeZ0, atZ0, toZ0, rateZ0, countZ0, seenZ0, _, h => by cases h
  | n + 1, linksZ0, freeZ0, atZ0, toZ0, rateZ0, countZ0, seenZ0, _, h => wB_impl_leads (M_impl_leads n) (w_impl_leads n) linksZ0 freeZ0 atZ0 toZ0 rateZ0 countZ0 seenZ0 h
def S_impl_routedL1 (linksZ0 : List TLink) (freeZ0 : List Int) (tZ0 : TTributary) (v : Int) : St := ⟨[(0, .lst .o 3 (linksZ0.map (e_TLink .o))), (1, .lst .o 1 (freeZ0.map AV.i)), (5, .pt 5 0 0), (8, .i v)], [(5, .var (.agg [.i tZ0.From, .i tZ0.To, .i tZ0.Rate]))]⟩
def SX_impl_routedL1 (v : Unit) : St := ⟨[], []⟩
theorem w_impl_routedL1 (linksZ0 : List TLink) (freeZ0 : List Int) (tZ0 : TTributary) (sZ1 : Int) (o : Int ⊕ (Unit ⊕ (List Int × Bool))) (h : M_impl_routedL1 linksZ0 freeZ0 tZ0 sZ1 = some o) : AWP (OkS Try.prog) A73L1 (qL [0, 1, 5, 8] [5] (S_impl_routedL1 linksZ0 freeZ0 tZ0) (qS (qX 0 [] [] (SX_impl_routedL1)) (qR V73 (fun r => .tup [.lst .u 1 (r.1.map AV.i), .b r.2]))) o) (S_impl_routedL1 linksZ0 freeZ0 tZ0 sZ1) := by
  unfold M_impl_routedL1 at h
  simp only [S_impl_routedL1, A73L1]
  refine Or.elim (bt (decide (sZ1 < 8))) (fun cZ2 => ?_) (fun cZ2 => ?_)
  · replace h := cond_t cZ2 h
    obtain ⟨uZ3, huZ3, h⟩ := bind_s h
    have huZ3g := grd_s huZ3
    obtain ⟨rZ4, hrZ4, h⟩ := bind_s h
    simp only [VS1, VS2, VS3, VS4, VS5, VS6, VT1, VT2, finM_ret, finM_nrm, decide_true, decide_false, List.nodup_nil, List.nodup_cons, oks_p, oks_m, oks_h, ne_eq, not_false_eq_true, Int.reduceEq, Int.reduceNe, true_and, Nat.reduceSub, Nat.reduceMul, ↓reduceIte, reduceCtorEq, Nat.reduceEqDiff, Nat.reduceAdd, Nat.reduceLeDiff, Int.reduceLE, cZ2, huZ3g]
    refine call_u (by simp only [VS1, VS2, VS3, VS4, VS5, VS6, VT1, VT2, finM_ret, finM_nrm, decide_true, decide_false, List.nodup_nil, List.nodup_cons, oks_p, oks_m, oks_h, ne_eq, not_false_eq_true, Int.reduceEq, Int.reduceNe, true_and, Nat.reduceSub, Nat.reduceMul, ↓reduceIte, reduceCtorEq, Nat.reduceEqDiff, Nat.reduceAdd, Nat.reduceLeDiff, Int.reduceLE, cZ2, huZ3g]; exact w_impl_leads N0 _ _ _ _ _ _ _ hrZ4 ) (by simp [AV.allU, allUL, allUL_iff, VT1, VT2]) (by simp only [VS1, VS2, VS3, VS4, VS5, VS6, VT1, VT2, finM_ret, finM_nrm, decide_true, decide_false, List.nodup_nil, List.nodup_cons, oks_p, oks_m, oks_h, ne_eq, not_false_eq_true, Int.reduceEq, Int.reduceNe, true_and, Nat.reduceSub, Nat.reduceMul, ↓reduceIte, reduceCtorEq, Nat.reduceEqDiff, Nat.reduceAdd, Nat.reduceLeDiff, Int.reduceLE, Nat.reduceLT]) ?_
    simp only [VA, VF1, ↓reduceIte, Nat.reduceEqDiff, Nat.reduceAdd, Nat.reduceMul, Nat.reduceSub, Nat.reduceLeDiff]
    refine Or.elim (bt (rZ4.2)) (fun cZ5 => ?_) (fun cZ5 => ?_)
    · replace h := cond_t cZ5 h
      cases h
      try simp only [VS1, VS2, VS3, VS4, VS5, VS6, VT1, VT2, finM_ret, finM_nrm, decide_true, decide_false, List.nodup_nil, List.nodup_cons, oks_p, oks_m, oks_h, ne_eq, not_false_eq_true, Int.reduceEq, Int.reduceNe, true_and, Nat.reduceSub, Nat.reduceMul, ↓reduceIte, reduceCtorEq, Nat.reduceEqDiff, Nat.reduceAdd, Nat.reduceLeDiff, Int.reduceLE, cZ2, huZ3g, cZ5]
      all_goals simp [qL, qJ, qJ0, qS, qX, qR, qM, Shp, sub, tupd, VS1, VS2, VS3, VS4, VS5, VS6, VT1, VT2, V73]
    · replace h := cond_f cZ5 h
      cases h
      try simp only [VS1, VS2, VS3, VS4, VS5, VS6, VT1, VT2, finM_ret, finM_nrm, decide_true, decide_false, List.nodup_nil, List.nodup_cons, oks_p, oks_m, oks_h, ne_eq, not_false_eq_true, Int.reduceEq, Int.reduceNe, true_and, Nat.reduceSub, Nat.reduceMul, ↓reduceIte, reduceCtorEq, Nat.reduceEqDiff, Nat.reduceAdd, Nat.reduceLeDiff, Int.reduceLE, cZ2, huZ3g, cZ5]
      all_goals simp [qL, qJ, qJ0, qS, qX, qR, qM, Shp, sub, tupd, VS1, VS2, VS3, VS4, VS5, VS6, VT1, VT2, S_impl_routedL1, SX_impl_routedL1]
  · replace h := cond_f cZ2 h
    cases h
    try simp only [VS1, VS2, VS3, VS4, VS5, VS6, VT1, VT2, finM_ret, finM_nrm, decide_true, decide_false, List.nodup_nil, List.nodup_cons, oks_p, oks_m, oks_h, ne_eq, not_false_eq_true, Int.reduceEq, Int.reduceNe, true_and, Nat.reduceSub, Nat.reduceMul, ↓reduceIte, reduceCtorEq, Nat.reduceEqDiff, Nat.reduceAdd, Nat.reduceLeDiff, Int.reduceLE, cZ2]
    all_goals simp [qL, qJ, qJ0, qS, qX, qR, qM, Shp, sub, tupd, VS1, VS2, VS3, VS4, VS5, VS6, VT1, VT2, S_impl_routedL1, SX_impl_routedL1]
theorem w_impl_routed (linksZ0 : List TLink) (freeZ0 : List Int) (tZ0 : TTributary) {r : List Int × Bool} (h : M_impl_routed linksZ0 freeZ0 tZ0 = some r) : Ok Try.prog 73 [.lst .o 3 (linksZ0.map (e_TLink .o)), .lst .o 1 (freeZ0.map AV.i), .agg [.i tZ0.From, .i tZ0.To, .i tZ0.Rate]] ((fun r => .tup [.lst .u 1 (r.1.map AV.i), .b r.2]) r) := by
  refine ok_of_body hmix m73 rfl ?_
  unfold M_impl_routed at h
  simp only [A73, V73, body_eq]
  obtain ⟨oZ6, hoZ6, h⟩ := bind_s h
  try simp only [VS1, VS2, VS3, VS4, VS5, VS6, VT1, VT2, finM_ret, finM_nrm, decide_true, decide_false, List.nodup_nil, List.nodup_cons, oks_p, oks_m, oks_h, ne_eq, not_false_eq_true, Int.reduceEq, Int.reduceNe, true_and, Nat.reduceSub, Nat.reduceMul, ↓reduceIte, reduceCtorEq, Nat.reduceEqDiff, Nat.reduceAdd, Nat.reduceLeDiff, Int.reduceLE]
  refine join_rule (o := oZ6) (blk_rule sideR (loop_rule (w_impl_routedL1 linksZ0 freeZ0 tZ0) hoZ6 ?_)) (fun vZ7 hv => ?_) (fun xZ8 hv e τ hne hq => ?_)
  · all_goals simp [qL, qJ, qJ0, qS, qX, qR, qM, Shp, sub, tupd, VS1, VS2, VS3, VS4, VS5, VS6, VT1, VT2, S_impl_routedL1, SX_impl_routedL1]
  · subst hv
    simp only [] at h
    simp only [SX_impl_routedL1, A73R2]
    cases h
    try simp only [VS1, VS2, VS3, VS4, VS5, VS6, VT1, VT2, finM_ret, finM_nrm, decide_true, decide_false, List.nodup_nil, List.nodup_cons, oks_p, oks_m, oks_h, ne_eq, not_false_eq_true, Int.reduceEq, Int.reduceNe, true_and, Nat.reduceSub, Nat.reduceMul, ↓reduceIte, reduceCtorEq, Nat.reduceEqDiff, Nat.reduceAdd, Nat.reduceLeDiff, Int.reduceLE]
    all_goals simp [qL, qJ, qJ0, qS, qX, qR, qM, Shp, sub, tupd, VS1, VS2, VS3, VS4, VS5, VS6, VT1, VT2, V73]
  · subst hv
    simp only [] at h
    obtain ⟨rfl, qZ9⟩ := hq
    cases h
    exact qZ9
def S_impl_groomedL1 (linksZ0 : List TLink) (listZ0 : List TTributary) (v : Int × List Int) : St := ⟨[(0, .lst .o 3 (linksZ0.map (e_TLink .o))), (1, .lst .o 3 (listZ0.map (e_TTributary .o))), (7, .sl 7 0 0), (8, .sl 8 0 v.2.length), (9, .i 0), (20, .lst .o 3 (linksZ0.map (e_TLink .o))), (21, .i (linksZ0.length : Int)), (22, .i v.1)], [(7, .arr 1 []), (8, .arr 1 (v.2.map AV.i))]⟩
def SX_impl_groomedL1 (linksZ0 : List TLink) (listZ0 : List TTributary) (v : List Int) : St := ⟨[(0, .lst .o 3 (linksZ0.map (e_TLink .o))), (1, .lst .o 3 (listZ0.map (e_TTributary .o))), (7, .sl 7 0 0), (8, .sl 8 0 v.length), (9, .i 0)], [(7, .arr 1 []), (8, .arr 1 (v.map AV.i))]⟩
theorem w_impl_groomedL1 (linksZ0 : List TLink) (listZ0 : List TTributary) (sZ1 : Int × List Int) (o : (Int × List Int) ⊕ (List Int)) (h : M_impl_groomedL1 linksZ0 sZ1 = some o) : AWP (OkS Try.prog) A76L1 (qL [0, 1, 7, 8, 9, 20, 21, 22] [7, 8] (S_impl_groomedL1 linksZ0 listZ0) (qX 0 [0, 1, 7, 8, 9] [7, 8] (SX_impl_groomedL1 linksZ0 listZ0)) o) (S_impl_groomedL1 linksZ0 listZ0 sZ1) := by
  unfold M_impl_groomedL1 at h
  simp only [S_impl_groomedL1, A76L1]
  refine Or.elim (bt (decide (sZ1.1 < (linksZ0.length : Int)))) (fun cZ2 => ?_) (fun cZ2 => ?_)
  · replace h := cond_t cZ2 h
    obtain ⟨yZ3, hyZ3, h⟩ := bind_s h
    obtain ⟨hyZ3a, hyZ3b⟩ := geti_s hyZ3
    obtain ⟨lZ4, hlZ4, h⟩ := bnd_s h
    have eZ5 : Row.arr 1 [(.i yZ3.Capacity : AV)] = Row.arr 1 (lZ4.map AV.i) := by rw [← hlZ4]; rfl
    have eZ6 : lZ4.length = 1 := by rw [← hlZ4]; rfl
    obtain ⟨uZ7, huZ7, h⟩ := bind_s h
    have huZ7g := grd_s huZ7
    obtain ⟨lZ8, hlZ8, h⟩ := bnd_s h
    have eZ9 : sZ1.2.map AV.i ++ lZ4.map AV.i = lZ8.map AV.i := by rw [← hlZ8, List.map_append]
    have eZ10 : sZ1.2.length + 1 = lZ8.length := by simp [← hlZ4, ← hlZ8] <;> omega
    rw [eZ10] at huZ7g
    cases h
    try simp only [VS1, VS2, VS3, VS4, VS5, VS6, VT1, VT2, finM_ret, finM_nrm, decide_true, decide_false, List.nodup_nil, List.nodup_cons, oks_p, oks_m, oks_h, ne_eq, not_false_eq_true, Int.reduceEq, Int.reduceNe, true_and, Nat.reduceSub, Nat.reduceMul, ↓reduceIte, reduceCtorEq, Nat.reduceEqDiff, Nat.reduceAdd, Nat.reduceLeDiff, Int.reduceLE, cZ2, hyZ3a, hyZ3b, eZ5, eZ6, huZ7g, eZ9, eZ10]
    all_goals simp [qL, qJ, qJ0, qS, qX, qR, qM, Shp, sub, tupd, VS1, VS2, VS3, VS4, VS5, VS6, VT1, VT2, S_impl_groomedL1, SX_impl_groomedL1, ← hlZ4, ← hlZ8]
  · replace h := cond_f cZ2 h
    cases h
    try simp only [VS1, VS2, VS3, VS4, VS5, VS6, VT1, VT2, finM_ret, finM_nrm, decide_true, decide_false, List.nodup_nil, List.nodup_cons, oks_p, oks_m, oks_h, ne_eq, not_false_eq_true, Int.reduceEq, Int.reduceNe, true_and, Nat.reduceSub, Nat.reduceMul, ↓reduceIte, reduceCtorEq, Nat.reduceEqDiff, Nat.reduceAdd, Nat.reduceLeDiff, Int.reduceLE, cZ2]
    all_goals simp [qL, qJ, qJ0, qS, qX, qR, qM, Shp, sub, tupd, VS1, VS2, VS3, VS4, VS5, VS6, VT1, VT2, S_impl_groomedL1, SX_impl_groomedL1]
def S_impl_groomedL3 (linksZ0 : List TLink) (listZ0 : List TTributary) (sZ12 : Int × Int × List (List Int) × List Int) (yZ14 : TTributary) (rZ15 : List Int × Bool) (oZ17 : Int) (v : Int × List Int) : St := ⟨[(0, .lst .o 3 (linksZ0.map (e_TLink .o))), (7, .sl 7 0 sZ12.2.2.1.length), (8, .sl 8 0 v.2.length), (9, .i oZ17), (13, .pt 13 0 0), (14, .sl 14 0 rZ15.1.length), (32, .lst .o 3 (listZ0.map (e_TTributary .o))), (33, .i (listZ0.length : Int)), (34, .i sZ12.2.1), (51, .sl 14 0 rZ15.1.length), (52, .i (rZ15.1.length : Int)), (53, .i v.1)], [(7, .arr 1 (sZ12.2.2.1.map (e_Li .u))), (8, .arr 1 (v.2.map AV.i)), (13, .var (.agg [.i yZ14.From, .i yZ14.To, .i yZ14.Rate])), (14, .arr 1 (rZ15.1.map AV.i))]⟩
def SX_impl_groomedL3 (linksZ0 : List TLink) (listZ0 : List TTributary) (sZ12 : Int × Int × List (List Int) × List Int) (rZ15 : List Int × Bool) (oZ17 : Int) (v : List Int) : St := ⟨[(0, .lst .o 3 (linksZ0.map (e_TLink .o))), (7, .sl 7 0 sZ12.2.2.1.length), (8, .sl 8 0 v.length), (9, .i oZ17), (14, .sl 14 0 rZ15.1.length), (32, .lst .o 3 (listZ0.map (e_TTributary .o))), (33, .i (listZ0.length : Int)), (34, .i sZ12.2.1)], [(7, .arr 1 (sZ12.2.2.1.map (e_Li .u))), (8, .arr 1 (v.map AV.i)), (14, .arr 1 (rZ15.1.map AV.i))]⟩
theorem w_impl_groomedL3 (linksZ0 : List TLink) (listZ0 : List TTributary) (sZ12 : Int × Int × List (List Int) × List Int) (yZ14 : TTributary) (rZ15 : List Int × Bool) (oZ17 : Int) (sZ18 : Int × List Int) (o : (Int × List Int) ⊕ (List Int)) (h : M_impl_groomedL3 yZ14 rZ15 sZ18 = some o) : AWP (OkS Try.prog) A76L4 (qL [0, 7, 8, 9, 13, 14, 32, 33, 34, 51, 52, 53] [7, 8, 13, 14] (S_impl_groomedL3 linksZ0 listZ0 sZ12 yZ14 rZ15 oZ17) (qX 4 [0, 7, 8, 9, 14, 32, 33, 34] [7, 8, 14] (SX_impl_groomedL3 linksZ0 listZ0 sZ12 rZ15 oZ17)) o) (S_impl_groomedL3 linksZ0 listZ0 sZ12 yZ14 rZ15 oZ17 sZ18) := by
  unfold M_impl_groomedL3 at h
  simp only [S_impl_groomedL3, A76L4]
  refine Or.elim (bt (decide (sZ18.1 < (rZ15.1.length : Int)))) (fun cZ19 => ?_) (fun cZ19 => ?_)
  · replace h := cond_t cZ19 h
    obtain ⟨kZ20, hkZ20, h⟩ := bind_s h
    obtain ⟨hkZ20a, hkZ20b⟩ := grd_s hkZ20
    obtain ⟨yZ21, hyZ21, h⟩ := bind_s h
    obtain ⟨kZ22, hkZ22, h⟩ := bind_s h
    obtain ⟨hkZ22a, hkZ22b⟩ := grd_s hkZ22
    obtain ⟨yZ23, hyZ23, h⟩ := bind_s h
    obtain ⟨lZ24, hlZ24, h⟩ := bnd_s h
    have eZ25 : (sZ18.2.map AV.i).set (Int.toNat yZ21) (.i (IntKind.wrap .i64 (yZ23 - yZ14.Rate))) = lZ24.map AV.i := by rw [← hlZ24, List.map_set]
    cases h
    try simp only [VS1, VS2, VS3, VS4, VS5, VS6, VT1, VT2, finM_ret, finM_nrm, decide_true, decide_false, List.nodup_nil, List.nodup_cons, oks_p, oks_m, oks_h, ne_eq, not_false_eq_true, Int.reduceEq, Int.reduceNe, true_and, Nat.reduceSub, Nat.reduceMul, ↓reduceIte, reduceCtorEq, Nat.reduceEqDiff, Nat.reduceAdd, Nat.reduceLeDiff, Int.reduceLE, cZ19, hkZ20a, hkZ20b, hyZ21, hkZ22a, hkZ22b, hyZ23, eZ25]
    all_goals simp [qL, qJ, qJ0, qS, qX, qR, qM, Shp, sub, tupd, VS1, VS2, VS3, VS4, VS5, VS6, VT1, VT2, S_impl_groomedL3, SX_impl_groomedL3, ← hlZ24]
  · replace h := cond_f cZ19 h
    cases h
    try simp only [VS1, VS2, VS3, VS4, VS5, VS6, VT1, VT2, finM_ret, finM_nrm, decide_true, decide_false, List.nodup_nil, List.nodup_cons, oks_p, oks_m, oks_h, ne_eq, not_false_eq_true, Int.reduceEq, Int.reduceNe, true_and, Nat.reduceSub, Nat.reduceMul, ↓reduceIte, reduceCtorEq, Nat.reduceEqDiff, Nat.reduceAdd, Nat.reduceLeDiff, Int.reduceLE, cZ19]
    all_goals simp [qL, qJ, qJ0, qS, qX, qR, qM, Shp, sub, tupd, VS1, VS2, VS3, VS4, VS5, VS6, VT1, VT2, S_impl_groomedL3, SX_impl_groomedL3]
def S_impl_groomedL2 (linksZ0 : List TLink) (listZ0 : List TTributary) (v : Int × Int × List (List Int) × List Int) : St := ⟨[(0, .lst .o 3 (linksZ0.map (e_TLink .o))), (7, .sl 7 0 v.2.2.1.length), (8, .sl 8 0 v.2.2.2.length), (9, .i v.1), (32, .lst .o 3 (listZ0.map (e_TTributary .o))), (33, .i (listZ0.length : Int)), (34, .i v.2.1)], [(7, .arr 1 (v.2.2.1.map (e_Li .u))), (8, .arr 1 (v.2.2.2.map AV.i))]⟩
def SX_impl_groomedL2 (v : Int × List (List Int) × List Int) : St := ⟨[(7, .sl 7 0 v.2.1.length), (8, .sl 8 0 v.2.2.length), (9, .i v.1)], [(7, .arr 1 (v.2.1.map (e_Li .u))), (8, .arr 1 (v.2.2.map AV.i))]⟩
theorem w_impl_groomedL2 (linksZ0 : List TLink) (listZ0 : List TTributary) (sZ12 : Int × Int × List (List Int) × List Int) (o : (Int × Int × List (List Int) × List Int) ⊕ (Int × List (List Int) × List Int)) (h : M_impl_groomedL2 linksZ0 listZ0 sZ12 = some o) : AWP (OkS Try.prog) A76L6 (qL [0, 7, 8, 9, 32, 33, 34] [7, 8] (S_impl_groomedL2 linksZ0 listZ0) (qX 2 [7, 8, 9] [7, 8] (SX_impl_groomedL2)) o) (S_impl_groomedL2 linksZ0 listZ0 sZ12) := by
  unfold M_impl_groomedL2 at h
  simp only [S_impl_groomedL2, A76L6]
  refine Or.elim (bt (decide (sZ12.2.1 < (listZ0.length : Int)))) (fun cZ13 => ?_) (fun cZ13 => ?_)
  · replace h := cond_t cZ13 h
    obtain ⟨yZ14, hyZ14, h⟩ := bind_s h
    obtain ⟨hyZ14a, hyZ14b⟩ := geti_s hyZ14
    obtain ⟨rZ15, hrZ15, h⟩ := bind_s h
    simp only [VS1, VS2, VS3, VS4, VS5, VS6, VT1, VT2, finM_ret, finM_nrm, decide_true, decide_false, List.nodup_nil, List.nodup_cons, oks_p, oks_m, oks_h, ne_eq, not_false_eq_true, Int.reduceEq, Int.reduceNe, true_and, Nat.reduceSub, Nat.reduceMul, ↓reduceIte, reduceCtorEq, Nat.reduceEqDiff, Nat.reduceAdd, Nat.reduceLeDiff, Int.reduceLE, cZ13, hyZ14a, hyZ14b]
    refine call_u (by simp only [VS1, VS2, VS3, VS4, VS5, VS6, VT1, VT2, finM_ret, finM_nrm, decide_true, decide_false, List.nodup_nil, List.nodup_cons, oks_p, oks_m, oks_h, ne_eq, not_false_eq_true, Int.reduceEq, Int.reduceNe, true_and, Nat.reduceSub, Nat.reduceMul, ↓reduceIte, reduceCtorEq, Nat.reduceEqDiff, Nat.reduceAdd, Nat.reduceLeDiff, Int.reduceLE, cZ13, hyZ14a, hyZ14b]; exact w_impl_routed _ _ _ hrZ15 ) (by simp [AV.allU, allUL, allUL_iff, VT1, VT2]) (by simp only [VS1, VS2, VS3, VS4, VS5, VS6, VT1, VT2, finM_ret, finM_nrm, decide_true, decide_false, List.nodup_nil, List.nodup_cons, oks_p, oks_m, oks_h, ne_eq, not_false_eq_true, Int.reduceEq, Int.reduceNe, true_and, Nat.reduceSub, Nat.reduceMul, ↓reduceIte, reduceCtorEq, Nat.reduceEqDiff, Nat.reduceAdd, Nat.reduceLeDiff, Int.reduceLE, Nat.reduceLT]) ?_
    simp only [VA, VF1, ↓reduceIte, Nat.reduceEqDiff, Nat.reduceAdd, Nat.reduceMul, Nat.reduceSub, Nat.reduceLeDiff]
    obtain ⟨oZ17, hoZ17, h⟩ := bind_s h
    try simp only [VS1, VS2, VS3, VS4, VS5, VS6, VT1, VT2, finM_ret, finM_nrm, decide_true, decide_false, List.nodup_nil, List.nodup_cons, oks_p, oks_m, oks_h, ne_eq, not_false_eq_true, Int.reduceEq, Int.reduceNe, true_and, Nat.reduceSub, Nat.reduceMul, ↓reduceIte, reduceCtorEq, Nat.reduceEqDiff, Nat.reduceAdd, Nat.reduceLeDiff, Int.reduceLE, cZ13, hyZ14a, hyZ14b]
    refine join_rule0 (sh := (fun v => ⟨[(0, .lst .o 3 (linksZ0.map (e_TLink .o))), (7, .sl 7 0 sZ12.2.2.1.length), (8, .sl 8 0 sZ12.2.2.2.length), (9, .i v), (13, .pt 13 0 0), (14, .sl 14 0 rZ15.1.length), (32, .lst .o 3 (listZ0.map (e_TTributary .o))), (33, .i (listZ0.length : Int)), (34, .i sZ12.2.1)], [(7, .arr 1 (sZ12.2.2.1.map (e_Li .u))), (8, .arr 1 (sZ12.2.2.2.map AV.i)), (13, .var (.agg [.i yZ14.From, .i yZ14.To, .i yZ14.Rate])), (14, .arr 1 (rZ15.1.map AV.i))]⟩)) (s := oZ17) ?_ ?_
    · replace h := hoZ17
      refine Or.elim (bt (!rZ15.2)) (fun cZ16 => ?_) (fun cZ16 => ?_)
      · replace h := cond_t cZ16 h
        cases h
        try simp only [VS1, VS2, VS3, VS4, VS5, VS6, VT1, VT2, finM_ret, finM_nrm, decide_true, decide_false, List.nodup_nil, List.nodup_cons, oks_p, oks_m, oks_h, ne_eq, not_false_eq_true, Int.reduceEq, Int.reduceNe, true_and, Nat.reduceSub, Nat.reduceMul, ↓reduceIte, reduceCtorEq, Nat.reduceEqDiff, Nat.reduceAdd, Nat.reduceLeDiff, Int.reduceLE, cZ13, hyZ14a, hyZ14b, cZ16]
        all_goals simp [qL, qJ, qJ0, qS, qX, qR, qM, Shp, sub, tupd, VS1, VS2, VS3, VS4, VS5, VS6, VT1, VT2]
      · replace h := cond_f cZ16 h
        cases h
        try simp only [VS1, VS2, VS3, VS4, VS5, VS6, VT1, VT2, finM_ret, finM_nrm, decide_true, decide_false, List.nodup_nil, List.nodup_cons, oks_p, oks_m, oks_h, ne_eq, not_false_eq_true, Int.reduceEq, Int.reduceNe, true_and, Nat.reduceSub, Nat.reduceMul, ↓reduceIte, reduceCtorEq, Nat.reduceEqDiff, Nat.reduceAdd, Nat.reduceLeDiff, Int.reduceLE, cZ13, hyZ14a, hyZ14b, cZ16]
        all_goals simp [qL, qJ, qJ0, qS, qX, qR, qM, Shp, sub, tupd, VS1, VS2, VS3, VS4, VS5, VS6, VT1, VT2]
    · simp only [A76R3]
      obtain ⟨oZ26, hoZ26, h⟩ := bind_s h
      try simp only [VS1, VS2, VS3, VS4, VS5, VS6, VT1, VT2, finM_ret, finM_nrm, decide_true, decide_false, List.nodup_nil, List.nodup_cons, oks_p, oks_m, oks_h, ne_eq, not_false_eq_true, Int.reduceEq, Int.reduceNe, true_and, Nat.reduceSub, Nat.reduceMul, ↓reduceIte, reduceCtorEq, Nat.reduceEqDiff, Nat.reduceAdd, Nat.reduceLeDiff, Int.reduceLE, cZ13, hyZ14a, hyZ14b]
      refine join_rule0 (blk_rule0 (loop_rule (w_impl_groomedL3 linksZ0 listZ0 sZ12 yZ14 rZ15 oZ17) hoZ26 ?_)) ?_
      · all_goals simp [qL, qJ, qJ0, qS, qX, qR, qM, Shp, sub, tupd, VS1, VS2, VS3, VS4, VS5, VS6, VT1, VT2, S_impl_groomedL3, SX_impl_groomedL3]
      · simp only [SX_impl_groomedL3, A76R5]
        obtain ⟨lZ27, hlZ27, h⟩ := bnd_s h
        have eZ28 : Row.arr 1 [(.lst .u 1 (rZ15.1.map AV.i) : AV)] = Row.arr 1 (lZ27.map (e_Li .u)) := by rw [← hlZ27]; rfl
        have eZ29 : lZ27.length = 1 := by rw [← hlZ27]; rfl
        obtain ⟨uZ30, huZ30, h⟩ := bind_s h
        have huZ30g := grd_s huZ30
        obtain ⟨lZ31, hlZ31, h⟩ := bnd_s h
        have eZ32 : sZ12.2.2.1.map (e_Li .u) ++ lZ27.map (e_Li .u) = lZ31.map (e_Li .u) := by rw [← hlZ31, List.map_append]
        have eZ33 : sZ12.2.2.1.length + 1 = lZ31.length := by simp [← hlZ27, ← hlZ31] <;> omega
        rw [eZ33] at huZ30g
        cases h
        try simp only [VS1, VS2, VS3, VS4, VS5, VS6, VT1, VT2, finM_ret, finM_nrm, decide_true, decide_false, List.nodup_nil, List.nodup_cons, oks_p, oks_m, oks_h, ne_eq, not_false_eq_true, Int.reduceEq, Int.reduceNe, true_and, Nat.reduceSub, Nat.reduceMul, ↓reduceIte, reduceCtorEq, Nat.reduceEqDiff, Nat.reduceAdd, Nat.reduceLeDiff, Int.reduceLE, cZ13, hyZ14a, hyZ14b, eZ28, eZ29, huZ30g, eZ32, eZ33]
        all_goals simp [qL, qJ, qJ0, qS, qX, qR, qM, Shp, sub, tupd, VS1, VS2, VS3, VS4, VS5, VS6, VT1, VT2, S_impl_groomedL2, SX_impl_groomedL2, ← hlZ27, ← hlZ31]
  · replace h := cond_f cZ13 h
    cases h
    try simp only [VS1, VS2, VS3, VS4, VS5, VS6, VT1, VT2, finM_ret, finM_nrm, decide_true, decide_false, List.nodup_nil, List.nodup_cons, oks_p, oks_m, oks_h, ne_eq, not_false_eq_true, Int.reduceEq, Int.reduceNe, true_and, Nat.reduceSub, Nat.reduceMul, ↓reduceIte, reduceCtorEq, Nat.reduceEqDiff, Nat.reduceAdd, Nat.reduceLeDiff, Int.reduceLE, cZ13]
    all_goals simp [qL, qJ, qJ0, qS, qX, qR, qM, Shp, sub, tupd, VS1, VS2, VS3, VS4, VS5, VS6, VT1, VT2, S_impl_groomedL2, SX_impl_groomedL2]
theorem w_impl_groomed (linksZ0 : List TLink) (listZ0 : List TTributary) {r : List (List Int) × List Int × Int} (h : M_impl_groomed linksZ0 listZ0 = some r) : Ok Try.prog 76 [.lst .o 3 (linksZ0.map (e_TLink .o)), .lst .o 3 (listZ0.map (e_TTributary .o))] ((fun r => .tup [.lst .u 1 (r.1.map (e_Li .u)), .lst .u 1 (r.2.1.map AV.i), .i r.2.2]) r) := by
  refine ok_of_body hmix m76 rfl ?_
  unfold M_impl_groomed at h
  simp only [A76, V76, body_eq]
  obtain ⟨oZ11, hoZ11, h⟩ := bind_s h
  try simp only [VS1, VS2, VS3, VS4, VS5, VS6, VT1, VT2, finM_ret, finM_nrm, decide_true, decide_false, List.nodup_nil, List.nodup_cons, oks_p, oks_m, oks_h, ne_eq, not_false_eq_true, Int.reduceEq, Int.reduceNe, true_and, Nat.reduceSub, Nat.reduceMul, ↓reduceIte, reduceCtorEq, Nat.reduceEqDiff, Nat.reduceAdd, Nat.reduceLeDiff, Int.reduceLE]
  refine join_rule0 (blk_rule0 (loop_rule (w_impl_groomedL1 linksZ0 listZ0) hoZ11 ?_)) ?_
  · all_goals simp [qL, qJ, qJ0, qS, qX, qR, qM, Shp, sub, tupd, VS1, VS2, VS3, VS4, VS5, VS6, VT1, VT2, S_impl_groomedL1, SX_impl_groomedL1]
  · simp only [SX_impl_groomedL1, A76R2]
    obtain ⟨oZ34, hoZ34, h⟩ := bind_s h
    try simp only [VS1, VS2, VS3, VS4, VS5, VS6, VT1, VT2, finM_ret, finM_nrm, decide_true, decide_false, List.nodup_nil, List.nodup_cons, oks_p, oks_m, oks_h, ne_eq, not_false_eq_true, Int.reduceEq, Int.reduceNe, true_and, Nat.reduceSub, Nat.reduceMul, ↓reduceIte, reduceCtorEq, Nat.reduceEqDiff, Nat.reduceAdd, Nat.reduceLeDiff, Int.reduceLE]
    refine join_rule0 (blk_rule0 (loop_rule (w_impl_groomedL2 linksZ0 listZ0) hoZ34 ?_)) ?_
    · all_goals simp [qL, qJ, qJ0, qS, qX, qR, qM, Shp, sub, tupd, VS1, VS2, VS3, VS4, VS5, VS6, VT1, VT2, S_impl_groomedL2, SX_impl_groomedL2]
    · simp only [SX_impl_groomedL2, A76R7]
      cases h
      try simp only [VS1, VS2, VS3, VS4, VS5, VS6, VT1, VT2, finM_ret, finM_nrm, decide_true, decide_false, List.nodup_nil, List.nodup_cons, oks_p, oks_m, oks_h, ne_eq, not_false_eq_true, Int.reduceEq, Int.reduceNe, true_and, Nat.reduceSub, Nat.reduceMul, ↓reduceIte, reduceCtorEq, Nat.reduceEqDiff, Nat.reduceAdd, Nat.reduceLeDiff, Int.reduceLE]
      all_goals simp [qL, qJ, qJ0, qS, qX, qR, qM, Shp, sub, tupd, VS1, VS2, VS3, VS4, VS5, VS6, VT1, VT2, V76]
theorem w_impl_GroomAll (linksZ0 : List TLink) (nodesZ0 : Int) (listZ0 : List TTributary) {r : List (List Int) × List Int × Bool} (h : M_impl_GroomAll linksZ0 nodesZ0 listZ0 = some r) : Ok Try.prog 45 [.lst .o 3 (linksZ0.map (e_TLink .o)), .i nodesZ0, .lst .o 3 (listZ0.map (e_TTributary .o))] ((fun r => .tup [.lst .u 1 (r.1.map (e_Li .u)), .lst .u 1 (r.2.1.map AV.i), .b r.2.2]) r) := by
  refine ok_of_body hmix m45 rfl ?_
  unfold M_impl_GroomAll at h
  simp only [A45, V45, body_eq]
  obtain ⟨rZ1, hrZ1, h⟩ := bind_s h
  simp only [VS1, VS2, VS3, VS4, VS5, VS6, VT1, VT2, finM_ret, finM_nrm, decide_true, decide_false, List.nodup_nil, List.nodup_cons, oks_p, oks_m, oks_h, ne_eq, not_false_eq_true, Int.reduceEq, Int.reduceNe, true_and, Nat.reduceSub, Nat.reduceMul, ↓reduceIte, reduceCtorEq, Nat.reduceEqDiff, Nat.reduceAdd, Nat.reduceLeDiff, Int.reduceLE]
  refine call_s (by simp only [VS1, VS2, VS3, VS4, VS5, VS6, VT1, VT2, finM_ret, finM_nrm, decide_true, decide_false, List.nodup_nil, List.nodup_cons, oks_p, oks_m, oks_h, ne_eq, not_false_eq_true, Int.reduceEq, Int.reduceNe, true_and, Nat.reduceSub, Nat.reduceMul, ↓reduceIte, reduceCtorEq, Nat.reduceEqDiff, Nat.reduceAdd, Nat.reduceLeDiff, Int.reduceLE]; exact w_impl_isGrooming _ _ _ hrZ1 ) ?_
  simp only [VA, VF1, ↓reduceIte, Nat.reduceEqDiff, Nat.reduceAdd, Nat.reduceMul, Nat.reduceSub, Nat.reduceLeDiff]
  refine Or.elim (bt (!rZ1)) (fun cZ2 => ?_) (fun cZ2 => ?_)
  · replace h := cond_t cZ2 h
    cases h
    try simp only [VS1, VS2, VS3, VS4, VS5, VS6, VT1, VT2, finM_ret, finM_nrm, decide_true, decide_false, List.nodup_nil, List.nodup_cons, oks_p, oks_m, oks_h, ne_eq, not_false_eq_true, Int.reduceEq, Int.reduceNe, true_and, Nat.reduceSub, Nat.reduceMul, ↓reduceIte, reduceCtorEq, Nat.reduceEqDiff, Nat.reduceAdd, Nat.reduceLeDiff, Int.reduceLE, cZ2]
    all_goals simp [qL, qJ, qJ0, qS, qX, qR, qM, Shp, sub, tupd, VS1, VS2, VS3, VS4, VS5, VS6, VT1, VT2, V45]
  · replace h := cond_f cZ2 h
    obtain ⟨rZ3, hrZ3, h⟩ := bind_s h
    simp only [VS1, VS2, VS3, VS4, VS5, VS6, VT1, VT2, finM_ret, finM_nrm, decide_true, decide_false, List.nodup_nil, List.nodup_cons, oks_p, oks_m, oks_h, ne_eq, not_false_eq_true, Int.reduceEq, Int.reduceNe, true_and, Nat.reduceSub, Nat.reduceMul, ↓reduceIte, reduceCtorEq, Nat.reduceEqDiff, Nat.reduceAdd, Nat.reduceLeDiff, Int.reduceLE, cZ2]
    refine call_u (by simp only [VS1, VS2, VS3, VS4, VS5, VS6, VT1, VT2, finM_ret, finM_nrm, decide_true, decide_false, List.nodup_nil, List.nodup_cons, oks_p, oks_m, oks_h, ne_eq, not_false_eq_true, Int.reduceEq, Int.reduceNe, true_and, Nat.reduceSub, Nat.reduceMul, ↓reduceIte, reduceCtorEq, Nat.reduceEqDiff, Nat.reduceAdd, Nat.reduceLeDiff, Int.reduceLE, cZ2]; exact w_impl_groomed _ _ hrZ3 ) (by simp [AV.allU, allUL, allUL_iff, VT1, VT2]) (by simp only [VS1, VS2, VS3, VS4, VS5, VS6, VT1, VT2, finM_ret, finM_nrm, decide_true, decide_false, List.nodup_nil, List.nodup_cons, oks_p, oks_m, oks_h, ne_eq, not_false_eq_true, Int.reduceEq, Int.reduceNe, true_and, Nat.reduceSub, Nat.reduceMul, ↓reduceIte, reduceCtorEq, Nat.reduceEqDiff, Nat.reduceAdd, Nat.reduceLeDiff, Int.reduceLE, Nat.reduceLT]) ?_
    simp only [VA, VF1, ↓reduceIte, Nat.reduceEqDiff, Nat.reduceAdd, Nat.reduceMul, Nat.reduceSub, Nat.reduceLeDiff]
    cases h
    try simp only [VS1, VS2, VS3, VS4, VS5, VS6, VT1, VT2, finM_ret, finM_nrm, decide_true, decide_false, List.nodup_nil, List.nodup_cons, oks_p, oks_m, oks_h, ne_eq, not_false_eq_true, Int.reduceEq, Int.reduceNe, true_and, Nat.reduceSub, Nat.reduceMul, ↓reduceIte, reduceCtorEq, Nat.reduceEqDiff, Nat.reduceAdd, Nat.reduceLeDiff, Int.reduceLE, cZ2]
    all_goals simp [qL, qJ, qJ0, qS, qX, qR, qM, Shp, sub, tupd, VS1, VS2, VS3, VS4, VS5, VS6, VT1, VT2, V45]
def S_laws_eqIntSL1 (aZ0 : List Int) (bZ0 : List Int) (v : Int) : St := ⟨[(0, .lst .o 1 (aZ0.map AV.i)), (1, .lst .o 1 (bZ0.map AV.i)), (5, .i v)], []⟩
def SX_laws_eqIntSL1 (v : Unit) : St := ⟨[], []⟩
theorem w_laws_eqIntSL1 (aZ0 : List Int) (bZ0 : List Int) (sZ2 : Int) (o : Int ⊕ (Unit ⊕ Bool)) (h : M_laws_eqIntSL1 aZ0 bZ0 sZ2 = some o) : AWP (OkS Try.prog) A22L1 (qL [0, 1, 5] [] (S_laws_eqIntSL1 aZ0 bZ0) (qS (qX 0 [] [] (SX_laws_eqIntSL1)) (qR V22 (fun r => .b r))) o) (S_laws_eqIntSL1 aZ0 bZ0 sZ2) := by
  unfold M_laws_eqIntSL1 at h
  simp only [S_laws_eqIntSL1, A22L1]
  refine Or.elim (bt (decide (sZ2 < (aZ0.length : Int)))) (fun cZ3 => ?_) (fun cZ3 => ?_)
  · replace h := cond_t cZ3 h
    obtain ⟨yZ4, hyZ4, h⟩ := bind_s h
    obtain ⟨hyZ4a, hyZ4b⟩ := geti_s hyZ4
    obtain ⟨yZ5, hyZ5, h⟩ := bind_s h
    obtain ⟨hyZ5a, hyZ5b⟩ := geti_s hyZ5
    refine Or.elim (bt (yZ4 != yZ5)) (fun cZ6 => ?_) (fun cZ6 => ?_)
    · replace h := cond_t cZ6 h
      cases h
      try simp only [VS1, VS2, VS3, VS4, VS5, VS6, VT1, VT2, finM_ret, finM_nrm, decide_true, decide_false, List.nodup_nil, List.nodup_cons, oks_p, oks_m, oks_h, ne_eq, not_false_eq_true, Int.reduceEq, Int.reduceNe, true_and, Nat.reduceSub, Nat.reduceMul, ↓reduceIte, reduceCtorEq, Nat.reduceEqDiff, Nat.reduceAdd, Nat.reduceLeDiff, Int.reduceLE, cZ3, hyZ4a, hyZ4b, hyZ5a, hyZ5b, cZ6]
      all_goals simp [qL, qJ, qJ0, qS, qX, qR, qM, Shp, sub, tupd, VS1, VS2, VS3, VS4, VS5, VS6, VT1, VT2, V22]
    · replace h := cond_f cZ6 h
      cases h
      try simp only [VS1, VS2, VS3, VS4, VS5, VS6, VT1, VT2, finM_ret, finM_nrm, decide_true, decide_false, List.nodup_nil, List.nodup_cons, oks_p, oks_m, oks_h, ne_eq, not_false_eq_true, Int.reduceEq, Int.reduceNe, true_and, Nat.reduceSub, Nat.reduceMul, ↓reduceIte, reduceCtorEq, Nat.reduceEqDiff, Nat.reduceAdd, Nat.reduceLeDiff, Int.reduceLE, cZ3, hyZ4a, hyZ4b, hyZ5a, hyZ5b, cZ6]
      all_goals simp [qL, qJ, qJ0, qS, qX, qR, qM, Shp, sub, tupd, VS1, VS2, VS3, VS4, VS5, VS6, VT1, VT2, S_laws_eqIntSL1, SX_laws_eqIntSL1]
  · replace h := cond_f cZ3 h
    cases h
    try simp only [VS1, VS2, VS3, VS4, VS5, VS6, VT1, VT2, finM_ret, finM_nrm, decide_true, decide_false, List.nodup_nil, List.nodup_cons, oks_p, oks_m, oks_h, ne_eq, not_false_eq_true, Int.reduceEq, Int.reduceNe, true_and, Nat.reduceSub, Nat.reduceMul, ↓reduceIte, reduceCtorEq, Nat.reduceEqDiff, Nat.reduceAdd, Nat.reduceLeDiff, Int.reduceLE, cZ3]
    all_goals simp [qL, qJ, qJ0, qS, qX, qR, qM, Shp, sub, tupd, VS1, VS2, VS3, VS4, VS5, VS6, VT1, VT2, S_laws_eqIntSL1, SX_laws_eqIntSL1]
theorem w_laws_eqIntS (aZ0 : List Int) (bZ0 : List Int) {r : Bool} (h : M_laws_eqIntS aZ0 bZ0 = some r) : Ok Try.prog 22 [.lst .o 1 (aZ0.map AV.i), .lst .o 1 (bZ0.map AV.i)] ((fun r => .b r) r) := by
  refine ok_of_body hmix m22 rfl ?_
  unfold M_laws_eqIntS at h
  simp only [A22, V22, body_eq]
  refine Or.elim (bt ((aZ0.length : Int) != (bZ0.length : Int))) (fun cZ1 => ?_) (fun cZ1 => ?_)
  · replace h := cond_t cZ1 h
    cases h
    try simp only [VS1, VS2, VS3, VS4, VS5, VS6, VT1, VT2, finM_ret, finM_nrm, decide_true, decide_false, List.nodup_nil, List.nodup_cons, oks_p, oks_m, oks_h, ne_eq, not_false_eq_true, Int.reduceEq, Int.reduceNe, true_and, Nat.reduceSub, Nat.reduceMul, ↓reduceIte, reduceCtorEq, Nat.reduceEqDiff, Nat.reduceAdd, Nat.reduceLeDiff, Int.reduceLE, cZ1]
    all_goals simp [qL, qJ, qJ0, qS, qX, qR, qM, Shp, sub, tupd, VS1, VS2, VS3, VS4, VS5, VS6, VT1, VT2, V22]
  · replace h := cond_f cZ1 h
    obtain ⟨oZ7, hoZ7, h⟩ := bind_s h
    try simp only [VS1, VS2, VS3, VS4, VS5, VS6, VT1, VT2, finM_ret, finM_nrm, decide_true, decide_false, List.nodup_nil, List.nodup_cons, oks_p, oks_m, oks_h, ne_eq, not_false_eq_true, Int.reduceEq, Int.reduceNe, true_and, Nat.reduceSub, Nat.reduceMul, ↓reduceIte, reduceCtorEq, Nat.reduceEqDiff, Nat.reduceAdd, Nat.reduceLeDiff, Int.reduceLE, cZ1]
    refine join_rule (o := oZ7) (blk_rule sideR (loop_rule (w_laws_eqIntSL1 aZ0 bZ0) hoZ7 ?_)) (fun vZ8 hv => ?_) (fun xZ9 hv e τ hne hq => ?_)
    · all_goals simp [qL, qJ, qJ0, qS, qX, qR, qM, Shp, sub, tupd, VS1, VS2, VS3, VS4, VS5, VS6, VT1, VT2, S_laws_eqIntSL1, SX_laws_eqIntSL1]
    · subst hv
      simp only [] at h
      simp only [SX_laws_eqIntSL1, A22R2]
      cases h
      try simp only [VS1, VS2, VS3, VS4, VS5, VS6, VT1, VT2, finM_ret, finM_nrm, decide_true, decide_false, List.nodup_nil, List.nodup_cons, oks_p, oks_m, oks_h, ne_eq, not_false_eq_true, Int.reduceEq, Int.reduceNe, true_and, Nat.reduceSub, Nat.reduceMul, ↓reduceIte, reduceCtorEq, Nat.reduceEqDiff, Nat.reduceAdd, Nat.reduceLeDiff, Int.reduceLE, cZ1]
      all_goals simp [qL, qJ, qJ0, qS, qX, qR, qM, Shp, sub, tupd, VS1, VS2, VS3, VS4, VS5, VS6, VT1, VT2, V22]
    · subst hv
      simp only [] at h
      obtain ⟨rfl, qZ10⟩ := hq
      cases h
      exact qZ10
def S_laws_eqIntSSL1 (aZ0 : List (List Int)) (bZ0 : List (List Int)) (v : Int) : St := ⟨[(0, .lst .o 1 (aZ0.map (e_Li .o))), (1, .lst .o 1 (bZ0.map (e_Li .o))), (5, .i v)], []⟩
def SX_laws_eqIntSSL1 (v : Unit) : St := ⟨[], []⟩
theorem w_laws_eqIntSSL1 (aZ0 : List (List Int)) (bZ0 : List (List Int)) (sZ2 : Int) (o : Int ⊕ (Unit ⊕ Bool)) (h : M_laws_eqIntSSL1 aZ0 bZ0 sZ2 = some o) : AWP (OkS Try.prog) A40L1 (qL [0, 1, 5] [] (S_laws_eqIntSSL1 aZ0 bZ0) (qS (qX 0 [] [] (SX_laws_eqIntSSL1)) (qR V40 (fun r => .b r))) o) (S_laws_eqIntSSL1 aZ0 bZ0 sZ2) := by
  unfold M_laws_eqIntSSL1 at h
  simp only [S_laws_eqIntSSL1, A40L1]
  refine Or.elim (bt (decide (sZ2 < (aZ0.length : Int)))) (fun cZ3 => ?_) (fun cZ3 => ?_)
  · replace h := cond_t cZ3 h
    obtain ⟨yZ4, hyZ4, h⟩ := bind_s h
    obtain ⟨hyZ4a, hyZ4b⟩ := geti_s hyZ4
    obtain ⟨yZ5, hyZ5, h⟩ := bind_s h
    obtain ⟨hyZ5a, hyZ5b⟩ := geti_s hyZ5
    obtain ⟨rZ6, hrZ6, h⟩ := bind_s h
    simp only [VS1, VS2, VS3, VS4, VS5, VS6, VT1, VT2, finM_ret, finM_nrm, decide_true, decide_false, List.nodup_nil, List.nodup_cons, oks_p, oks_m, oks_h, ne_eq, not_false_eq_true, Int.reduceEq, Int.reduceNe, true_and, Nat.reduceSub, Nat.reduceMul, ↓reduceIte, reduceCtorEq, Nat.reduceEqDiff, Nat.reduceAdd, Nat.reduceLeDiff, Int.reduceLE, cZ3, hyZ4a, hyZ4b, hyZ5a, hyZ5b]
    refine call_s (by simp only [VS1, VS2, VS3, VS4, VS5, VS6, VT1, VT2, finM_ret, finM_nrm, decide_true, decide_false, List.nodup_nil, List.nodup_cons, oks_p, oks_m, oks_h, ne_eq, not_false_eq_true, Int.reduceEq, Int.reduceNe, true_and, Nat.reduceSub, Nat.reduceMul, ↓reduceIte, reduceCtorEq, Nat.reduceEqDiff, Nat.reduceAdd, Nat.reduceLeDiff, Int.reduceLE, cZ3, hyZ4a, hyZ4b, hyZ5a, hyZ5b]; exact w_laws_eqIntS _ _ hrZ6 ) ?_
    simp only [VA, VF1, ↓reduceIte, Nat.reduceEqDiff, Nat.reduceAdd, Nat.reduceMul, Nat.reduceSub, Nat.reduceLeDiff]
    refine Or.elim (bt (!rZ6)) (fun cZ7 => ?_) (fun cZ7 => ?_)
    · replace h := cond_t cZ7 h
      cases h
      try simp only [VS1, VS2, VS3, VS4, VS5, VS6, VT1, VT2, finM_ret, finM_nrm, decide_true, decide_false, List.nodup_nil, List.nodup_cons, oks_p, oks_m, oks_h, ne_eq, not_false_eq_true, Int.reduceEq, Int.reduceNe, true_and, Nat.reduceSub, Nat.reduceMul, ↓reduceIte, reduceCtorEq, Nat.reduceEqDiff, Nat.reduceAdd, Nat.reduceLeDiff, Int.reduceLE, cZ3, hyZ4a, hyZ4b, hyZ5a, hyZ5b, cZ7]
      all_goals simp [qL, qJ, qJ0, qS, qX, qR, qM, Shp, sub, tupd, VS1, VS2, VS3, VS4, VS5, VS6, VT1, VT2, V40]
    · replace h := cond_f cZ7 h
      cases h
      try simp only [VS1, VS2, VS3, VS4, VS5, VS6, VT1, VT2, finM_ret, finM_nrm, decide_true, decide_false, List.nodup_nil, List.nodup_cons, oks_p, oks_m, oks_h, ne_eq, not_false_eq_true, Int.reduceEq, Int.reduceNe, true_and, Nat.reduceSub, Nat.reduceMul, ↓reduceIte, reduceCtorEq, Nat.reduceEqDiff, Nat.reduceAdd, Nat.reduceLeDiff, Int.reduceLE, cZ3, hyZ4a, hyZ4b, hyZ5a, hyZ5b, cZ7]
      all_goals simp [qL, qJ, qJ0, qS, qX, qR, qM, Shp, sub, tupd, VS1, VS2, VS3, VS4, VS5, VS6, VT1, VT2, S_laws_eqIntSSL1, SX_laws_eqIntSSL1]
  · replace h := cond_f cZ3 h
    cases h
    try simp only [VS1, VS2, VS3, VS4, VS5, VS6, VT1, VT2, finM_ret, finM_nrm, decide_true, decide_false, List.nodup_nil, List.nodup_cons, oks_p, oks_m, oks_h, ne_eq, not_false_eq_true, Int.reduceEq, Int.reduceNe, true_and, Nat.reduceSub, Nat.reduceMul, ↓reduceIte, reduceCtorEq, Nat.reduceEqDiff, Nat.reduceAdd, Nat.reduceLeDiff, Int.reduceLE, cZ3]
    all_goals simp [qL, qJ, qJ0, qS, qX, qR, qM, Shp, sub, tupd, VS1, VS2, VS3, VS4, VS5, VS6, VT1, VT2, S_laws_eqIntSSL1, SX_laws_eqIntSSL1]
theorem w_laws_eqIntSS (aZ0 : List (List Int)) (bZ0 : List (List Int)) {r : Bool} (h : M_laws_eqIntSS aZ0 bZ0 = some r) : Ok Try.prog 40 [.lst .o 1 (aZ0.map (e_Li .o)), .lst .o 1 (bZ0.map (e_Li .o))] ((fun r => .b r) r) := by
  refine ok_of_body hmix m40 rfl ?_
  unfold M_laws_eqIntSS at h
  simp only [A40, V40, body_eq]
  refine Or.elim (bt ((aZ0.length : Int) != (bZ0.length : Int))) (fun cZ1 => ?_) (fun cZ1 => ?_)
  · replace h := cond_t cZ1 h
    cases h
    try simp only [VS1, VS2, VS3, VS4, VS5, VS6, VT1, VT2, finM_ret, finM_nrm, decide_true, decide_false, List.nodup_nil, List.nodup_cons, oks_p, oks_m, oks_h, ne_eq, not_false_eq_true, Int.reduceEq, Int.reduceNe, true_and, Nat.reduceSub, Nat.reduceMul, ↓reduceIte, reduceCtorEq, Nat.reduceEqDiff, Nat.reduceAdd, Nat.reduceLeDiff, Int.reduceLE, cZ1]
    all_goals simp [qL, qJ, qJ0, qS, qX, qR, qM, Shp, sub, tupd, VS1, VS2, VS3, VS4, VS5, VS6, VT1, VT2, V40]
  · replace h := cond_f cZ1 h
    obtain ⟨oZ8, hoZ8, h⟩ := bind_s h
    try simp only [VS1, VS2, VS3, VS4, VS5, VS6, VT1, VT2, finM_ret, finM_nrm, decide_true, decide_false, List.nodup_nil, List.nodup_cons, oks_p, oks_m, oks_h, ne_eq, not_false_eq_true, Int.reduceEq, Int.reduceNe, true_and, Nat.reduceSub, Nat.reduceMul, ↓reduceIte, reduceCtorEq, Nat.reduceEqDiff, Nat.reduceAdd, Nat.reduceLeDiff, Int.reduceLE, cZ1]
    refine join_rule (o := oZ8) (blk_rule sideR (loop_rule (w_laws_eqIntSSL1 aZ0 bZ0) hoZ8 ?_)) (fun vZ9 hv => ?_) (fun xZ10 hv e τ hne hq => ?_)
    · all_goals simp [qL, qJ, qJ0, qS, qX, qR, qM, Shp, sub, tupd, VS1, VS2, VS3, VS4, VS5, VS6, VT1, VT2, S_laws_eqIntSSL1, SX_laws_eqIntSSL1]
    · subst hv
      simp only [] at h
      simp only [SX_laws_eqIntSSL1, A40R2]
      cases h
      try simp only [VS1, VS2, VS3, VS4, VS5, VS6, VT1, VT2, finM_ret, finM_nrm, decide_true, decide_false, List.nodup_nil, List.nodup_cons, oks_p, oks_m, oks_h, ne_eq, not_false_eq_true, Int.reduceEq, Int.reduceNe, true_and, Nat.reduceSub, Nat.reduceMul, ↓reduceIte, reduceCtorEq, Nat.reduceEqDiff, Nat.reduceAdd, Nat.reduceLeDiff, Int.reduceLE, cZ1]
      all_goals simp [qL, qJ, qJ0, qS, qX, qR, qM, Shp, sub, tupd, VS1, VS2, VS3, VS4, VS5, VS6, VT1, VT2, V40]
    · subst hv
      simp only [] at h
      obtain ⟨rfl, qZ11⟩ := hq
      cases h
      exact qZ11
theorem w_laws_eqLink (aZ0 : TLink) (bZ0 : TLink) {r : Bool} (h : M_laws_eqLink aZ0 bZ0 = some r) : Ok Try.prog 74 [.agg [.i aZ0.A, .i aZ0.B, .i aZ0.Capacity], .agg [.i bZ0.A, .i bZ0.B, .i bZ0.Capacity]] ((fun r => .b r) r) := by
  refine ok_of_body hmix m74 rfl ?_
  unfold M_laws_eqLink at h
  simp only [A74, V74, body_eq]
  refine Or.elim (bt (aZ0.A != bZ0.A)) (fun cZ1 => ?_) (fun cZ1 => ?_)
  · replace h := cond_t cZ1 h
    cases h
    try simp only [VS1, VS2, VS3, VS4, VS5, VS6, VT1, VT2, finM_ret, finM_nrm, decide_true, decide_false, List.nodup_nil, List.nodup_cons, oks_p, oks_m, oks_h, ne_eq, not_false_eq_true, Int.reduceEq, Int.reduceNe, true_and, Nat.reduceSub, Nat.reduceMul, ↓reduceIte, reduceCtorEq, Nat.reduceEqDiff, Nat.reduceAdd, Nat.reduceLeDiff, Int.reduceLE, cZ1]
    all_goals simp [qL, qJ, qJ0, qS, qX, qR, qM, Shp, sub, tupd, VS1, VS2, VS3, VS4, VS5, VS6, VT1, VT2, V74]
  · replace h := cond_f cZ1 h
    refine Or.elim (bt (aZ0.B != bZ0.B)) (fun cZ2 => ?_) (fun cZ2 => ?_)
    · replace h := cond_t cZ2 h
      cases h
      try simp only [VS1, VS2, VS3, VS4, VS5, VS6, VT1, VT2, finM_ret, finM_nrm, decide_true, decide_false, List.nodup_nil, List.nodup_cons, oks_p, oks_m, oks_h, ne_eq, not_false_eq_true, Int.reduceEq, Int.reduceNe, true_and, Nat.reduceSub, Nat.reduceMul, ↓reduceIte, reduceCtorEq, Nat.reduceEqDiff, Nat.reduceAdd, Nat.reduceLeDiff, Int.reduceLE, cZ1, cZ2]
      all_goals simp [qL, qJ, qJ0, qS, qX, qR, qM, Shp, sub, tupd, VS1, VS2, VS3, VS4, VS5, VS6, VT1, VT2, V74]
    · replace h := cond_f cZ2 h
      refine Or.elim (bt (aZ0.Capacity != bZ0.Capacity)) (fun cZ3 => ?_) (fun cZ3 => ?_)
      · replace h := cond_t cZ3 h
        cases h
        try simp only [VS1, VS2, VS3, VS4, VS5, VS6, VT1, VT2, finM_ret, finM_nrm, decide_true, decide_false, List.nodup_nil, List.nodup_cons, oks_p, oks_m, oks_h, ne_eq, not_false_eq_true, Int.reduceEq, Int.reduceNe, true_and, Nat.reduceSub, Nat.reduceMul, ↓reduceIte, reduceCtorEq, Nat.reduceEqDiff, Nat.reduceAdd, Nat.reduceLeDiff, Int.reduceLE, cZ1, cZ2, cZ3]
        all_goals simp [qL, qJ, qJ0, qS, qX, qR, qM, Shp, sub, tupd, VS1, VS2, VS3, VS4, VS5, VS6, VT1, VT2, V74]
      · replace h := cond_f cZ3 h
        cases h
        try simp only [VS1, VS2, VS3, VS4, VS5, VS6, VT1, VT2, finM_ret, finM_nrm, decide_true, decide_false, List.nodup_nil, List.nodup_cons, oks_p, oks_m, oks_h, ne_eq, not_false_eq_true, Int.reduceEq, Int.reduceNe, true_and, Nat.reduceSub, Nat.reduceMul, ↓reduceIte, reduceCtorEq, Nat.reduceEqDiff, Nat.reduceAdd, Nat.reduceLeDiff, Int.reduceLE, cZ1, cZ2, cZ3]
        all_goals simp [qL, qJ, qJ0, qS, qX, qR, qM, Shp, sub, tupd, VS1, VS2, VS3, VS4, VS5, VS6, VT1, VT2, V74]
def S_laws_eqLinkSL1 (aZ0 : List TLink) (bZ0 : List TLink) (v : Int) : St := ⟨[(0, .lst .o 3 (aZ0.map (e_TLink .o))), (1, .lst .o 3 (bZ0.map (e_TLink .o))), (5, .i v)], []⟩
def SX_laws_eqLinkSL1 (v : Unit) : St := ⟨[], []⟩
theorem w_laws_eqLinkSL1 (aZ0 : List TLink) (bZ0 : List TLink) (sZ2 : Int) (o : Int ⊕ (Unit ⊕ Bool)) (h : M_laws_eqLinkSL1 aZ0 bZ0 sZ2 = some o) : AWP (OkS Try.prog) A30L1 (qL [0, 1, 5] [] (S_laws_eqLinkSL1 aZ0 bZ0) (qS (qX 0 [] [] (SX_laws_eqLinkSL1)) (qR V30 (fun r => .b r))) o) (S_laws_eqLinkSL1 aZ0 bZ0 sZ2) := by
  unfold M_laws_eqLinkSL1 at h
  simp only [S_laws_eqLinkSL1, A30L1]
  refine Or.elim (bt (decide (sZ2 < (aZ0.length : Int)))) (fun cZ3 => ?_) (fun cZ3 => ?_)
  · replace h := cond_t cZ3 h
    obtain ⟨yZ4, hyZ4, h⟩ := bind_s h
    obtain ⟨hyZ4a, hyZ4b⟩ := geti_s hyZ4
    obtain ⟨yZ5, hyZ5, h⟩ := bind_s h
    obtain ⟨hyZ5a, hyZ5b⟩ := geti_s hyZ5
    obtain ⟨rZ6, hrZ6, h⟩ := bind_s h
    simp only [VS1, VS2, VS3, VS4, VS5, VS6, VT1, VT2, finM_ret, finM_nrm, decide_true, decide_false, List.nodup_nil, List.nodup_cons, oks_p, oks_m, oks_h, ne_eq, not_false_eq_true, Int.reduceEq, Int.reduceNe, true_and, Nat.reduceSub, Nat.reduceMul, ↓reduceIte, reduceCtorEq, Nat.reduceEqDiff, Nat.reduceAdd, Nat.reduceLeDiff, Int.reduceLE, cZ3, hyZ4a, hyZ4b, hyZ5a, hyZ5b]
    refine call_s (by simp only [VS1, VS2, VS3, VS4, VS5, VS6, VT1, VT2, finM_ret, finM_nrm, decide_true, decide_false, List.nodup_nil, List.nodup_cons, oks_p, oks_m, oks_h, ne_eq, not_false_eq_true, Int.reduceEq, Int.reduceNe, true_and, Nat.reduceSub, Nat.reduceMul, ↓reduceIte, reduceCtorEq, Nat.reduceEqDiff, Nat.reduceAdd, Nat.reduceLeDiff, Int.reduceLE, cZ3, hyZ4a, hyZ4b, hyZ5a, hyZ5b]; exact w_laws_eqLink _ _ hrZ6 ) ?_
    simp only [VA, VF1, ↓reduceIte, Nat.reduceEqDiff, Nat.reduceAdd, Nat.reduceMul, Nat.reduceSub, Nat.reduceLeDiff]
    refine Or.elim (bt (!rZ6)) (fun cZ7 => ?_) (fun cZ7 => ?_)
    · replace h := cond_t cZ7 h
      cases h
      try simp only [VS1, VS2, VS3, VS4, VS5, VS6, VT1, VT2, finM_ret, finM_nrm, decide_true, decide_false, List.nodup_nil, List.nodup_cons, oks_p, oks_m, oks_h, ne_eq, not_false_eq_true, Int.reduceEq, Int.reduceNe, true_and, Nat.reduceSub, Nat.reduceMul, ↓reduceIte, reduceCtorEq, Nat.reduceEqDiff, Nat.reduceAdd, Nat.reduceLeDiff, Int.reduceLE, cZ3, hyZ4a, hyZ4b, hyZ5a, hyZ5b, cZ7]
      all_goals simp [qL, qJ, qJ0, qS, qX, qR, qM, Shp, sub, tupd, VS1, VS2, VS3, VS4, VS5, VS6, VT1, VT2, V30]
    · replace h := cond_f cZ7 h
      cases h
      try simp only [VS1, VS2, VS3, VS4, VS5, VS6, VT1, VT2, finM_ret, finM_nrm, decide_true, decide_false, List.nodup_nil, List.nodup_cons, oks_p, oks_m, oks_h, ne_eq, not_false_eq_true, Int.reduceEq, Int.reduceNe, true_and, Nat.reduceSub, Nat.reduceMul, ↓reduceIte, reduceCtorEq, Nat.reduceEqDiff, Nat.reduceAdd, Nat.reduceLeDiff, Int.reduceLE, cZ3, hyZ4a, hyZ4b, hyZ5a, hyZ5b, cZ7]
      all_goals simp [qL, qJ, qJ0, qS, qX, qR, qM, Shp, sub, tupd, VS1, VS2, VS3, VS4, VS5, VS6, VT1, VT2, S_laws_eqLinkSL1, SX_laws_eqLinkSL1]
  · replace h := cond_f cZ3 h
    cases h
    try simp only [VS1, VS2, VS3, VS4, VS5, VS6, VT1, VT2, finM_ret, finM_nrm, decide_true, decide_false, List.nodup_nil, List.nodup_cons, oks_p, oks_m, oks_h, ne_eq, not_false_eq_true, Int.reduceEq, Int.reduceNe, true_and, Nat.reduceSub, Nat.reduceMul, ↓reduceIte, reduceCtorEq, Nat.reduceEqDiff, Nat.reduceAdd, Nat.reduceLeDiff, Int.reduceLE, cZ3]
    all_goals simp [qL, qJ, qJ0, qS, qX, qR, qM, Shp, sub, tupd, VS1, VS2, VS3, VS4, VS5, VS6, VT1, VT2, S_laws_eqLinkSL1, SX_laws_eqLinkSL1]
theorem w_laws_eqLinkS (aZ0 : List TLink) (bZ0 : List TLink) {r : Bool} (h : M_laws_eqLinkS aZ0 bZ0 = some r) : Ok Try.prog 30 [.lst .o 3 (aZ0.map (e_TLink .o)), .lst .o 3 (bZ0.map (e_TLink .o))] ((fun r => .b r) r) := by
  refine ok_of_body hmix m30 rfl ?_
  unfold M_laws_eqLinkS at h
  simp only [A30, V30, body_eq]
  refine Or.elim (bt ((aZ0.length : Int) != (bZ0.length : Int))) (fun cZ1 => ?_) (fun cZ1 => ?_)
  · replace h := cond_t cZ1 h
    cases h
    try simp only [VS1, VS2, VS3, VS4, VS5, VS6, VT1, VT2, finM_ret, finM_nrm, decide_true, decide_false, List.nodup_nil, List.nodup_cons, oks_p, oks_m, oks_h, ne_eq, not_false_eq_true, Int.reduceEq, Int.reduceNe, true_and, Nat.reduceSub, Nat.reduceMul, ↓reduceIte, reduceCtorEq, Nat.reduceEqDiff, Nat.reduceAdd, Nat.reduceLeDiff, Int.reduceLE, cZ1]
    all_goals simp [qL, qJ, qJ0, qS, qX, qR, qM, Shp, sub, tupd, VS1, VS2, VS3, VS4, VS5, VS6, VT1, VT2, V30]
  · replace h := cond_f cZ1 h
    obtain ⟨oZ8, hoZ8, h⟩ := bind_s h
    try simp only [VS1, VS2, VS3, VS4, VS5, VS6, VT1, VT2, finM_ret, finM_nrm, decide_true, decide_false, List.nodup_nil, List.nodup_cons, oks_p, oks_m, oks_h, ne_eq, not_false_eq_true, Int.reduceEq, Int.reduceNe, true_and, Nat.reduceSub, Nat.reduceMul, ↓reduceIte, reduceCtorEq, Nat.reduceEqDiff, Nat.reduceAdd, Nat.reduceLeDiff, Int.reduceLE, cZ1]
    refine join_rule (o := oZ8) (blk_rule sideR (loop_rule (w_laws_eqLinkSL1 aZ0 bZ0) hoZ8 ?_)) (fun vZ9 hv => ?_) (fun xZ10 hv e τ hne hq => ?_)
    · all_goals simp [qL, qJ, qJ0, qS, qX, qR, qM, Shp, sub, tupd, VS1, VS2, VS3, VS4, VS5, VS6, VT1, VT2, S_laws_eqLinkSL1, SX_laws_eqLinkSL1]
    · subst hv
      simp only [] at h
      simp only [SX_laws_eqLinkSL1, A30R2]
      cases h
      try simp only [VS1, VS2, VS3, VS4, VS5, VS6, VT1, VT2, finM_ret, finM_nrm, decide_true, decide_false, List.nodup_nil, List.nodup_cons, oks_p, oks_m, oks_h, ne_eq, not_false_eq_true, Int.reduceEq, Int.reduceNe, true_and, Nat.reduceSub, Nat.reduceMul, ↓reduceIte, reduceCtorEq, Nat.reduceEqDiff, Nat.reduceAdd, Nat.reduceLeDiff, Int.reduceLE, cZ1]
      all_goals simp [qL, qJ, qJ0, qS, qX, qR, qM, Shp, sub, tupd, VS1, VS2, VS3, VS4, VS5, VS6, VT1, VT2, V30]
    · subst hv
      simp only [] at h
      obtain ⟨rfl, qZ11⟩ := hq
      cases h
      exact qZ11
theorem w_laws_eqTributary (aZ0 : TTributary) (bZ0 : TTributary) {r : Bool} (h : M_laws_eqTributary aZ0 bZ0 = some r) : Ok Try.prog 59 [.agg [.i aZ0.From, .i aZ0.To, .i aZ0.Rate], .agg [.i bZ0.From, .i bZ0.To, .i bZ0.Rate]] ((fun r => .b r) r) := by
  refine ok_of_body hmix m59 rfl ?_
  unfold M_laws_eqTributary at h
  simp only [A59, V59, body_eq]
  refine Or.elim (bt (aZ0.From != bZ0.From)) (fun cZ1 => ?_) (fun cZ1 => ?_)
  · replace h := cond_t cZ1 h
    cases h
    try simp only [VS1, VS2, VS3, VS4, VS5, VS6, VT1, VT2, finM_ret, finM_nrm, decide_true, decide_false, List.nodup_nil, List.nodup_cons, oks_p, oks_m, oks_h, ne_eq, not_false_eq_true, Int.reduceEq, Int.reduceNe, true_and, Nat.reduceSub, Nat.reduceMul, ↓reduceIte, reduceCtorEq, Nat.reduceEqDiff, Nat.reduceAdd, Nat.reduceLeDiff, Int.reduceLE, cZ1]
    all_goals simp [qL, qJ, qJ0, qS, qX, qR, qM, Shp, sub, tupd, VS1, VS2, VS3, VS4, VS5, VS6, VT1, VT2, V59]
  · replace h := cond_f cZ1 h
    refine Or.elim (bt (aZ0.To != bZ0.To)) (fun cZ2 => ?_) (fun cZ2 => ?_)
    · replace h := cond_t cZ2 h
      cases h
      try simp only [VS1, VS2, VS3, VS4, VS5, VS6, VT1, VT2, finM_ret, finM_nrm, decide_true, decide_false, List.nodup_nil, List.nodup_cons, oks_p, oks_m, oks_h, ne_eq, not_false_eq_true, Int.reduceEq, Int.reduceNe, true_and, Nat.reduceSub, Nat.reduceMul, ↓reduceIte, reduceCtorEq, Nat.reduceEqDiff, Nat.reduceAdd, Nat.reduceLeDiff, Int.reduceLE, cZ1, cZ2]
      all_goals simp [qL, qJ, qJ0, qS, qX, qR, qM, Shp, sub, tupd, VS1, VS2, VS3, VS4, VS5, VS6, VT1, VT2, V59]
    · replace h := cond_f cZ2 h
      refine Or.elim (bt (aZ0.Rate != bZ0.Rate)) (fun cZ3 => ?_) (fun cZ3 => ?_)
      · replace h := cond_t cZ3 h
        cases h
        try simp only [VS1, VS2, VS3, VS4, VS5, VS6, VT1, VT2, finM_ret, finM_nrm, decide_true, decide_false, List.nodup_nil, List.nodup_cons, oks_p, oks_m, oks_h, ne_eq, not_false_eq_true, Int.reduceEq, Int.reduceNe, true_and, Nat.reduceSub, Nat.reduceMul, ↓reduceIte, reduceCtorEq, Nat.reduceEqDiff, Nat.reduceAdd, Nat.reduceLeDiff, Int.reduceLE, cZ1, cZ2, cZ3]
        all_goals simp [qL, qJ, qJ0, qS, qX, qR, qM, Shp, sub, tupd, VS1, VS2, VS3, VS4, VS5, VS6, VT1, VT2, V59]
      · replace h := cond_f cZ3 h
        cases h
        try simp only [VS1, VS2, VS3, VS4, VS5, VS6, VT1, VT2, finM_ret, finM_nrm, decide_true, decide_false, List.nodup_nil, List.nodup_cons, oks_p, oks_m, oks_h, ne_eq, not_false_eq_true, Int.reduceEq, Int.reduceNe, true_and, Nat.reduceSub, Nat.reduceMul, ↓reduceIte, reduceCtorEq, Nat.reduceEqDiff, Nat.reduceAdd, Nat.reduceLeDiff, Int.reduceLE, cZ1, cZ2, cZ3]
        all_goals simp [qL, qJ, qJ0, qS, qX, qR, qM, Shp, sub, tupd, VS1, VS2, VS3, VS4, VS5, VS6, VT1, VT2, V59]
def S_laws_eqTributarySL1 (aZ0 : List TTributary) (bZ0 : List TTributary) (v : Int) : St := ⟨[(0, .lst .o 3 (aZ0.map (e_TTributary .o))), (1, .lst .o 3 (bZ0.map (e_TTributary .o))), (5, .i v)], []⟩
def SX_laws_eqTributarySL1 (v : Unit) : St := ⟨[], []⟩
theorem w_laws_eqTributarySL1 (aZ0 : List TTributary) (bZ0 : List TTributary) (sZ2 : Int) (o : Int ⊕ (Unit ⊕ Bool)) (h : M_laws_eqTributarySL1 aZ0 bZ0 sZ2 = some o) : AWP (OkS Try.prog) A18L1 (qL [0, 1, 5] [] (S_laws_eqTributarySL1 aZ0 bZ0) (qS (qX 0 [] [] (SX_laws_eqTributarySL1)) (qR V18 (fun r => .b r))) o) (S_laws_eqTributarySL1 aZ0 bZ0 sZ2) := by
  unfold M_laws_eqTributarySL1 at h
  simp only [S_laws_eqTributarySL1, A18L1]
  refine Or.elim (bt (decide (sZ2 < (aZ0.length : Int)))) (fun cZ3 => ?_) (fun cZ3 => ?_)
  · replace h := cond_t cZ3 h
    obtain ⟨yZ4, hyZ4, h⟩ := bind_s h
    obtain ⟨hyZ4a, hyZ4b⟩ := geti_s hyZ4
    obtain ⟨yZ5, hyZ5, h⟩ := bind_s h
    obtain ⟨hyZ5a, hyZ5b⟩ := geti_s hyZ5
    obtain ⟨rZ6, hrZ6, h⟩ := bind_s h
    simp only [VS1, VS2, VS3, VS4, VS5, VS6, VT1, VT2, finM_ret, finM_nrm, decide_true, decide_false, List.nodup_nil, List.nodup_cons, oks_p, oks_m, oks_h, ne_eq, not_false_eq_true, Int.reduceEq, Int.reduceNe, true_and, Nat.reduceSub, Nat.reduceMul, ↓reduceIte, reduceCtorEq, Nat.reduceEqDiff, Nat.reduceAdd, Nat.reduceLeDiff, Int.reduceLE, cZ3, hyZ4a, hyZ4b, hyZ5a, hyZ5b]
    refine call_s (by simp only [VS1, VS2, VS3, VS4, VS5, VS6, VT1, VT2, finM_ret, finM_nrm, decide_true, decide_false, List.nodup_nil, List.nodup_cons, oks_p, oks_m, oks_h, ne_eq, not_false_eq_true, Int.reduceEq, Int.reduceNe, true_and, Nat.reduceSub, Nat.reduceMul, ↓reduceIte, reduceCtorEq, Nat.reduceEqDiff, Nat.reduceAdd, Nat.reduceLeDiff, Int.reduceLE, cZ3, hyZ4a, hyZ4b, hyZ5a, hyZ5b]; exact w_laws_eqTributary _ _ hrZ6 ) ?_
    simp only [VA, VF1, ↓reduceIte, Nat.reduceEqDiff, Nat.reduceAdd, Nat.reduceMul, Nat.reduceSub, Nat.reduceLeDiff]
    refine Or.elim (bt (!rZ6)) (fun cZ7 => ?_) (fun cZ7 => ?_)
    · replace h := cond_t cZ7 h
      cases h
      try simp only [VS1, VS2, VS3, VS4, VS5, VS6, VT1, VT2, finM_ret, finM_nrm, decide_true, decide_false, List.nodup_nil, List.nodup_cons, oks_p, oks_m, oks_h, ne_eq, not_false_eq_true, Int.reduceEq, Int.reduceNe, true_and, Nat.reduceSub, Nat.reduceMul, ↓reduceIte, reduceCtorEq, Nat.reduceEqDiff, Nat.reduceAdd, Nat.reduceLeDiff, Int.reduceLE, cZ3, hyZ4a, hyZ4b, hyZ5a, hyZ5b, cZ7]
      all_goals simp [qL, qJ, qJ0, qS, qX, qR, qM, Shp, sub, tupd, VS1, VS2, VS3, VS4, VS5, VS6, VT1, VT2, V18]
    · replace h := cond_f cZ7 h
      cases h
      try simp only [VS1, VS2, VS3, VS4, VS5, VS6, VT1, VT2, finM_ret, finM_nrm, decide_true, decide_false, List.nodup_nil, List.nodup_cons, oks_p, oks_m, oks_h, ne_eq, not_false_eq_true, Int.reduceEq, Int.reduceNe, true_and, Nat.reduceSub, Nat.reduceMul, ↓reduceIte, reduceCtorEq, Nat.reduceEqDiff, Nat.reduceAdd, Nat.reduceLeDiff, Int.reduceLE, cZ3, hyZ4a, hyZ4b, hyZ5a, hyZ5b, cZ7]
      all_goals simp [qL, qJ, qJ0, qS, qX, qR, qM, Shp, sub, tupd, VS1, VS2, VS3, VS4, VS5, VS6, VT1, VT2, S_laws_eqTributarySL1, SX_laws_eqTributarySL1]
  · replace h := cond_f cZ3 h
    cases h
    try simp only [VS1, VS2, VS3, VS4, VS5, VS6, VT1, VT2, finM_ret, finM_nrm, decide_true, decide_false, List.nodup_nil, List.nodup_cons, oks_p, oks_m, oks_h, ne_eq, not_false_eq_true, Int.reduceEq, Int.reduceNe, true_and, Nat.reduceSub, Nat.reduceMul, ↓reduceIte, reduceCtorEq, Nat.reduceEqDiff, Nat.reduceAdd, Nat.reduceLeDiff, Int.reduceLE, cZ3]
    all_goals simp [qL, qJ, qJ0, qS, qX, qR, qM, Shp, sub, tupd, VS1, VS2, VS3, VS4, VS5, VS6, VT1, VT2, S_laws_eqTributarySL1, SX_laws_eqTributarySL1]
theorem w_laws_eqTributaryS (aZ0 : List TTributary) (bZ0 : List TTributary) {r : Bool} (h : M_laws_eqTributaryS aZ0 bZ0 = some r) : Ok Try.prog 18 [.lst .o 3 (aZ0.map (e_TTributary .o)), .lst .o 3 (bZ0.map (e_TTributary .o))] ((fun r => .b r) r) := by
  refine ok_of_body hmix m18 rfl ?_
  unfold M_laws_eqTributaryS at h
  simp only [A18, V18, body_eq]
  refine Or.elim (bt ((aZ0.length : Int) != (bZ0.length : Int))) (fun cZ1 => ?_) (fun cZ1 => ?_)
  · replace h := cond_t cZ1 h
    cases h
    try simp only [VS1, VS2, VS3, VS4, VS5, VS6, VT1, VT2, finM_ret, finM_nrm, decide_true, decide_false, List.nodup_nil, List.nodup_cons, oks_p, oks_m, oks_h, ne_eq, not_false_eq_true, Int.reduceEq, Int.reduceNe, true_and, Nat.reduceSub, Nat.reduceMul, ↓reduceIte, reduceCtorEq, Nat.reduceEqDiff, Nat.reduceAdd, Nat.reduceLeDiff, Int.reduceLE, cZ1]
    all_goals simp [qL, qJ, qJ0, qS, qX, qR, qM, Shp, sub, tupd, VS1, VS2, VS3, VS4, VS5, VS6, VT1, VT2, V18]
  · replace h := cond_f cZ1 h
    obtain ⟨oZ8, hoZ8, h⟩ := bind_s h
    try simp only [VS1, VS2, VS3, VS4, VS5, VS6, VT1, VT2, finM_ret, finM_nrm, decide_true, decide_false, List.nodup_nil, List.nodup_cons, oks_p, oks_m, oks_h, ne_eq, not_false_eq_true, Int.reduceEq, Int.reduceNe, true_and, Nat.reduceSub, Nat.reduceMul, ↓reduceIte, reduceCtorEq, Nat.reduceEqDiff, Nat.reduceAdd, Nat.reduceLeDiff, Int.reduceLE, cZ1]
    refine join_rule (o := oZ8) (blk_rule sideR (loop_rule (w_laws_eqTributarySL1 aZ0 bZ0) hoZ8 ?_)) (fun vZ9 hv => ?_) (fun xZ10 hv e τ hne hq => ?_)
    · all_goals simp [qL, qJ, qJ0, qS, qX, qR, qM, Shp, sub, tupd, VS1, VS2, VS3, VS4, VS5, VS6, VT1, VT2, S_laws_eqTributarySL1, SX_laws_eqTributarySL1]
    · subst hv
      simp only [] at h
      simp only [SX_laws_eqTributarySL1, A18R2]
      cases h
      try simp only [VS1, VS2, VS3, VS4, VS5, VS6, VT1, VT2, finM_ret, finM_nrm, decide_true, decide_false, List.nodup_nil, List.nodup_cons, oks_p, oks_m, oks_h, ne_eq, not_false_eq_true, Int.reduceEq, Int.reduceNe, true_and, Nat.reduceSub, Nat.reduceMul, ↓reduceIte, reduceCtorEq, Nat.reduceEqDiff, Nat.reduceAdd, Nat.reduceLeDiff, Int.reduceLE, cZ1]
      all_goals simp [qL, qJ, qJ0, qS, qX, qR, qM, Shp, sub, tupd, VS1, VS2, VS3, VS4, VS5, VS6, VT1, VT2, V18]
    · subst hv
      simp only [] at h
      obtain ⟨rfl, qZ11⟩ := hq
      cases h
      exact qZ11
def S_laws_markLinkSM1L1 (v : Int × Int × List TLink) : St := ⟨[(0, .sl 1000000000 0 v.2.2.length), (1, .i v.1), (5, .i v.2.1)], [(1000000000, .arr 3 (v.2.2.map (e_TLink .u)))]⟩
def SX_laws_markLinkSM1L1 (v : Int × List TLink) : St := ⟨[(1, .i v.1)], [(1000000000, .arr 3 (v.2.map (e_TLink .u)))]⟩
theorem w_laws_markLinkSM1L1 (sZ1 : Int × Int × List TLink) (o : (Int × Int × List TLink) ⊕ (Int × List TLink)) (h : M_laws_markLinkSM1L1 sZ1 = some o) : AWP (OkS Try.prog) A31M1L1 (qL [0, 1, 5] [1000000000] (S_laws_markLinkSM1L1) (qX 0 [1] [1000000000] (SX_laws_markLinkSM1L1)) o) (S_laws_markLinkSM1L1 sZ1) := by
  unfold M_laws_markLinkSM1L1 at h
  simp only [S_laws_markLinkSM1L1, A31M1L1]
  refine Or.elim (bt (decide (sZ1.2.1 < (sZ1.2.2.length : Int)))) (fun cZ2 => ?_) (fun cZ2 => ?_)
  · replace h := cond_t cZ2 h
    obtain ⟨kZ3, hkZ3, h⟩ := bind_s h
    obtain ⟨hkZ3a, hkZ3b⟩ := grd_s hkZ3
    obtain ⟨yZ4, hyZ4, h⟩ := bind_s h
    obtain ⟨lZ5, hlZ5, h⟩ := bnd_s h
    have eZ6 : (sZ1.2.2.map (e_TLink .u)).set (Int.toNat sZ1.2.1) (.agg [.i sZ1.1, .i yZ4.B, .i yZ4.Capacity]) = lZ5.map (e_TLink .u) := by rw [← hlZ5, List.map_set]; rfl
    obtain ⟨yZ7, hyZ7, h⟩ := bind_s h
    obtain ⟨lZ8, hlZ8, h⟩ := bnd_s h
    have eZ9 : (lZ5.map (e_TLink .u)).set (Int.toNat sZ1.2.1) (.agg [.i yZ7.A, .i (IntKind.wrap .i64 (sZ1.1 + 1)), .i yZ7.Capacity]) = lZ8.map (e_TLink .u) := by rw [← hlZ8, List.map_set]; rfl
    obtain ⟨yZ10, hyZ10, h⟩ := bind_s h
    obtain ⟨lZ11, hlZ11, h⟩ := bnd_s h
    have eZ12 : (lZ8.map (e_TLink .u)).set (Int.toNat sZ1.2.1) (.agg [.i yZ10.A, .i yZ10.B, .i (IntKind.wrap .i64 ((IntKind.wrap .i64 (sZ1.1 + 1)) + 1))]) = lZ11.map (e_TLink .u) := by rw [← hlZ11, List.map_set]; rfl
    cases h
    try simp only [VS1, VS2, VS3, VS4, VS5, VS6, VT1, VT2, finM_ret, finM_nrm, decide_true, decide_false, List.nodup_nil, List.nodup_cons, oks_p, oks_m, oks_h, ne_eq, not_false_eq_true, Int.reduceEq, Int.reduceNe, true_and, Nat.reduceSub, Nat.reduceMul, ↓reduceIte, reduceCtorEq, Nat.reduceEqDiff, Nat.reduceAdd, Nat.reduceLeDiff, Int.reduceLE, cZ2, hkZ3a, hkZ3b, hyZ4, eZ6, hyZ7, eZ9, hyZ10, eZ12]
    all_goals simp [qL, qJ, qJ0, qS, qX, qR, qM, Shp, sub, tupd, VS1, VS2, VS3, VS4, VS5, VS6, VT1, VT2, S_laws_markLinkSM1L1, SX_laws_markLinkSM1L1, ← hlZ5, ← hlZ8, ← hlZ11]
  · replace h := cond_f cZ2 h
    cases h
    try simp only [VS1, VS2, VS3, VS4, VS5, VS6, VT1, VT2, finM_ret, finM_nrm, decide_true, decide_false, List.nodup_nil, List.nodup_cons, oks_p, oks_m, oks_h, ne_eq, not_false_eq_true, Int.reduceEq, Int.reduceNe, true_and, Nat.reduceSub, Nat.reduceMul, ↓reduceIte, reduceCtorEq, Nat.reduceEqDiff, Nat.reduceAdd, Nat.reduceLeDiff, Int.reduceLE, cZ2]
    all_goals simp [qL, qJ, qJ0, qS, qX, qR, qM, Shp, sub, tupd, VS1, VS2, VS3, VS4, VS5, VS6, VT1, VT2, S_laws_markLinkSM1L1, SX_laws_markLinkSM1L1]
theorem w_laws_markLinkSM1 (aaZ0 : Int) (abZ0 : List TLink) {r : Int × List TLink} (h : M_laws_markLinkSM1 aaZ0 abZ0 = some r) : OkM Try.prog 31 [.sl 1000000000 0 abZ0.length, .i aaZ0] [(1000000000, .arr 3 (abZ0.map (e_TLink .u)))] ((fun (r : Int × List TLink) => .i r.1) r) ((fun (r : Int × List TLink) => [(1000000000, .arr 3 (r.2.map (e_TLink .u)))]) r) := by
  refine okM_of_body (lr := [1000000000]) hmix m31M1 rfl rfl ?_
  unfold M_laws_markLinkSM1 at h
  simp only [A31M1, V31M1]
  obtain ⟨oZ13, hoZ13, h⟩ := bind_s h
  try simp only [VS1, VS2, VS3, VS4, VS5, VS6, VT1, VT2, finM_ret, finM_nrm, decide_true, decide_false, List.nodup_nil, List.nodup_cons, oks_p, oks_m, oks_h, ne_eq, not_false_eq_true, Int.reduceEq, Int.reduceNe, true_and, Nat.reduceSub, Nat.reduceMul, ↓reduceIte, reduceCtorEq, Nat.reduceEqDiff, Nat.reduceAdd, Nat.reduceLeDiff, Int.reduceLE]
  refine join_rule0 (blk_rule0 (loop_rule (w_laws_markLinkSM1L1) hoZ13 ?_)) ?_
  · all_goals simp [qL, qJ, qJ0, qS, qX, qR, qM, Shp, sub, tupd, VS1, VS2, VS3, VS4, VS5, VS6, VT1, VT2, S_laws_markLinkSM1L1, SX_laws_markLinkSM1L1]
  · simp only [SX_laws_markLinkSM1L1, A31M1R2]
    cases h
    try simp only [VS1, VS2, VS3, VS4, VS5, VS6, VT1, VT2, finM_ret, finM_nrm, decide_true, decide_false, List.nodup_nil, List.nodup_cons, oks_p, oks_m, oks_h, ne_eq, not_false_eq_true, Int.reduceEq, Int.reduceNe, true_and, Nat.reduceSub, Nat.reduceMul, ↓reduceIte, reduceCtorEq, Nat.reduceEqDiff, Nat.reduceAdd, Nat.reduceLeDiff, Int.reduceLE]
    all_goals simp [qL, qJ, qJ0, qS, qX, qR, qM, Shp, sub, tupd, VS1, VS2, VS3, VS4, VS5, VS6, VT1, VT2, V31M1]
def S_laws_markTributarySM1L1 (v : Int × Int × List TTributary) : St := ⟨[(0, .sl 1000000000 0 v.2.2.length), (1, .i v.1), (5, .i v.2.1)], [(1000000000, .arr 3 (v.2.2.map (e_TTributary .u)))]⟩
def SX_laws_markTributarySM1L1 (v : Int × List TTributary) : St := ⟨[(1, .i v.1)], [(1000000000, .arr 3 (v.2.map (e_TTributary .u)))]⟩
theorem w_laws_markTributarySM1L1 (sZ1 : Int × Int × List TTributary) (o : (Int × Int × List TTributary) ⊕ (Int × List TTributary)) (h : M_laws_markTributarySM1L1 sZ1 = some o) : AWP (OkS Try.prog) A41M1L1 (qL [0, 1, 5] [1000000000] (S_laws_markTributarySM1L1) (qX 0 [1] [1000000000] (SX_laws_markTributarySM1L1)) o) (S_laws_markTributarySM1L1 sZ1) := by
  unfold M_laws_markTributarySM1L1 at h
  simp only [S_laws_markTributarySM1L1, A41M1L1]
  refine Or.elim (bt (decide (sZ1.2.1 < (sZ1.2.2.length : Int)))) (fun cZ2 => ?_) (fun cZ2 => ?_)
  · replace h := cond_t cZ2 h
    obtain ⟨kZ3, hkZ3, h⟩ := bind_s h
    obtain ⟨hkZ3a, hkZ3b⟩ := grd_s hkZ3
    obtain ⟨yZ4, hyZ4, h⟩ := bind_s h
    obtain ⟨lZ5, hlZ5, h⟩ := bnd_s h
    have eZ6 : (sZ1.2.2.map (e_TTributary .u)).set (Int.toNat sZ1.2.1) (.agg [.i sZ1.1, .i yZ4.To, .i yZ4.Rate]) = lZ5.map (e_TTributary .u) := by rw [← hlZ5, List.map_set]; rfl
    obtain ⟨yZ7, hyZ7, h⟩ := bind_s h
    obtain ⟨lZ8, hlZ8, h⟩ := bnd_s h
    have eZ9 : (lZ5.map (e_TTributary .u)).set (Int.toNat sZ1.2.1) (.agg [.i yZ7.From, .i (IntKind.wrap .i64 (sZ1.1 + 1)), .i yZ7.Rate]) = lZ8.map (e_TTributary .u) := by rw [← hlZ8, List.map_set]; rfl
    obtain ⟨yZ10, hyZ10, h⟩ := bind_s h
    obtain ⟨lZ11, hlZ11, h⟩ := bnd_s h
    have eZ12 : (lZ8.map (e_TTributary .u)).set (Int.toNat sZ1.2.1) (.agg [.i yZ10.From, .i yZ10.To, .i (IntKind.wrap .i64 ((IntKind.wrap .i64 (sZ1.1 + 1)) + 1))]) = lZ11.map (e_TTributary .u) := by rw [← hlZ11, List.map_set]; rfl
    cases h
    try simp only [VS1, VS2, VS3, VS4, VS5, VS6, VT1, VT2, finM_ret, finM_nrm, decide_true, decide_false, List.nodup_nil, List.nodup_cons, oks_p, oks_m, oks_h, ne_eq, not_false_eq_true, Int.reduceEq, Int.reduceNe, true_and, Nat.reduceSub, Nat.reduceMul, ↓reduceIte, reduceCtorEq, Nat.reduceEqDiff, Nat.reduceAdd, Nat.reduceLeDiff, Int.reduceLE, cZ2, hkZ3a, hkZ3b, hyZ4, eZ6, hyZ7, eZ9, hyZ10, eZ12]
    all_goals simp [qL, qJ, qJ0, qS, qX, qR, qM, Shp, sub, tupd, VS1, VS2, VS3, VS4, VS5, VS6, VT1, VT2, S_laws_markTributarySM1L1, SX_laws_markTributarySM1L1, ← hlZ5, ← hlZ8, ← hlZ11]
  · replace h := cond_f cZ2 h
    cases h
    try simp only [VS1, VS2, VS3, VS4, VS5, VS6, VT1, VT2, finM_ret, finM_nrm, decide_true, decide_false, List.nodup_nil, List.nodup_cons, oks_p, oks_m, oks_h, ne_eq, not_false_eq_true, Int.reduceEq, Int.reduceNe, true_and, Nat.reduceSub, Nat.reduceMul, ↓reduceIte, reduceCtorEq, Nat.reduceEqDiff, Nat.reduceAdd, Nat.reduceLeDiff, Int.reduceLE, cZ2]
    all_goals simp [qL, qJ, qJ0, qS, qX, qR, qM, Shp, sub, tupd, VS1, VS2, VS3, VS4, VS5, VS6, VT1, VT2, S_laws_markTributarySM1L1, SX_laws_markTributarySM1L1]
theorem w_laws_markTributarySM1 (aaZ0 : Int) (abZ0 : List TTributary) {r : Int × List TTributary} (h : M_laws_markTributarySM1 aaZ0 abZ0 = some r) : OkM Try.prog 41 [.sl 1000000000 0 abZ0.length, .i aaZ0] [(1000000000, .arr 3 (abZ0.map (e_TTributary .u)))] ((fun (r : Int × List TTributary) => .i r.1) r) ((fun (r : Int × List TTributary) => [(1000000000, .arr 3 (r.2.map (e_TTributary .u)))]) r) := by
  refine okM_of_body (lr := [1000000000]) hmix m41M1 rfl rfl ?_
  unfold M_laws_markTributarySM1 at h
  simp only [A41M1, V41M1]
  obtain ⟨oZ13, hoZ13, h⟩ := bind_s h
  try simp only [VS1, VS2, VS3, VS4, VS5, VS6, VT1, VT2, finM_ret, finM_nrm, decide_true, decide_false, List.nodup_nil, List.nodup_cons, oks_p, oks_m, oks_h, ne_eq, not_false_eq_true, Int.reduceEq, Int.reduceNe, true_and, Nat.reduceSub, Nat.reduceMul, ↓reduceIte, reduceCtorEq, Nat.reduceEqDiff, Nat.reduceAdd, Nat.reduceLeDiff, Int.reduceLE]
  refine join_rule0 (blk_rule0 (loop_rule (w_laws_markTributarySM1L1) hoZ13 ?_)) ?_
  · all_goals simp [qL, qJ, qJ0, qS, qX, qR, qM, Shp, sub, tupd, VS1, VS2, VS3, VS4, VS5, VS6, VT1, VT2, S_laws_markTributarySM1L1, SX_laws_markTributarySM1L1]
  · simp only [SX_laws_markTributarySM1L1, A41M1R2]
    cases h
    try simp only [VS1, VS2, VS3, VS4, VS5, VS6, VT1, VT2, finM_ret, finM_nrm, decide_true, decide_false, List.nodup_nil, List.nodup_cons, oks_p, oks_m, oks_h, ne_eq, not_false_eq_true, Int.reduceEq, Int.reduceNe, true_and, Nat.reduceSub, Nat.reduceMul, ↓reduceIte, reduceCtorEq, Nat.reduceEqDiff, Nat.reduceAdd, Nat.reduceLeDiff, Int.reduceLE]
    all_goals simp [qL, qJ, qJ0, qS, qX, qR, qM, Shp, sub, tupd, VS1, VS2, VS3, VS4, VS5, VS6, VT1, VT2, V41M1]
def S_laws_markIntSM1L1 (v : Int × Int × List Int) : St := ⟨[(0, .sl 1000000000 0 v.2.2.length), (1, .i v.1), (5, .i v.2.1)], [(1000000000, .arr 1 (v.2.2.map AV.i))]⟩
def SX_laws_markIntSM1L1 (v : Int × List Int) : St := ⟨[(1, .i v.1)], [(1000000000, .arr 1 (v.2.map AV.i))]⟩
theorem w_laws_markIntSM1L1 (sZ1 : Int × Int × List Int) (o : (Int × Int × List Int) ⊕ (Int × List Int)) (h : M_laws_markIntSM1L1 sZ1 = some o) : AWP (OkS Try.prog) A23M1L1 (qL [0, 1, 5] [1000000000] (S_laws_markIntSM1L1) (qX 0 [1] [1000000000] (SX_laws_markIntSM1L1)) o) (S_laws_markIntSM1L1 sZ1) := by
  unfold M_laws_markIntSM1L1 at h
  simp only [S_laws_markIntSM1L1, A23M1L1]
  refine Or.elim (bt (decide (sZ1.2.1 < (sZ1.2.2.length : Int)))) (fun cZ2 => ?_) (fun cZ2 => ?_)
  · replace h := cond_t cZ2 h
    obtain ⟨kZ3, hkZ3, h⟩ := bind_s h
    obtain ⟨hkZ3a, hkZ3b⟩ := grd_s hkZ3
    obtain ⟨yZ4, hyZ4, h⟩ := bind_s h
    obtain ⟨lZ5, hlZ5, h⟩ := bnd_s h
    have eZ6 : (sZ1.2.2.map AV.i).set (Int.toNat sZ1.2.1) (.i sZ1.1) = lZ5.map AV.i := by rw [← hlZ5, List.map_set]
    cases h
    try simp only [VS1, VS2, VS3, VS4, VS5, VS6, VT1, VT2, finM_ret, finM_nrm, decide_true, decide_false, List.nodup_nil, List.nodup_cons, oks_p, oks_m, oks_h, ne_eq, not_false_eq_true, Int.reduceEq, Int.reduceNe, true_and, Nat.reduceSub, Nat.reduceMul, ↓reduceIte, reduceCtorEq, Nat.reduceEqDiff, Nat.reduceAdd, Nat.reduceLeDiff, Int.reduceLE, cZ2, hkZ3a, hkZ3b, hyZ4, eZ6]
    all_goals simp [qL, qJ, qJ0, qS, qX, qR, qM, Shp, sub, tupd, VS1, VS2, VS3, VS4, VS5, VS6, VT1, VT2, S_laws_markIntSM1L1, SX_laws_markIntSM1L1, ← hlZ5]
  · replace h := cond_f cZ2 h
    cases h
    try simp only [VS1, VS2, VS3, VS4, VS5, VS6, VT1, VT2, finM_ret, finM_nrm, decide_true, decide_false, List.nodup_nil, List.nodup_cons, oks_p, oks_m, oks_h, ne_eq, not_false_eq_true, Int.reduceEq, Int.reduceNe, true_and, Nat.reduceSub, Nat.reduceMul, ↓reduceIte, reduceCtorEq, Nat.reduceEqDiff, Nat.reduceAdd, Nat.reduceLeDiff, Int.reduceLE, cZ2]
    all_goals simp [qL, qJ, qJ0, qS, qX, qR, qM, Shp, sub, tupd, VS1, VS2, VS3, VS4, VS5, VS6, VT1, VT2, S_laws_markIntSM1L1, SX_laws_markIntSM1L1]
theorem w_laws_markIntSM1 (aaZ0 : Int) (abZ0 : List Int) {r : Int × List Int} (h : M_laws_markIntSM1 aaZ0 abZ0 = some r) : OkM Try.prog 23 [.sl 1000000000 0 abZ0.length, .i aaZ0] [(1000000000, .arr 1 (abZ0.map AV.i))] ((fun (r : Int × List Int) => .i r.1) r) ((fun (r : Int × List Int) => [(1000000000, .arr 1 (r.2.map AV.i))]) r) := by
  refine okM_of_body (lr := [1000000000]) hmix m23M1 rfl rfl ?_
  unfold M_laws_markIntSM1 at h
  simp only [A23M1, V23M1]
  obtain ⟨oZ7, hoZ7, h⟩ := bind_s h
  try simp only [VS1, VS2, VS3, VS4, VS5, VS6, VT1, VT2, finM_ret, finM_nrm, decide_true, decide_false, List.nodup_nil, List.nodup_cons, oks_p, oks_m, oks_h, ne_eq, not_false_eq_true, Int.reduceEq, Int.reduceNe, true_and, Nat.reduceSub, Nat.reduceMul, ↓reduceIte, reduceCtorEq, Nat.reduceEqDiff, Nat.reduceAdd, Nat.reduceLeDiff, Int.reduceLE]
  refine join_rule0 (blk_rule0 (loop_rule (w_laws_markIntSM1L1) hoZ7 ?_)) ?_
  · all_goals simp [qL, qJ, qJ0, qS, qX, qR, qM, Shp, sub, tupd, VS1, VS2, VS3, VS4, VS5, VS6, VT1, VT2, S_laws_markIntSM1L1, SX_laws_markIntSM1L1]
  · simp only [SX_laws_markIntSM1L1, A23M1R2]
    cases h
    try simp only [VS1, VS2, VS3, VS4, VS5, VS6, VT1, VT2, finM_ret, finM_nrm, decide_true, decide_false, List.nodup_nil, List.nodup_cons, oks_p, oks_m, oks_h, ne_eq, not_false_eq_true, Int.reduceEq, Int.reduceNe, true_and, Nat.reduceSub, Nat.reduceMul, ↓reduceIte, reduceCtorEq, Nat.reduceEqDiff, Nat.reduceAdd, Nat.reduceLeDiff, Int.reduceLE]
    all_goals simp [qL, qJ, qJ0, qS, qX, qR, qM, Shp, sub, tupd, VS1, VS2, VS3, VS4, VS5, VS6, VT1, VT2, V23M1]
def S_laws_markIntSSM1L1 (v : Int × Int × List (List Int)) : St := ⟨[(0, .sl 1000000000 0 v.2.2.length), (1, .i v.1), (5, .i v.2.1)], [(1000000000, .arr 1 (v.2.2.map (e_Li .u)))]⟩
def SX_laws_markIntSSM1L1 (v : Int × List (List Int)) : St := ⟨[(1, .i v.1)], [(1000000000, .arr 1 (v.2.map (e_Li .u)))]⟩
theorem w_laws_markIntSSM1L1 (sZ1 : Int × Int × List (List Int)) (o : (Int × Int × List (List Int)) ⊕ (Int × List (List Int))) (h : M_laws_markIntSSM1L1 sZ1 = some o) : AWP (OkS Try.prog) A42M1L1 (qL [0, 1, 5] [1000000000] (S_laws_markIntSSM1L1) (qX 0 [1] [1000000000] (SX_laws_markIntSSM1L1)) o) (S_laws_markIntSSM1L1 sZ1) := by
  unfold M_laws_markIntSSM1L1 at h
  simp only [S_laws_markIntSSM1L1, A42M1L1]
  refine Or.elim (bt (decide (sZ1.2.1 < (sZ1.2.2.length : Int)))) (fun cZ2 => ?_) (fun cZ2 => ?_)
  · replace h := cond_t cZ2 h
    obtain ⟨kZ3, hkZ3, h⟩ := bind_s h
    obtain ⟨hkZ3a, hkZ3b⟩ := grd_s hkZ3
    obtain ⟨yZ4, hyZ4, h⟩ := bind_s h
    obtain ⟨rZ5, hrZ5, h⟩ := bind_s h
    obtain ⟨lZ6, hlZ6, h⟩ := bnd_s h
    have eZ7 : (sZ1.2.2.map (e_Li .u)).set (Int.toNat sZ1.2.1) (.lst .u 1 (rZ5.2.map AV.i)) = lZ6.map (e_Li .u) := by rw [← hlZ6, List.map_set]; rfl
    simp only [VS1, VS2, VS3, VS4, VS5, VS6, VT1, VT2, finM_ret, finM_nrm, decide_true, decide_false, List.nodup_nil, List.nodup_cons, oks_p, oks_m, oks_h, ne_eq, not_false_eq_true, Int.reduceEq, Int.reduceNe, true_and, Nat.reduceSub, Nat.reduceMul, ↓reduceIte, reduceCtorEq, Nat.reduceEqDiff, Nat.reduceAdd, Nat.reduceLeDiff, Int.reduceLE, cZ2, hkZ3a, hkZ3b, hyZ4]
    refine inn_s (v := .int .i64 rZ5.1) (ys' := rZ5.2.map AV.i) (z := .lst .u 1 (rZ5.2.map AV.i)) (by simp only [VS1, VS2, VS3, VS4, VS5, VS6, VT1, VT2, finM_ret, finM_nrm, decide_true, decide_false, List.nodup_nil, List.nodup_cons, oks_p, oks_m, oks_h, ne_eq, not_false_eq_true, Int.reduceEq, Int.reduceNe, true_and, Nat.reduceSub, Nat.reduceMul, ↓reduceIte, reduceCtorEq, Nat.reduceEqDiff, Nat.reduceAdd, Nat.reduceLeDiff, Int.reduceLE, cZ2, hkZ3a, hkZ3b, hyZ4]; exact w_laws_markIntSM1 _ _ hrZ5) (by simp [AV.flat, VT1, VT2]) (by simp [fz_mk, fz_sc, fz_lsto, fz_agg, fz_tup, fz_fn, fz_sl, fz_pt, fz_top, fzL_nil, fzL_cons, ou_sc, ou_lstu, ou_lsto, ou_agg, ouL_nil, ouL_cons, rfz_var, rfz_arr, rfz_dead, fzL_mi, fzL_mb, fzL_mz, fzL_m8, fzL_m64, ouL_m8, ouL_m64, ouL_mi, ouL_mb, ouL_mz, VZ1]) (by simp [VS1, VS2, VS3, VS4, VS5, VS6, VT1, VT2]) (by simp [AV.flat, VT1, VT2]) rfl ?_
    simp only [VA, VF1, ↓reduceIte, Nat.reduceEqDiff, Nat.reduceAdd, Nat.reduceMul, Nat.reduceSub, Nat.reduceLeDiff]
    cases h
    try simp only [VS1, VS2, VS3, VS4, VS5, VS6, VT1, VT2, finM_ret, finM_nrm, decide_true, decide_false, List.nodup_nil, List.nodup_cons, oks_p, oks_m, oks_h, ne_eq, not_false_eq_true, Int.reduceEq, Int.reduceNe, true_and, Nat.reduceSub, Nat.reduceMul, ↓reduceIte, reduceCtorEq, Nat.reduceEqDiff, Nat.reduceAdd, Nat.reduceLeDiff, Int.reduceLE, cZ2, hkZ3a, hkZ3b, hyZ4, eZ7]
    all_goals simp [qL, qJ, qJ0, qS, qX, qR, qM, Shp, sub, tupd, VS1, VS2, VS3, VS4, VS5, VS6, VT1, VT2, S_laws_markIntSSM1L1, SX_laws_markIntSSM1L1, ← hlZ6]
  · replace h := cond_f cZ2 h
    cases h
    try simp only [VS1, VS2, VS3, VS4, VS5, VS6, VT1, VT2, finM_ret, finM_nrm, decide_true, decide_false, List.nodup_nil, List.nodup_cons, oks_p, oks_m, oks_h, ne_eq, not_false_eq_true, Int.reduceEq, Int.reduceNe, true_and, Nat.reduceSub, Nat.reduceMul, ↓reduceIte, reduceCtorEq, Nat.reduceEqDiff, Nat.reduceAdd, Nat.reduceLeDiff, Int.reduceLE, cZ2]
    all_goals simp [qL, qJ, qJ0, qS, qX, qR, qM, Shp, sub, tupd, VS1, VS2, VS3, VS4, VS5, VS6, VT1, VT2, S_laws_markIntSSM1L1, SX_laws_markIntSSM1L1]
theorem w_laws_markIntSSM1 (aaZ0 : Int) (abZ0 : List (List Int)) {r : Int × List (List Int)} (h : M_laws_markIntSSM1 aaZ0 abZ0 = some r) : OkH Try.prog 42 [.sl 1000000000 0 abZ0.length, .i aaZ0] [(1000000000, .arr 1 (abZ0.map (e_Li .u)))] ((fun (r : Int × List (List Int)) => .i r.1) r) ((fun (r : Int × List (List Int)) => [(1000000000, .arr 1 (r.2.map (e_Li .u)))]) r) := by
  refine okH_of_body (lr := [1000000000]) hmix m42M1 rfl ?_
  unfold M_laws_markIntSSM1 at h
  simp only [A42M1, V42M1]
  obtain ⟨oZ8, hoZ8, h⟩ := bind_s h
  try simp only [VS1, VS2, VS3, VS4, VS5, VS6, VT1, VT2, finM_ret, finM_nrm, decide_true, decide_false, List.nodup_nil, List.nodup_cons, oks_p, oks_m, oks_h, ne_eq, not_false_eq_true, Int.reduceEq, Int.reduceNe, true_and, Nat.reduceSub, Nat.reduceMul, ↓reduceIte, reduceCtorEq, Nat.reduceEqDiff, Nat.reduceAdd, Nat.reduceLeDiff, Int.reduceLE]
  refine join_rule0 (blk_rule0 (loop_rule (w_laws_markIntSSM1L1) hoZ8 ?_)) ?_
  · all_goals simp [qL, qJ, qJ0, qS, qX, qR, qM, Shp, sub, tupd, VS1, VS2, VS3, VS4, VS5, VS6, VT1, VT2, S_laws_markIntSSM1L1, SX_laws_markIntSSM1L1]
  · simp only [SX_laws_markIntSSM1L1, A42M1R2]
    cases h
    try simp only [VS1, VS2, VS3, VS4, VS5, VS6, VT1, VT2, finM_ret, finM_nrm, decide_true, decide_false, List.nodup_nil, List.nodup_cons, oks_p, oks_m, oks_h, ne_eq, not_false_eq_true, Int.reduceEq, Int.reduceNe, true_and, Nat.reduceSub, Nat.reduceMul, ↓reduceIte, reduceCtorEq, Nat.reduceEqDiff, Nat.reduceAdd, Nat.reduceLeDiff, Int.reduceLE]
    all_goals simp [qL, qJ, qJ0, qS, qX, qR, qM, Shp, sub, tupd, VS1, VS2, VS3, VS4, VS5, VS6, VT1, VT2, V42M1]
def S_laws_heldIntSL1 (aZ0 : List Int) (v : Int × Int) : St := ⟨[(0, .lst .o 1 (aZ0.map AV.i)), (1, .i v.1), (5, .i v.2)], []⟩
def SX_laws_heldIntSL1 (v : Int) : St := ⟨[(1, .i v)], []⟩
theorem w_laws_heldIntSL1 (aZ0 : List Int) (sZ1 : Int × Int) (o : (Int × Int) ⊕ (Int ⊕ Int)) (h : M_laws_heldIntSL1 aZ0 sZ1 = some o) : AWP (OkS Try.prog) A24L1 (qL [0, 1, 5] [] (S_laws_heldIntSL1 aZ0) (qS (qX 0 [1] [] (SX_laws_heldIntSL1)) (qR V24 (fun r => .i r))) o) (S_laws_heldIntSL1 aZ0 sZ1) := by
  unfold M_laws_heldIntSL1 at h
  simp only [S_laws_heldIntSL1, A24L1]
  refine Or.elim (bt (decide (sZ1.2 < (aZ0.length : Int)))) (fun cZ2 => ?_) (fun cZ2 => ?_)
  · replace h := cond_t cZ2 h
    obtain ⟨yZ3, hyZ3, h⟩ := bind_s h
    obtain ⟨hyZ3a, hyZ3b⟩ := geti_s hyZ3
    refine Or.elim (bt (yZ3 != sZ1.1)) (fun cZ4 => ?_) (fun cZ4 => ?_)
    · replace h := cond_t cZ4 h
      cases h
      try simp only [VS1, VS2, VS3, VS4, VS5, VS6, VT1, VT2, finM_ret, finM_nrm, decide_true, decide_false, List.nodup_nil, List.nodup_cons, oks_p, oks_m, oks_h, ne_eq, not_false_eq_true, Int.reduceEq, Int.reduceNe, true_and, Nat.reduceSub, Nat.reduceMul, ↓reduceIte, reduceCtorEq, Nat.reduceEqDiff, Nat.reduceAdd, Nat.reduceLeDiff, Int.reduceLE, cZ2, hyZ3a, hyZ3b, cZ4]
      all_goals simp [qL, qJ, qJ0, qS, qX, qR, qM, Shp, sub, tupd, VS1, VS2, VS3, VS4, VS5, VS6, VT1, VT2, V24]
    · replace h := cond_f cZ4 h
      cases h
      try simp only [VS1, VS2, VS3, VS4, VS5, VS6, VT1, VT2, finM_ret, finM_nrm, decide_true, decide_false, List.nodup_nil, List.nodup_cons, oks_p, oks_m, oks_h, ne_eq, not_false_eq_true, Int.reduceEq, Int.reduceNe, true_and, Nat.reduceSub, Nat.reduceMul, ↓reduceIte, reduceCtorEq, Nat.reduceEqDiff, Nat.reduceAdd, Nat.reduceLeDiff, Int.reduceLE, cZ2, hyZ3a, hyZ3b, cZ4]
      all_goals simp [qL, qJ, qJ0, qS, qX, qR, qM, Shp, sub, tupd, VS1, VS2, VS3, VS4, VS5, VS6, VT1, VT2, S_laws_heldIntSL1, SX_laws_heldIntSL1]
  · replace h := cond_f cZ2 h
    cases h
    try simp only [VS1, VS2, VS3, VS4, VS5, VS6, VT1, VT2, finM_ret, finM_nrm, decide_true, decide_false, List.nodup_nil, List.nodup_cons, oks_p, oks_m, oks_h, ne_eq, not_false_eq_true, Int.reduceEq, Int.reduceNe, true_and, Nat.reduceSub, Nat.reduceMul, ↓reduceIte, reduceCtorEq, Nat.reduceEqDiff, Nat.reduceAdd, Nat.reduceLeDiff, Int.reduceLE, cZ2]
    all_goals simp [qL, qJ, qJ0, qS, qX, qR, qM, Shp, sub, tupd, VS1, VS2, VS3, VS4, VS5, VS6, VT1, VT2, S_laws_heldIntSL1, SX_laws_heldIntSL1]
theorem w_laws_heldIntS (aZ0 : List Int) (kZ0 : Int) {r : Int} (h : M_laws_heldIntS aZ0 kZ0 = some r) : Ok Try.prog 24 [.lst .o 1 (aZ0.map AV.i), .i kZ0] ((fun r => .i r) r) := by
  refine ok_of_body hmix m24 rfl ?_
  unfold M_laws_heldIntS at h
  simp only [A24, V24, body_eq]
  obtain ⟨oZ5, hoZ5, h⟩ := bind_s h
  try simp only [VS1, VS2, VS3, VS4, VS5, VS6, VT1, VT2, finM_ret, finM_nrm, decide_true, decide_false, List.nodup_nil, List.nodup_cons, oks_p, oks_m, oks_h, ne_eq, not_false_eq_true, Int.reduceEq, Int.reduceNe, true_and, Nat.reduceSub, Nat.reduceMul, ↓reduceIte, reduceCtorEq, Nat.reduceEqDiff, Nat.reduceAdd, Nat.reduceLeDiff, Int.reduceLE]
  refine join_rule (o := oZ5) (blk_rule sideR (loop_rule (w_laws_heldIntSL1 aZ0) hoZ5 ?_)) (fun vZ6 hv => ?_) (fun xZ7 hv e τ hne hq => ?_)
  · all_goals simp [qL, qJ, qJ0, qS, qX, qR, qM, Shp, sub, tupd, VS1, VS2, VS3, VS4, VS5, VS6, VT1, VT2, S_laws_heldIntSL1, SX_laws_heldIntSL1]
  · subst hv
    simp only [] at h
    simp only [SX_laws_heldIntSL1, A24R2]
    cases h
    try simp only [VS1, VS2, VS3, VS4, VS5, VS6, VT1, VT2, finM_ret, finM_nrm, decide_true, decide_false, List.nodup_nil, List.nodup_cons, oks_p, oks_m, oks_h, ne_eq, not_false_eq_true, Int.reduceEq, Int.reduceNe, true_and, Nat.reduceSub, Nat.reduceMul, ↓reduceIte, reduceCtorEq, Nat.reduceEqDiff, Nat.reduceAdd, Nat.reduceLeDiff, Int.reduceLE]
    all_goals simp [qL, qJ, qJ0, qS, qX, qR, qM, Shp, sub, tupd, VS1, VS2, VS3, VS4, VS5, VS6, VT1, VT2, V24]
  · subst hv
    simp only [] at h
    obtain ⟨rfl, qZ8⟩ := hq
    cases h
    exact qZ8
def S_laws_heldIntSSL1 (aZ0 : List (List Int)) (v : Int × Int) : St := ⟨[(0, .lst .o 1 (aZ0.map (e_Li .o))), (1, .i v.1), (5, .i v.2)], []⟩
def SX_laws_heldIntSSL1 (v : Int) : St := ⟨[(1, .i v)], []⟩
theorem w_laws_heldIntSSL1 (aZ0 : List (List Int)) (sZ1 : Int × Int) (o : (Int × Int) ⊕ (Int ⊕ Int)) (h : M_laws_heldIntSSL1 aZ0 sZ1 = some o) : AWP (OkS Try.prog) A48L1 (qL [0, 1, 5] [] (S_laws_heldIntSSL1 aZ0) (qS (qX 0 [1] [] (SX_laws_heldIntSSL1)) (qR V48 (fun r => .i r))) o) (S_laws_heldIntSSL1 aZ0 sZ1) := by
  unfold M_laws_heldIntSSL1 at h
  simp only [S_laws_heldIntSSL1, A48L1]
  refine Or.elim (bt (decide (sZ1.2 < (aZ0.length : Int)))) (fun cZ2 => ?_) (fun cZ2 => ?_)
  · replace h := cond_t cZ2 h
    obtain ⟨yZ3, hyZ3, h⟩ := bind_s h
    obtain ⟨hyZ3a, hyZ3b⟩ := geti_s hyZ3
    obtain ⟨rZ4, hrZ4, h⟩ := bind_s h
    simp only [VS1, VS2, VS3, VS4, VS5, VS6, VT1, VT2, finM_ret, finM_nrm, decide_true, decide_false, List.nodup_nil, List.nodup_cons, oks_p, oks_m, oks_h, ne_eq, not_false_eq_true, Int.reduceEq, Int.reduceNe, true_and, Nat.reduceSub, Nat.reduceMul, ↓reduceIte, reduceCtorEq, Nat.reduceEqDiff, Nat.reduceAdd, Nat.reduceLeDiff, Int.reduceLE, cZ2, hyZ3a, hyZ3b]
    refine call_s (by simp only [VS1, VS2, VS3, VS4, VS5, VS6, VT1, VT2, finM_ret, finM_nrm, decide_true, decide_false, List.nodup_nil, List.nodup_cons, oks_p, oks_m, oks_h, ne_eq, not_false_eq_true, Int.reduceEq, Int.reduceNe, true_and, Nat.reduceSub, Nat.reduceMul, ↓reduceIte, reduceCtorEq, Nat.reduceEqDiff, Nat.reduceAdd, Nat.reduceLeDiff, Int.reduceLE, cZ2, hyZ3a, hyZ3b]; exact w_laws_heldIntS _ _ hrZ4 ) ?_
    simp only [VA, VF1, ↓reduceIte, Nat.reduceEqDiff, Nat.reduceAdd, Nat.reduceMul, Nat.reduceSub, Nat.reduceLeDiff]
    refine Or.elim (bt (decide (rZ4 < 0))) (fun cZ5 => ?_) (fun cZ5 => ?_)
    · replace h := cond_t cZ5 h
      cases h
      try simp only [VS1, VS2, VS3, VS4, VS5, VS6, VT1, VT2, finM_ret, finM_nrm, decide_true, decide_false, List.nodup_nil, List.nodup_cons, oks_p, oks_m, oks_h, ne_eq, not_false_eq_true, Int.reduceEq, Int.reduceNe, true_and, Nat.reduceSub, Nat.reduceMul, ↓reduceIte, reduceCtorEq, Nat.reduceEqDiff, Nat.reduceAdd, Nat.reduceLeDiff, Int.reduceLE, cZ2, hyZ3a, hyZ3b, cZ5]
      all_goals simp [qL, qJ, qJ0, qS, qX, qR, qM, Shp, sub, tupd, VS1, VS2, VS3, VS4, VS5, VS6, VT1, VT2, V48]
    · replace h := cond_f cZ5 h
      cases h
      try simp only [VS1, VS2, VS3, VS4, VS5, VS6, VT1, VT2, finM_ret, finM_nrm, decide_true, decide_false, List.nodup_nil, List.nodup_cons, oks_p, oks_m, oks_h, ne_eq, not_false_eq_true, Int.reduceEq, Int.reduceNe, true_and, Nat.reduceSub, Nat.reduceMul, ↓reduceIte, reduceCtorEq, Nat.reduceEqDiff, Nat.reduceAdd, Nat.reduceLeDiff, Int.reduceLE, cZ2, hyZ3a, hyZ3b, cZ5]
      all_goals simp [qL, qJ, qJ0, qS, qX, qR, qM, Shp, sub, tupd, VS1, VS2, VS3, VS4, VS5, VS6, VT1, VT2, S_laws_heldIntSSL1, SX_laws_heldIntSSL1]
  · replace h := cond_f cZ2 h
    cases h
    try simp only [VS1, VS2, VS3, VS4, VS5, VS6, VT1, VT2, finM_ret, finM_nrm, decide_true, decide_false, List.nodup_nil, List.nodup_cons, oks_p, oks_m, oks_h, ne_eq, not_false_eq_true, Int.reduceEq, Int.reduceNe, true_and, Nat.reduceSub, Nat.reduceMul, ↓reduceIte, reduceCtorEq, Nat.reduceEqDiff, Nat.reduceAdd, Nat.reduceLeDiff, Int.reduceLE, cZ2]
    all_goals simp [qL, qJ, qJ0, qS, qX, qR, qM, Shp, sub, tupd, VS1, VS2, VS3, VS4, VS5, VS6, VT1, VT2, S_laws_heldIntSSL1, SX_laws_heldIntSSL1]
theorem w_laws_heldIntSS (aZ0 : List (List Int)) (kZ0 : Int) {r : Int} (h : M_laws_heldIntSS aZ0 kZ0 = some r) : Ok Try.prog 48 [.lst .o 1 (aZ0.map (e_Li .o)), .i kZ0] ((fun r => .i r) r) := by
  refine ok_of_body hmix m48 rfl ?_
  unfold M_laws_heldIntSS at h
  simp only [A48, V48, body_eq]
  obtain ⟨oZ6, hoZ6, h⟩ := bind_s h
  try simp only [VS1, VS2, VS3, VS4, VS5, VS6, VT1, VT2, finM_ret, finM_nrm, decide_true, decide_false, List.nodup_nil, List.nodup_cons, oks_p, oks_m, oks_h, ne_eq, not_false_eq_true, Int.reduceEq, Int.reduceNe, true_and, Nat.reduceSub, Nat.reduceMul, ↓reduceIte, reduceCtorEq, Nat.reduceEqDiff, Nat.reduceAdd, Nat.reduceLeDiff, Int.reduceLE]
  refine join_rule (o := oZ6) (blk_rule sideR (loop_rule (w_laws_heldIntSSL1 aZ0) hoZ6 ?_)) (fun vZ7 hv => ?_) (fun xZ8 hv e τ hne hq => ?_)
  · all_goals simp [qL, qJ, qJ0, qS, qX, qR, qM, Shp, sub, tupd, VS1, VS2, VS3, VS4, VS5, VS6, VT1, VT2, S_laws_heldIntSSL1, SX_laws_heldIntSSL1]
  · subst hv
    simp only [] at h
    simp only [SX_laws_heldIntSSL1, A48R2]
    cases h
    try simp only [VS1, VS2, VS3, VS4, VS5, VS6, VT1, VT2, finM_ret, finM_nrm, decide_true, decide_false, List.nodup_nil, List.nodup_cons, oks_p, oks_m, oks_h, ne_eq, not_false_eq_true, Int.reduceEq, Int.reduceNe, true_and, Nat.reduceSub, Nat.reduceMul, ↓reduceIte, reduceCtorEq, Nat.reduceEqDiff, Nat.reduceAdd, Nat.reduceLeDiff, Int.reduceLE]
    all_goals simp [qL, qJ, qJ0, qS, qX, qR, qM, Shp, sub, tupd, VS1, VS2, VS3, VS4, VS5, VS6, VT1, VT2, V48]
  · subst hv
    simp only [] at h
    obtain ⟨rfl, qZ9⟩ := hq
    cases h
    exact qZ9
theorem w_laws_FnExactGroomAll (aLinksZ0 : List TLink) (aNodesZ0 : Int) (aListZ0 : List TTributary) {r : Bool} (h : M_laws_FnExactGroomAll aLinksZ0 aNodesZ0 aListZ0 = some r) : Ok Try.prog 10 [.lst .o 3 (aLinksZ0.map (e_TLink .o)), .i aNodesZ0, .lst .o 3 (aListZ0.map (e_TTributary .o))] ((fun r => .b r) r) := by
  refine ok_of_body hmix m10 rfl ?_
  unfold M_laws_FnExactGroomAll at h
  simp only [A10, V10, body_eq]
  obtain ⟨rZ1, hrZ1, h⟩ := bind_s h
  simp only [VS1, VS2, VS3, VS4, VS5, VS6, VT1, VT2, finM_ret, finM_nrm, decide_true, decide_false, List.nodup_nil, List.nodup_cons, oks_p, oks_m, oks_h, ne_eq, not_false_eq_true, Int.reduceEq, Int.reduceNe, true_and, Nat.reduceSub, Nat.reduceMul, ↓reduceIte, reduceCtorEq, Nat.reduceEqDiff, Nat.reduceAdd, Nat.reduceLeDiff, Int.reduceLE]
  refine call_s (by simp only [VS1, VS2, VS3, VS4, VS5, VS6, VT1, VT2, finM_ret, finM_nrm, decide_true, decide_false, List.nodup_nil, List.nodup_cons, oks_p, oks_m, oks_h, ne_eq, not_false_eq_true, Int.reduceEq, Int.reduceNe, true_and, Nat.reduceSub, Nat.reduceMul, ↓reduceIte, reduceCtorEq, Nat.reduceEqDiff, Nat.reduceAdd, Nat.reduceLeDiff, Int.reduceLE]; exact w_laws_szLinkS _ _ hrZ1 ) ?_
  simp only [VA, VF1, ↓reduceIte, Nat.reduceEqDiff, Nat.reduceAdd, Nat.reduceMul, Nat.reduceSub, Nat.reduceLeDiff]
  refine Or.elim (bt (decide (rZ1 < 0))) (fun cZ2 => ?_) (fun cZ2 => ?_)
  · replace h := cond_t cZ2 h
    cases h
    try simp only [VS1, VS2, VS3, VS4, VS5, VS6, VT1, VT2, finM_ret, finM_nrm, decide_true, decide_false, List.nodup_nil, List.nodup_cons, oks_p, oks_m, oks_h, ne_eq, not_false_eq_true, Int.reduceEq, Int.reduceNe, true_and, Nat.reduceSub, Nat.reduceMul, ↓reduceIte, reduceCtorEq, Nat.reduceEqDiff, Nat.reduceAdd, Nat.reduceLeDiff, Int.reduceLE, cZ2]
    all_goals simp [qL, qJ, qJ0, qS, qX, qR, qM, Shp, sub, tupd, VS1, VS2, VS3, VS4, VS5, VS6, VT1, VT2, V10]
  · replace h := cond_f cZ2 h
    obtain ⟨rZ3, hrZ3, h⟩ := bind_s h
    simp only [VS1, VS2, VS3, VS4, VS5, VS6, VT1, VT2, finM_ret, finM_nrm, decide_true, decide_false, List.nodup_nil, List.nodup_cons, oks_p, oks_m, oks_h, ne_eq, not_false_eq_true, Int.reduceEq, Int.reduceNe, true_and, Nat.reduceSub, Nat.reduceMul, ↓reduceIte, reduceCtorEq, Nat.reduceEqDiff, Nat.reduceAdd, Nat.reduceLeDiff, Int.reduceLE, cZ2]
    refine call_s (by simp only [VS1, VS2, VS3, VS4, VS5, VS6, VT1, VT2, finM_ret, finM_nrm, decide_true, decide_false, List.nodup_nil, List.nodup_cons, oks_p, oks_m, oks_h, ne_eq, not_false_eq_true, Int.reduceEq, Int.reduceNe, true_and, Nat.reduceSub, Nat.reduceMul, ↓reduceIte, reduceCtorEq, Nat.reduceEqDiff, Nat.reduceAdd, Nat.reduceLeDiff, Int.reduceLE, cZ2]; exact w_laws_szTributaryS _ _ hrZ3 ) ?_
    simp only [VA, VF1, ↓reduceIte, Nat.reduceEqDiff, Nat.reduceAdd, Nat.reduceMul, Nat.reduceSub, Nat.reduceLeDiff]
    refine Or.elim (bt (decide (rZ3 < 0))) (fun cZ4 => ?_) (fun cZ4 => ?_)
    · replace h := cond_t cZ4 h
      cases h
      try simp only [VS1, VS2, VS3, VS4, VS5, VS6, VT1, VT2, finM_ret, finM_nrm, decide_true, decide_false, List.nodup_nil, List.nodup_cons, oks_p, oks_m, oks_h, ne_eq, not_false_eq_true, Int.reduceEq, Int.reduceNe, true_and, Nat.reduceSub, Nat.reduceMul, ↓reduceIte, reduceCtorEq, Nat.reduceEqDiff, Nat.reduceAdd, Nat.reduceLeDiff, Int.reduceLE, cZ2, cZ4]
      all_goals simp [qL, qJ, qJ0, qS, qX, qR, qM, Shp, sub, tupd, VS1, VS2, VS3, VS4, VS5, VS6, VT1, VT2, V10]
    · replace h := cond_f cZ4 h
      obtain ⟨rZ5, hrZ5, h⟩ := bind_s h
      simp only [VS1, VS2, VS3, VS4, VS5, VS6, VT1, VT2, finM_ret, finM_nrm, decide_true, decide_false, List.nodup_nil, List.nodup_cons, oks_p, oks_m, oks_h, ne_eq, not_false_eq_true, Int.reduceEq, Int.reduceNe, true_and, Nat.reduceSub, Nat.reduceMul, ↓reduceIte, reduceCtorEq, Nat.reduceEqDiff, Nat.reduceAdd, Nat.reduceLeDiff, Int.reduceLE, cZ2, cZ4]
      refine call_u (by simp only [VS1, VS2, VS3, VS4, VS5, VS6, VT1, VT2, finM_ret, finM_nrm, decide_true, decide_false, List.nodup_nil, List.nodup_cons, oks_p, oks_m, oks_h, ne_eq, not_false_eq_true, Int.reduceEq, Int.reduceNe, true_and, Nat.reduceSub, Nat.reduceMul, ↓reduceIte, reduceCtorEq, Nat.reduceEqDiff, Nat.reduceAdd, Nat.reduceLeDiff, Int.reduceLE, cZ2, cZ4]; exact w_laws_toLinkS _ hrZ5 ) (by simp [AV.allU, allUL, allUL_iff, VT1, VT2]) (by simp only [VS1, VS2, VS3, VS4, VS5, VS6, VT1, VT2, finM_ret, finM_nrm, decide_true, decide_false, List.nodup_nil, List.nodup_cons, oks_p, oks_m, oks_h, ne_eq, not_false_eq_true, Int.reduceEq, Int.reduceNe, true_and, Nat.reduceSub, Nat.reduceMul, ↓reduceIte, reduceCtorEq, Nat.reduceEqDiff, Nat.reduceAdd, Nat.reduceLeDiff, Int.reduceLE, Nat.reduceLT]) ?_
      simp only [VA, VF1, ↓reduceIte, Nat.reduceEqDiff, Nat.reduceAdd, Nat.reduceMul, Nat.reduceSub, Nat.reduceLeDiff]
      obtain ⟨rZ6, hrZ6, h⟩ := bind_s h
      simp only [VS1, VS2, VS3, VS4, VS5, VS6, VT1, VT2, finM_ret, finM_nrm, decide_true, decide_false, List.nodup_nil, List.nodup_cons, oks_p, oks_m, oks_h, ne_eq, not_false_eq_true, Int.reduceEq, Int.reduceNe, true_and, Nat.reduceSub, Nat.reduceMul, ↓reduceIte, reduceCtorEq, Nat.reduceEqDiff, Nat.reduceAdd, Nat.reduceLeDiff, Int.reduceLE, cZ2, cZ4]
      refine call_u (by simp only [VS1, VS2, VS3, VS4, VS5, VS6, VT1, VT2, finM_ret, finM_nrm, decide_true, decide_false, List.nodup_nil, List.nodup_cons, oks_p, oks_m, oks_h, ne_eq, not_false_eq_true, Int.reduceEq, Int.reduceNe, true_and, Nat.reduceSub, Nat.reduceMul, ↓reduceIte, reduceCtorEq, Nat.reduceEqDiff, Nat.reduceAdd, Nat.reduceLeDiff, Int.reduceLE, cZ2, cZ4]; exact w_laws_toTributaryS _ hrZ6 ) (by simp [AV.allU, allUL, allUL_iff, VT1, VT2]) (by simp only [VS1, VS2, VS3, VS4, VS5, VS6, VT1, VT2, finM_ret, finM_nrm, decide_true, decide_false, List.nodup_nil, List.nodup_cons, oks_p, oks_m, oks_h, ne_eq, not_false_eq_true, Int.reduceEq, Int.reduceNe, true_and, Nat.reduceSub, Nat.reduceMul, ↓reduceIte, reduceCtorEq, Nat.reduceEqDiff, Nat.reduceAdd, Nat.reduceLeDiff, Int.reduceLE, Nat.reduceLT]) ?_
      simp only [VA, VF1, ↓reduceIte, Nat.reduceEqDiff, Nat.reduceAdd, Nat.reduceMul, Nat.reduceSub, Nat.reduceLeDiff]
      obtain ⟨rZ7, hrZ7, h⟩ := bind_s h
      simp only [VS1, VS2, VS3, VS4, VS5, VS6, VT1, VT2, finM_ret, finM_nrm, decide_true, decide_false, List.nodup_nil, List.nodup_cons, oks_p, oks_m, oks_h, ne_eq, not_false_eq_true, Int.reduceEq, Int.reduceNe, true_and, Nat.reduceSub, Nat.reduceMul, ↓reduceIte, reduceCtorEq, Nat.reduceEqDiff, Nat.reduceAdd, Nat.reduceLeDiff, Int.reduceLE, cZ2, cZ4]
      refine call_u (by simp only [VS1, VS2, VS3, VS4, VS5, VS6, VT1, VT2, finM_ret, finM_nrm, decide_true, decide_false, List.nodup_nil, List.nodup_cons, oks_p, oks_m, oks_h, ne_eq, not_false_eq_true, Int.reduceEq, Int.reduceNe, true_and, Nat.reduceSub, Nat.reduceMul, ↓reduceIte, reduceCtorEq, Nat.reduceEqDiff, Nat.reduceAdd, Nat.reduceLeDiff, Int.reduceLE, cZ2, cZ4]; exact w_spec_GroomAll _ _ _ hrZ7 ) (by simp [AV.allU, allUL, allUL_iff, VT1, VT2]) (by simp only [VS1, VS2, VS3, VS4, VS5, VS6, VT1, VT2, finM_ret, finM_nrm, decide_true, decide_false, List.nodup_nil, List.nodup_cons, oks_p, oks_m, oks_h, ne_eq, not_false_eq_true, Int.reduceEq, Int.reduceNe, true_and, Nat.reduceSub, Nat.reduceMul, ↓reduceIte, reduceCtorEq, Nat.reduceEqDiff, Nat.reduceAdd, Nat.reduceLeDiff, Int.reduceLE, Nat.reduceLT]) ?_
      simp only [VA, VF1, ↓reduceIte, Nat.reduceEqDiff, Nat.reduceAdd, Nat.reduceMul, Nat.reduceSub, Nat.reduceLeDiff]
      obtain ⟨rZ8, hrZ8, h⟩ := bind_s h
      simp only [VS1, VS2, VS3, VS4, VS5, VS6, VT1, VT2, finM_ret, finM_nrm, decide_true, decide_false, List.nodup_nil, List.nodup_cons, oks_p, oks_m, oks_h, ne_eq, not_false_eq_true, Int.reduceEq, Int.reduceNe, true_and, Nat.reduceSub, Nat.reduceMul, ↓reduceIte, reduceCtorEq, Nat.reduceEqDiff, Nat.reduceAdd, Nat.reduceLeDiff, Int.reduceLE, cZ2, cZ4]
      refine call_u (by simp only [VS1, VS2, VS3, VS4, VS5, VS6, VT1, VT2, finM_ret, finM_nrm, decide_true, decide_false, List.nodup_nil, List.nodup_cons, oks_p, oks_m, oks_h, ne_eq, not_false_eq_true, Int.reduceEq, Int.reduceNe, true_and, Nat.reduceSub, Nat.reduceMul, ↓reduceIte, reduceCtorEq, Nat.reduceEqDiff, Nat.reduceAdd, Nat.reduceLeDiff, Int.reduceLE, cZ2, cZ4]; exact w_laws_toLinkS _ hrZ8 ) (by simp [AV.allU, allUL, allUL_iff, VT1, VT2]) (by simp only [VS1, VS2, VS3, VS4, VS5, VS6, VT1, VT2, finM_ret, finM_nrm, decide_true, decide_false, List.nodup_nil, List.nodup_cons, oks_p, oks_m, oks_h, ne_eq, not_false_eq_true, Int.reduceEq, Int.reduceNe, true_and, Nat.reduceSub, Nat.reduceMul, ↓reduceIte, reduceCtorEq, Nat.reduceEqDiff, Nat.reduceAdd, Nat.reduceLeDiff, Int.reduceLE, Nat.reduceLT]) ?_
      simp only [VA, VF1, ↓reduceIte, Nat.reduceEqDiff, Nat.reduceAdd, Nat.reduceMul, Nat.reduceSub, Nat.reduceLeDiff]
      obtain ⟨rZ9, hrZ9, h⟩ := bind_s h
      simp only [VS1, VS2, VS3, VS4, VS5, VS6, VT1, VT2, finM_ret, finM_nrm, decide_true, decide_false, List.nodup_nil, List.nodup_cons, oks_p, oks_m, oks_h, ne_eq, not_false_eq_true, Int.reduceEq, Int.reduceNe, true_and, Nat.reduceSub, Nat.reduceMul, ↓reduceIte, reduceCtorEq, Nat.reduceEqDiff, Nat.reduceAdd, Nat.reduceLeDiff, Int.reduceLE, cZ2, cZ4]
      refine call_u (by simp only [VS1, VS2, VS3, VS4, VS5, VS6, VT1, VT2, finM_ret, finM_nrm, decide_true, decide_false, List.nodup_nil, List.nodup_cons, oks_p, oks_m, oks_h, ne_eq, not_false_eq_true, Int.reduceEq, Int.reduceNe, true_and, Nat.reduceSub, Nat.reduceMul, ↓reduceIte, reduceCtorEq, Nat.reduceEqDiff, Nat.reduceAdd, Nat.reduceLeDiff, Int.reduceLE, cZ2, cZ4]; exact w_laws_toTributaryS _ hrZ9 ) (by simp [AV.allU, allUL, allUL_iff, VT1, VT2]) (by simp only [VS1, VS2, VS3, VS4, VS5, VS6, VT1, VT2, finM_ret, finM_nrm, decide_true, decide_false, List.nodup_nil, List.nodup_cons, oks_p, oks_m, oks_h, ne_eq, not_false_eq_true, Int.reduceEq, Int.reduceNe, true_and, Nat.reduceSub, Nat.reduceMul, ↓reduceIte, reduceCtorEq, Nat.reduceEqDiff, Nat.reduceAdd, Nat.reduceLeDiff, Int.reduceLE, Nat.reduceLT]) ?_
      simp only [VA, VF1, ↓reduceIte, Nat.reduceEqDiff, Nat.reduceAdd, Nat.reduceMul, Nat.reduceSub, Nat.reduceLeDiff]
      obtain ⟨rZ10, hrZ10, h⟩ := bind_s h
      simp only [VS1, VS2, VS3, VS4, VS5, VS6, VT1, VT2, finM_ret, finM_nrm, decide_true, decide_false, List.nodup_nil, List.nodup_cons, oks_p, oks_m, oks_h, ne_eq, not_false_eq_true, Int.reduceEq, Int.reduceNe, true_and, Nat.reduceSub, Nat.reduceMul, ↓reduceIte, reduceCtorEq, Nat.reduceEqDiff, Nat.reduceAdd, Nat.reduceLeDiff, Int.reduceLE, cZ2, cZ4]
      refine call_u (by simp only [VS1, VS2, VS3, VS4, VS5, VS6, VT1, VT2, finM_ret, finM_nrm, decide_true, decide_false, List.nodup_nil, List.nodup_cons, oks_p, oks_m, oks_h, ne_eq, not_false_eq_true, Int.reduceEq, Int.reduceNe, true_and, Nat.reduceSub, Nat.reduceMul, ↓reduceIte, reduceCtorEq, Nat.reduceEqDiff, Nat.reduceAdd, Nat.reduceLeDiff, Int.reduceLE, cZ2, cZ4]; exact w_impl_GroomAll _ _ _ hrZ10 ) (by simp [AV.allU, allUL, allUL_iff, VT1, VT2]) (by simp only [VS1, VS2, VS3, VS4, VS5, VS6, VT1, VT2, finM_ret, finM_nrm, decide_true, decide_false, List.nodup_nil, List.nodup_cons, oks_p, oks_m, oks_h, ne_eq, not_false_eq_true, Int.reduceEq, Int.reduceNe, true_and, Nat.reduceSub, Nat.reduceMul, ↓reduceIte, reduceCtorEq, Nat.reduceEqDiff, Nat.reduceAdd, Nat.reduceLeDiff, Int.reduceLE, Nat.reduceLT]) ?_
      simp only [VA, VF1, ↓reduceIte, Nat.reduceEqDiff, Nat.reduceAdd, Nat.reduceMul, Nat.reduceSub, Nat.reduceLeDiff]
      obtain ⟨oZ15, hoZ15, h⟩ := bind_s h
      try simp only [VS1, VS2, VS3, VS4, VS5, VS6, VT1, VT2, finM_ret, finM_nrm, decide_true, decide_false, List.nodup_nil, List.nodup_cons, oks_p, oks_m, oks_h, ne_eq, not_false_eq_true, Int.reduceEq, Int.reduceNe, true_and, Nat.reduceSub, Nat.reduceMul, ↓reduceIte, reduceCtorEq, Nat.reduceEqDiff, Nat.reduceAdd, Nat.reduceLeDiff, Int.reduceLE, cZ2, cZ4]
      refine join_rule0 (sh := (fun v => ⟨[(0, .lst .o 3 (aLinksZ0.map (e_TLink .o))), (1, .i aNodesZ0), (2, .lst .o 3 (aListZ0.map (e_TTributary .o))), (8, .sl 8 0 rZ7.1.length), (9, .sl 9 0 rZ7.2.1.length), (10, .b rZ7.2.2), (11, .sl 11 0 rZ8.length), (12, .sl 12 0 rZ9.length), (13, .sl 13 0 rZ10.1.length), (14, .sl 14 0 rZ10.2.1.length), (15, .b rZ10.2.2), (68, .b v)], [(8, .arr 1 (rZ7.1.map (e_Li .u))), (9, .arr 1 (rZ7.2.1.map AV.i)), (11, .arr 3 (rZ8.map (e_TLink .u))), (12, .arr 3 (rZ9.map (e_TTributary .u))), (13, .arr 1 (rZ10.1.map (e_Li .u))), (14, .arr 1 (rZ10.2.1.map AV.i))]⟩)) (s := oZ15) ?_ ?_
      · replace h := hoZ15
        obtain ⟨rZ11, hrZ11, h⟩ := bind_s h
        simp only [VS1, VS2, VS3, VS4, VS5, VS6, VT1, VT2, finM_ret, finM_nrm, decide_true, decide_false, List.nodup_nil, List.nodup_cons, oks_p, oks_m, oks_h, ne_eq, not_false_eq_true, Int.reduceEq, Int.reduceNe, true_and, Nat.reduceSub, Nat.reduceMul, ↓reduceIte, reduceCtorEq, Nat.reduceEqDiff, Nat.reduceAdd, Nat.reduceLeDiff, Int.reduceLE, cZ2, cZ4]
        refine call_s (by simp only [VS1, VS2, VS3, VS4, VS5, VS6, VT1, VT2, finM_ret, finM_nrm, decide_true, decide_false, List.nodup_nil, List.nodup_cons, oks_p, oks_m, oks_h, ne_eq, not_false_eq_true, Int.reduceEq, Int.reduceNe, true_and, Nat.reduceSub, Nat.reduceMul, ↓reduceIte, reduceCtorEq, Nat.reduceEqDiff, Nat.reduceAdd, Nat.reduceLeDiff, Int.reduceLE, cZ2, cZ4]; exact w_laws_eqIntSS _ _ hrZ11 ) ?_
        simp only [VA, VF1, ↓reduceIte, Nat.reduceEqDiff, Nat.reduceAdd, Nat.reduceMul, Nat.reduceSub, Nat.reduceLeDiff]
        refine Or.elim (bt (!rZ11)) (fun cZ12 => ?_) (fun cZ12 => ?_)
        · replace h := cond_t cZ12 h
          cases h
          try simp only [VS1, VS2, VS3, VS4, VS5, VS6, VT1, VT2, finM_ret, finM_nrm, decide_true, decide_false, List.nodup_nil, List.nodup_cons, oks_p, oks_m, oks_h, ne_eq, not_false_eq_true, Int.reduceEq, Int.reduceNe, true_and, Nat.reduceSub, Nat.reduceMul, ↓reduceIte, reduceCtorEq, Nat.reduceEqDiff, Nat.reduceAdd, Nat.reduceLeDiff, Int.reduceLE, cZ2, cZ4, cZ12]
          all_goals simp [qL, qJ, qJ0, qS, qX, qR, qM, Shp, sub, tupd, VS1, VS2, VS3, VS4, VS5, VS6, VT1, VT2]
        · replace h := cond_f cZ12 h
          obtain ⟨rZ13, hrZ13, h⟩ := bind_s h
          simp only [VS1, VS2, VS3, VS4, VS5, VS6, VT1, VT2, finM_ret, finM_nrm, decide_true, decide_false, List.nodup_nil, List.nodup_cons, oks_p, oks_m, oks_h, ne_eq, not_false_eq_true, Int.reduceEq, Int.reduceNe, true_and, Nat.reduceSub, Nat.reduceMul, ↓reduceIte, reduceCtorEq, Nat.reduceEqDiff, Nat.reduceAdd, Nat.reduceLeDiff, Int.reduceLE, cZ2, cZ4, cZ12]
          refine call_s (by simp only [VS1, VS2, VS3, VS4, VS5, VS6, VT1, VT2, finM_ret, finM_nrm, decide_true, decide_false, List.nodup_nil, List.nodup_cons, oks_p, oks_m, oks_h, ne_eq, not_false_eq_true, Int.reduceEq, Int.reduceNe, true_and, Nat.reduceSub, Nat.reduceMul, ↓reduceIte, reduceCtorEq, Nat.reduceEqDiff, Nat.reduceAdd, Nat.reduceLeDiff, Int.reduceLE, cZ2, cZ4, cZ12]; exact w_laws_eqIntS _ _ hrZ13 ) ?_
          simp only [VA, VF1, ↓reduceIte, Nat.reduceEqDiff, Nat.reduceAdd, Nat.reduceMul, Nat.reduceSub, Nat.reduceLeDiff]
          refine Or.elim (bt (!rZ13)) (fun cZ14 => ?_) (fun cZ14 => ?_)
          · replace h := cond_t cZ14 h
            cases h
            try simp only [VS1, VS2, VS3, VS4, VS5, VS6, VT1, VT2, finM_ret, finM_nrm, decide_true, decide_false, List.nodup_nil, List.nodup_cons, oks_p, oks_m, oks_h, ne_eq, not_false_eq_true, Int.reduceEq, Int.reduceNe, true_and, Nat.reduceSub, Nat.reduceMul, ↓reduceIte, reduceCtorEq, Nat.reduceEqDiff, Nat.reduceAdd, Nat.reduceLeDiff, Int.reduceLE, cZ2, cZ4, cZ12, cZ14]
            all_goals simp [qL, qJ, qJ0, qS, qX, qR, qM, Shp, sub, tupd, VS1, VS2, VS3, VS4, VS5, VS6, VT1, VT2]
          · replace h := cond_f cZ14 h
            cases h
            try simp only [VS1, VS2, VS3, VS4, VS5, VS6, VT1, VT2, finM_ret, finM_nrm, decide_true, decide_false, List.nodup_nil, List.nodup_cons, oks_p, oks_m, oks_h, ne_eq, not_false_eq_true, Int.reduceEq, Int.reduceNe, true_and, Nat.reduceSub, Nat.reduceMul, ↓reduceIte, reduceCtorEq, Nat.reduceEqDiff, Nat.reduceAdd, Nat.reduceLeDiff, Int.reduceLE, cZ2, cZ4, cZ12, cZ14]
            all_goals simp [qL, qJ, qJ0, qS, qX, qR, qM, Shp, sub, tupd, VS1, VS2, VS3, VS4, VS5, VS6, VT1, VT2]
      · simp only [A10R1]
        refine Or.elim (bt (oZ15)) (fun cZ16 => ?_) (fun cZ16 => ?_)
        · replace h := cond_t cZ16 h
          cases h
          try simp only [VS1, VS2, VS3, VS4, VS5, VS6, VT1, VT2, finM_ret, finM_nrm, decide_true, decide_false, List.nodup_nil, List.nodup_cons, oks_p, oks_m, oks_h, ne_eq, not_false_eq_true, Int.reduceEq, Int.reduceNe, true_and, Nat.reduceSub, Nat.reduceMul, ↓reduceIte, reduceCtorEq, Nat.reduceEqDiff, Nat.reduceAdd, Nat.reduceLeDiff, Int.reduceLE, cZ2, cZ4, cZ16]
          all_goals simp [qL, qJ, qJ0, qS, qX, qR, qM, Shp, sub, tupd, VS1, VS2, VS3, VS4, VS5, VS6, VT1, VT2, V10]
        · replace h := cond_f cZ16 h
          obtain ⟨rZ17, hrZ17, h⟩ := bind_s h
          simp only [VS1, VS2, VS3, VS4, VS5, VS6, VT1, VT2, finM_ret, finM_nrm, decide_true, decide_false, List.nodup_nil, List.nodup_cons, oks_p, oks_m, oks_h, ne_eq, not_false_eq_true, Int.reduceEq, Int.reduceNe, true_and, Nat.reduceSub, Nat.reduceMul, ↓reduceIte, reduceCtorEq, Nat.reduceEqDiff, Nat.reduceAdd, Nat.reduceLeDiff, Int.reduceLE, cZ2, cZ4, cZ16]
          refine call_u (by simp only [VS1, VS2, VS3, VS4, VS5, VS6, VT1, VT2, finM_ret, finM_nrm, decide_true, decide_false, List.nodup_nil, List.nodup_cons, oks_p, oks_m, oks_h, ne_eq, not_false_eq_true, Int.reduceEq, Int.reduceNe, true_and, Nat.reduceSub, Nat.reduceMul, ↓reduceIte, reduceCtorEq, Nat.reduceEqDiff, Nat.reduceAdd, Nat.reduceLeDiff, Int.reduceLE, cZ2, cZ4, cZ16]; exact w_laws_toLinkS _ hrZ17 ) (by simp [AV.allU, allUL, allUL_iff, VT1, VT2]) (by simp only [VS1, VS2, VS3, VS4, VS5, VS6, VT1, VT2, finM_ret, finM_nrm, decide_true, decide_false, List.nodup_nil, List.nodup_cons, oks_p, oks_m, oks_h, ne_eq, not_false_eq_true, Int.reduceEq, Int.reduceNe, true_and, Nat.reduceSub, Nat.reduceMul, ↓reduceIte, reduceCtorEq, Nat.reduceEqDiff, Nat.reduceAdd, Nat.reduceLeDiff, Int.reduceLE, Nat.reduceLT]) ?_
          simp only [VA, VF1, ↓reduceIte, Nat.reduceEqDiff, Nat.reduceAdd, Nat.reduceMul, Nat.reduceSub, Nat.reduceLeDiff]
          obtain ⟨rZ18, hrZ18, h⟩ := bind_s h
          simp only [VS1, VS2, VS3, VS4, VS5, VS6, VT1, VT2, finM_ret, finM_nrm, decide_true, decide_false, List.nodup_nil, List.nodup_cons, oks_p, oks_m, oks_h, ne_eq, not_false_eq_true, Int.reduceEq, Int.reduceNe, true_and, Nat.reduceSub, Nat.reduceMul, ↓reduceIte, reduceCtorEq, Nat.reduceEqDiff, Nat.reduceAdd, Nat.reduceLeDiff, Int.reduceLE, cZ2, cZ4, cZ16]
          refine call_s (by simp only [VS1, VS2, VS3, VS4, VS5, VS6, VT1, VT2, finM_ret, finM_nrm, decide_true, decide_false, List.nodup_nil, List.nodup_cons, oks_p, oks_m, oks_h, ne_eq, not_false_eq_true, Int.reduceEq, Int.reduceNe, true_and, Nat.reduceSub, Nat.reduceMul, ↓reduceIte, reduceCtorEq, Nat.reduceEqDiff, Nat.reduceAdd, Nat.reduceLeDiff, Int.reduceLE, cZ2, cZ4, cZ16]; exact w_laws_eqLinkS _ _ hrZ18 ) ?_
          simp only [VA, VF1, ↓reduceIte, Nat.reduceEqDiff, Nat.reduceAdd, Nat.reduceMul, Nat.reduceSub, Nat.reduceLeDiff]
          refine Or.elim (bt (!rZ18)) (fun cZ19 => ?_) (fun cZ19 => ?_)
          · replace h := cond_t cZ19 h
            cases h
            try simp only [VS1, VS2, VS3, VS4, VS5, VS6, VT1, VT2, finM_ret, finM_nrm, decide_true, decide_false, List.nodup_nil, List.nodup_cons, oks_p, oks_m, oks_h, ne_eq, not_false_eq_true, Int.reduceEq, Int.reduceNe, true_and, Nat.reduceSub, Nat.reduceMul, ↓reduceIte, reduceCtorEq, Nat.reduceEqDiff, Nat.reduceAdd, Nat.reduceLeDiff, Int.reduceLE, cZ2, cZ4, cZ16, cZ19]
            all_goals simp [qL, qJ, qJ0, qS, qX, qR, qM, Shp, sub, tupd, VS1, VS2, VS3, VS4, VS5, VS6, VT1, VT2, V10]
          · replace h := cond_f cZ19 h
            obtain ⟨rZ20, hrZ20, h⟩ := bind_s h
            simp only [VS1, VS2, VS3, VS4, VS5, VS6, VT1, VT2, finM_ret, finM_nrm, decide_true, decide_false, List.nodup_nil, List.nodup_cons, oks_p, oks_m, oks_h, ne_eq, not_false_eq_true, Int.reduceEq, Int.reduceNe, true_and, Nat.reduceSub, Nat.reduceMul, ↓reduceIte, reduceCtorEq, Nat.reduceEqDiff, Nat.reduceAdd, Nat.reduceLeDiff, Int.reduceLE, cZ2, cZ4, cZ16, cZ19]
            refine call_u (by simp only [VS1, VS2, VS3, VS4, VS5, VS6, VT1, VT2, finM_ret, finM_nrm, decide_true, decide_false, List.nodup_nil, List.nodup_cons, oks_p, oks_m, oks_h, ne_eq, not_false_eq_true, Int.reduceEq, Int.reduceNe, true_and, Nat.reduceSub, Nat.reduceMul, ↓reduceIte, reduceCtorEq, Nat.reduceEqDiff, Nat.reduceAdd, Nat.reduceLeDiff, Int.reduceLE, cZ2, cZ4, cZ16, cZ19]; exact w_laws_toTributaryS _ hrZ20 ) (by simp [AV.allU, allUL, allUL_iff, VT1, VT2]) (by simp only [VS1, VS2, VS3, VS4, VS5, VS6, VT1, VT2, finM_ret, finM_nrm, decide_true, decide_false, List.nodup_nil, List.nodup_cons, oks_p, oks_m, oks_h, ne_eq, not_false_eq_true, Int.reduceEq, Int.reduceNe, true_and, Nat.reduceSub, Nat.reduceMul, ↓reduceIte, reduceCtorEq, Nat.reduceEqDiff, Nat.reduceAdd, Nat.reduceLeDiff, Int.reduceLE, Nat.reduceLT]) ?_
            simp only [VA, VF1, ↓reduceIte, Nat.reduceEqDiff, Nat.reduceAdd, Nat.reduceMul, Nat.reduceSub, Nat.reduceLeDiff]
            obtain ⟨rZ21, hrZ21, h⟩ := bind_s h
            simp only [VS1, VS2, VS3, VS4, VS5, VS6, VT1, VT2, finM_ret, finM_nrm, decide_true, decide_false, List.nodup_nil, List.nodup_cons, oks_p, oks_m, oks_h, ne_eq, not_false_eq_true, Int.reduceEq, Int.reduceNe, true_and, Nat.reduceSub, Nat.reduceMul, ↓reduceIte, reduceCtorEq, Nat.reduceEqDiff, Nat.reduceAdd, Nat.reduceLeDiff, Int.reduceLE, cZ2, cZ4, cZ16, cZ19]
            refine call_s (by simp only [VS1, VS2, VS3, VS4, VS5, VS6, VT1, VT2, finM_ret, finM_nrm, decide_true, decide_false, List.nodup_nil, List.nodup_cons, oks_p, oks_m, oks_h, ne_eq, not_false_eq_true, Int.reduceEq, Int.reduceNe, true_and, Nat.reduceSub, Nat.reduceMul, ↓reduceIte, reduceCtorEq, Nat.reduceEqDiff, Nat.reduceAdd, Nat.reduceLeDiff, Int.reduceLE, cZ2, cZ4, cZ16, cZ19]; exact w_laws_eqTributaryS _ _ hrZ21 ) ?_
            simp only [VA, VF1, ↓reduceIte, Nat.reduceEqDiff, Nat.reduceAdd, Nat.reduceMul, Nat.reduceSub, Nat.reduceLeDiff]
            refine Or.elim (bt (!rZ21)) (fun cZ22 => ?_) (fun cZ22 => ?_)
            · replace h := cond_t cZ22 h
              cases h
              try simp only [VS1, VS2, VS3, VS4, VS5, VS6, VT1, VT2, finM_ret, finM_nrm, decide_true, decide_false, List.nodup_nil, List.nodup_cons, oks_p, oks_m, oks_h, ne_eq, not_false_eq_true, Int.reduceEq, Int.reduceNe, true_and, Nat.reduceSub, Nat.reduceMul, ↓reduceIte, reduceCtorEq, Nat.reduceEqDiff, Nat.reduceAdd, Nat.reduceLeDiff, Int.reduceLE, cZ2, cZ4, cZ16, cZ19, cZ22]
              all_goals simp [qL, qJ, qJ0, qS, qX, qR, qM, Shp, sub, tupd, VS1, VS2, VS3, VS4, VS5, VS6, VT1, VT2, V10]
            · replace h := cond_f cZ22 h
              obtain ⟨rZ23, hrZ23, h⟩ := bind_s h
              simp only [VS1, VS2, VS3, VS4, VS5, VS6, VT1, VT2, finM_ret, finM_nrm, decide_true, decide_false, List.nodup_nil, List.nodup_cons, oks_p, oks_m, oks_h, ne_eq, not_false_eq_true, Int.reduceEq, Int.reduceNe, true_and, Nat.reduceSub, Nat.reduceMul, ↓reduceIte, reduceCtorEq, Nat.reduceEqDiff, Nat.reduceAdd, Nat.reduceLeDiff, Int.reduceLE, cZ2, cZ4, cZ16, cZ19, cZ22]
              refine call_m (by simp only [VS1, VS2, VS3, VS4, VS5, VS6, VT1, VT2, finM_ret, finM_nrm, decide_true, decide_false, List.nodup_nil, List.nodup_cons, oks_p, oks_m, oks_h, ne_eq, not_false_eq_true, Int.reduceEq, Int.reduceNe, true_and, Nat.reduceSub, Nat.reduceMul, ↓reduceIte, reduceCtorEq, Nat.reduceEqDiff, Nat.reduceAdd, Nat.reduceLeDiff, Int.reduceLE, cZ2, cZ4, cZ16, cZ19, cZ22]; first | exact w_laws_markLinkSM1 _ _ hrZ23 | (have hw := w_laws_markLinkSM1 _ _ hrZ23; simp only [VS1, VS2, VS3, VS4, VS5, VS6, VT1, VT2, finM_ret, finM_nrm, decide_true, decide_false, List.nodup_nil, List.nodup_cons, oks_p, oks_m, oks_h, ne_eq, not_false_eq_true, Int.reduceEq, Int.reduceNe, true_and, Nat.reduceSub, Nat.reduceMul, ↓reduceIte, reduceCtorEq, Nat.reduceEqDiff, Nat.reduceAdd, Nat.reduceLeDiff, Int.reduceLE, cZ2, cZ4, cZ16, cZ19, cZ22] at hw; exact hw)) (by simp [VS1, VS2, VS3, VS4, VS5, VS6, VT1, VT2]) (by first | exact nm_ok [1000000000] rfl (by decide +kernel) | exact nm_ok2 [1000000000] [] rfl (by decide +kernel) (by simp [VS1, VS2, VS3, VS4, VS5, VS6, VT1, VT2]) | simp [VS1, VS2, VS3, VS4, VS5, VS6, VT1, VT2]) ?_
              simp only [VA, VF1, ↓reduceIte, Nat.reduceEqDiff, Nat.reduceAdd, Nat.reduceMul, Nat.reduceSub, Nat.reduceLeDiff]
              obtain ⟨rZ24, hrZ24, h⟩ := bind_s h
              simp only [VS1, VS2, VS3, VS4, VS5, VS6, VT1, VT2, finM_ret, finM_nrm, decide_true, decide_false, List.nodup_nil, List.nodup_cons, oks_p, oks_m, oks_h, ne_eq, not_false_eq_true, Int.reduceEq, Int.reduceNe, true_and, Nat.reduceSub, Nat.reduceMul, ↓reduceIte, reduceCtorEq, Nat.reduceEqDiff, Nat.reduceAdd, Nat.reduceLeDiff, Int.reduceLE, cZ2, cZ4, cZ16, cZ19, cZ22]
              refine call_m (by simp only [VS1, VS2, VS3, VS4, VS5, VS6, VT1, VT2, finM_ret, finM_nrm, decide_true, decide_false, List.nodup_nil, List.nodup_cons, oks_p, oks_m, oks_h, ne_eq, not_false_eq_true, Int.reduceEq, Int.reduceNe, true_and, Nat.reduceSub, Nat.reduceMul, ↓reduceIte, reduceCtorEq, Nat.reduceEqDiff, Nat.reduceAdd, Nat.reduceLeDiff, Int.reduceLE, cZ2, cZ4, cZ16, cZ19, cZ22]; first | exact w_laws_markTributarySM1 _ _ hrZ24 | (have hw := w_laws_markTributarySM1 _ _ hrZ24; simp only [VS1, VS2, VS3, VS4, VS5, VS6, VT1, VT2, finM_ret, finM_nrm, decide_true, decide_false, List.nodup_nil, List.nodup_cons, oks_p, oks_m, oks_h, ne_eq, not_false_eq_true, Int.reduceEq, Int.reduceNe, true_and, Nat.reduceSub, Nat.reduceMul, ↓reduceIte, reduceCtorEq, Nat.reduceEqDiff, Nat.reduceAdd, Nat.reduceLeDiff, Int.reduceLE, cZ2, cZ4, cZ16, cZ19, cZ22] at hw; exact hw)) (by simp [VS1, VS2, VS3, VS4, VS5, VS6, VT1, VT2]) (by first | exact nm_ok [1000000000] rfl (by decide +kernel) | exact nm_ok2 [1000000000] [] rfl (by decide +kernel) (by simp [VS1, VS2, VS3, VS4, VS5, VS6, VT1, VT2]) | simp [VS1, VS2, VS3, VS4, VS5, VS6, VT1, VT2]) ?_
              simp only [VA, VF1, ↓reduceIte, Nat.reduceEqDiff, Nat.reduceAdd, Nat.reduceMul, Nat.reduceSub, Nat.reduceLeDiff]
              obtain ⟨oZ30, hoZ30, h⟩ := bind_s h
              try simp only [VS1, VS2, VS3, VS4, VS5, VS6, VT1, VT2, finM_ret, finM_nrm, decide_true, decide_false, List.nodup_nil, List.nodup_cons, oks_p, oks_m, oks_h, ne_eq, not_false_eq_true, Int.reduceEq, Int.reduceNe, true_and, Nat.reduceSub, Nat.reduceMul, ↓reduceIte, reduceCtorEq, Nat.reduceEqDiff, Nat.reduceAdd, Nat.reduceLeDiff, Int.reduceLE, cZ2, cZ4, cZ16, cZ19, cZ22]
              refine join_rule0 (sh := (fun v => ⟨[(0, .lst .o 3 (aLinksZ0.map (e_TLink .o))), (1, .i aNodesZ0), (2, .lst .o 3 (aListZ0.map (e_TTributary .o))), (8, .sl 8 0 rZ7.1.length), (9, .sl 9 0 rZ7.2.1.length), (10, .b rZ7.2.2), (13, .sl 13 0 rZ10.1.length), (14, .sl 14 0 rZ10.2.1.length), (103, .b v)], [(8, .arr 1 (rZ7.1.map (e_Li .u))), (9, .arr 1 (rZ7.2.1.map AV.i)), (13, .arr 1 (rZ10.1.map (e_Li .u))), (14, .arr 1 (rZ10.2.1.map AV.i))]⟩)) (s := oZ30) ?_ ?_
              · replace h := hoZ30
                refine Or.elim (bt (decide (rZ24.1 < 0))) (fun cZ25 => ?_) (fun cZ25 => ?_)
                · replace h := cond_t cZ25 h
                  cases h
                  try simp only [VS1, VS2, VS3, VS4, VS5, VS6, VT1, VT2, finM_ret, finM_nrm, decide_true, decide_false, List.nodup_nil, List.nodup_cons, oks_p, oks_m, oks_h, ne_eq, not_false_eq_true, Int.reduceEq, Int.reduceNe, true_and, Nat.reduceSub, Nat.reduceMul, ↓reduceIte, reduceCtorEq, Nat.reduceEqDiff, Nat.reduceAdd, Nat.reduceLeDiff, Int.reduceLE, cZ2, cZ4, cZ16, cZ19, cZ22, cZ25]
                  all_goals simp [qL, qJ, qJ0, qS, qX, qR, qM, Shp, sub, tupd, VS1, VS2, VS3, VS4, VS5, VS6, VT1, VT2]
                · replace h := cond_f cZ25 h
                  obtain ⟨rZ26, hrZ26, h⟩ := bind_s h
                  simp only [VS1, VS2, VS3, VS4, VS5, VS6, VT1, VT2, finM_ret, finM_nrm, decide_true, decide_false, List.nodup_nil, List.nodup_cons, oks_p, oks_m, oks_h, ne_eq, not_false_eq_true, Int.reduceEq, Int.reduceNe, true_and, Nat.reduceSub, Nat.reduceMul, ↓reduceIte, reduceCtorEq, Nat.reduceEqDiff, Nat.reduceAdd, Nat.reduceLeDiff, Int.reduceLE, cZ2, cZ4, cZ16, cZ19, cZ22, cZ25]
                  refine call_s (by simp only [VS1, VS2, VS3, VS4, VS5, VS6, VT1, VT2, finM_ret, finM_nrm, decide_true, decide_false, List.nodup_nil, List.nodup_cons, oks_p, oks_m, oks_h, ne_eq, not_false_eq_true, Int.reduceEq, Int.reduceNe, true_and, Nat.reduceSub, Nat.reduceMul, ↓reduceIte, reduceCtorEq, Nat.reduceEqDiff, Nat.reduceAdd, Nat.reduceLeDiff, Int.reduceLE, cZ2, cZ4, cZ16, cZ19, cZ22, cZ25]; exact w_laws_eqIntSS _ _ hrZ26 ) ?_
                  simp only [VA, VF1, ↓reduceIte, Nat.reduceEqDiff, Nat.reduceAdd, Nat.reduceMul, Nat.reduceSub, Nat.reduceLeDiff]
                  refine Or.elim (bt (!rZ26)) (fun cZ27 => ?_) (fun cZ27 => ?_)
                  · replace h := cond_t cZ27 h
                    cases h
                    try simp only [VS1, VS2, VS3, VS4, VS5, VS6, VT1, VT2, finM_ret, finM_nrm, decide_true, decide_false, List.nodup_nil, List.nodup_cons, oks_p, oks_m, oks_h, ne_eq, not_false_eq_true, Int.reduceEq, Int.reduceNe, true_and, Nat.reduceSub, Nat.reduceMul, ↓reduceIte, reduceCtorEq, Nat.reduceEqDiff, Nat.reduceAdd, Nat.reduceLeDiff, Int.reduceLE, cZ2, cZ4, cZ16, cZ19, cZ22, cZ25, cZ27]
                    all_goals simp [qL, qJ, qJ0, qS, qX, qR, qM, Shp, sub, tupd, VS1, VS2, VS3, VS4, VS5, VS6, VT1, VT2]
                  · replace h := cond_f cZ27 h
                    obtain ⟨rZ28, hrZ28, h⟩ := bind_s h
                    simp only [VS1, VS2, VS3, VS4, VS5, VS6, VT1, VT2, finM_ret, finM_nrm, decide_true, decide_false, List.nodup_nil, List.nodup_cons, oks_p, oks_m, oks_h, ne_eq, not_false_eq_true, Int.reduceEq, Int.reduceNe, true_and, Nat.reduceSub, Nat.reduceMul, ↓reduceIte, reduceCtorEq, Nat.reduceEqDiff, Nat.reduceAdd, Nat.reduceLeDiff, Int.reduceLE, cZ2, cZ4, cZ16, cZ19, cZ22, cZ25, cZ27]
                    refine call_s (by simp only [VS1, VS2, VS3, VS4, VS5, VS6, VT1, VT2, finM_ret, finM_nrm, decide_true, decide_false, List.nodup_nil, List.nodup_cons, oks_p, oks_m, oks_h, ne_eq, not_false_eq_true, Int.reduceEq, Int.reduceNe, true_and, Nat.reduceSub, Nat.reduceMul, ↓reduceIte, reduceCtorEq, Nat.reduceEqDiff, Nat.reduceAdd, Nat.reduceLeDiff, Int.reduceLE, cZ2, cZ4, cZ16, cZ19, cZ22, cZ25, cZ27]; exact w_laws_eqIntS _ _ hrZ28 ) ?_
                    simp only [VA, VF1, ↓reduceIte, Nat.reduceEqDiff, Nat.reduceAdd, Nat.reduceMul, Nat.reduceSub, Nat.reduceLeDiff]
                    refine Or.elim (bt (!rZ28)) (fun cZ29 => ?_) (fun cZ29 => ?_)
                    · replace h := cond_t cZ29 h
                      cases h
                      try simp only [VS1, VS2, VS3, VS4, VS5, VS6, VT1, VT2, finM_ret, finM_nrm, decide_true, decide_false, List.nodup_nil, List.nodup_cons, oks_p, oks_m, oks_h, ne_eq, not_false_eq_true, Int.reduceEq, Int.reduceNe, true_and, Nat.reduceSub, Nat.reduceMul, ↓reduceIte, reduceCtorEq, Nat.reduceEqDiff, Nat.reduceAdd, Nat.reduceLeDiff, Int.reduceLE, cZ2, cZ4, cZ16, cZ19, cZ22, cZ25, cZ27, cZ29]
                      all_goals simp [qL, qJ, qJ0, qS, qX, qR, qM, Shp, sub, tupd, VS1, VS2, VS3, VS4, VS5, VS6, VT1, VT2]
                    · replace h := cond_f cZ29 h
                      cases h
                      try simp only [VS1, VS2, VS3, VS4, VS5, VS6, VT1, VT2, finM_ret, finM_nrm, decide_true, decide_false, List.nodup_nil, List.nodup_cons, oks_p, oks_m, oks_h, ne_eq, not_false_eq_true, Int.reduceEq, Int.reduceNe, true_and, Nat.reduceSub, Nat.reduceMul, ↓reduceIte, reduceCtorEq, Nat.reduceEqDiff, Nat.reduceAdd, Nat.reduceLeDiff, Int.reduceLE, cZ2, cZ4, cZ16, cZ19, cZ22, cZ25, cZ27, cZ29]
                      all_goals simp [qL, qJ, qJ0, qS, qX, qR, qM, Shp, sub, tupd, VS1, VS2, VS3, VS4, VS5, VS6, VT1, VT2]
              · simp only [A10R2]
                refine Or.elim (bt (oZ30)) (fun cZ31 => ?_) (fun cZ31 => ?_)
                · replace h := cond_t cZ31 h
                  cases h
                  try simp only [VS1, VS2, VS3, VS4, VS5, VS6, VT1, VT2, finM_ret, finM_nrm, decide_true, decide_false, List.nodup_nil, List.nodup_cons, oks_p, oks_m, oks_h, ne_eq, not_false_eq_true, Int.reduceEq, Int.reduceNe, true_and, Nat.reduceSub, Nat.reduceMul, ↓reduceIte, reduceCtorEq, Nat.reduceEqDiff, Nat.reduceAdd, Nat.reduceLeDiff, Int.reduceLE, cZ2, cZ4, cZ16, cZ19, cZ22, cZ31]
                  all_goals simp [qL, qJ, qJ0, qS, qX, qR, qM, Shp, sub, tupd, VS1, VS2, VS3, VS4, VS5, VS6, VT1, VT2, V10]
                · replace h := cond_f cZ31 h
                  obtain ⟨rZ32, hrZ32, h⟩ := bind_s h
                  simp only [VS1, VS2, VS3, VS4, VS5, VS6, VT1, VT2, finM_ret, finM_nrm, decide_true, decide_false, List.nodup_nil, List.nodup_cons, oks_p, oks_m, oks_h, ne_eq, not_false_eq_true, Int.reduceEq, Int.reduceNe, true_and, Nat.reduceSub, Nat.reduceMul, ↓reduceIte, reduceCtorEq, Nat.reduceEqDiff, Nat.reduceAdd, Nat.reduceLeDiff, Int.reduceLE, cZ2, cZ4, cZ16, cZ19, cZ22, cZ31]
                  refine ⟨by simp [fz_mk, fz_sc, fz_lsto, fz_agg, fz_tup, fz_fn, fz_sl, fz_pt, fz_top, fzL_nil, fzL_cons, ou_sc, ou_lstu, ou_lsto, ou_agg, ouL_nil, ouL_cons, rfz_var, rfz_arr, rfz_dead, fzL_mi, fzL_mb, fzL_mz, fzL_m8, fzL_m64, ouL_m8, ouL_m64, ouL_mi, ouL_mb, ouL_mz, VZ1], call_m (ok := ⟨_, _, _⟩) (by simp only [VS1, VS2, VS3, VS4, VS5, VS6, VT1, VT2, finM_ret, finM_nrm, decide_true, decide_false, List.nodup_nil, List.nodup_cons, oks_p, oks_m, oks_h, ne_eq, not_false_eq_true, Int.reduceEq, Int.reduceNe, true_and, Nat.reduceSub, Nat.reduceMul, ↓reduceIte, reduceCtorEq, Nat.reduceEqDiff, Nat.reduceAdd, Nat.reduceLeDiff, Int.reduceLE, cZ2, cZ4, cZ16, cZ19, cZ22, cZ31]; first | exact w_laws_markIntSSM1 _ _ hrZ32 | (have hw := w_laws_markIntSSM1 _ _ hrZ32; simp only [VS1, VS2, VS3, VS4, VS5, VS6, VT1, VT2, finM_ret, finM_nrm, decide_true, decide_false, List.nodup_nil, List.nodup_cons, oks_p, oks_m, oks_h, ne_eq, not_false_eq_true, Int.reduceEq, Int.reduceNe, true_and, Nat.reduceSub, Nat.reduceMul, ↓reduceIte, reduceCtorEq, Nat.reduceEqDiff, Nat.reduceAdd, Nat.reduceLeDiff, Int.reduceLE, cZ2, cZ4, cZ16, cZ19, cZ22, cZ31] at hw; exact hw)) (by simp [VS1, VS2, VS3, VS4, VS5, VS6, VT1, VT2]) (by first | exact nm_ok [1000000000] rfl (by decide +kernel) | exact nm_ok2 [1000000000] [] rfl (by decide +kernel) (by simp [VS1, VS2, VS3, VS4, VS5, VS6, VT1, VT2]) | simp [VS1, VS2, VS3, VS4, VS5, VS6, VT1, VT2]) ?_⟩
                  simp only [VA, VF1, ↓reduceIte, Nat.reduceEqDiff, Nat.reduceAdd, Nat.reduceMul, Nat.reduceSub, Nat.reduceLeDiff]
                  obtain ⟨rZ33, hrZ33, h⟩ := bind_s h
                  simp only [VS1, VS2, VS3, VS4, VS5, VS6, VT1, VT2, finM_ret, finM_nrm, decide_true, decide_false, List.nodup_nil, List.nodup_cons, oks_p, oks_m, oks_h, ne_eq, not_false_eq_true, Int.reduceEq, Int.reduceNe, true_and, Nat.reduceSub, Nat.reduceMul, ↓reduceIte, reduceCtorEq, Nat.reduceEqDiff, Nat.reduceAdd, Nat.reduceLeDiff, Int.reduceLE, cZ2, cZ4, cZ16, cZ19, cZ22, cZ31]
                  refine call_m (by simp only [VS1, VS2, VS3, VS4, VS5, VS6, VT1, VT2, finM_ret, finM_nrm, decide_true, decide_false, List.nodup_nil, List.nodup_cons, oks_p, oks_m, oks_h, ne_eq, not_false_eq_true, Int.reduceEq, Int.reduceNe, true_and, Nat.reduceSub, Nat.reduceMul, ↓reduceIte, reduceCtorEq, Nat.reduceEqDiff, Nat.reduceAdd, Nat.reduceLeDiff, Int.reduceLE, cZ2, cZ4, cZ16, cZ19, cZ22, cZ31]; first | exact w_laws_markIntSM1 _ _ hrZ33 | (have hw := w_laws_markIntSM1 _ _ hrZ33; simp only [VS1, VS2, VS3, VS4, VS5, VS6, VT1, VT2, finM_ret, finM_nrm, decide_true, decide_false, List.nodup_nil, List.nodup_cons, oks_p, oks_m, oks_h, ne_eq, not_false_eq_true, Int.reduceEq, Int.reduceNe, true_and, Nat.reduceSub, Nat.reduceMul, ↓reduceIte, reduceCtorEq, Nat.reduceEqDiff, Nat.reduceAdd, Nat.reduceLeDiff, Int.reduceLE, cZ2, cZ4, cZ16, cZ19, cZ22, cZ31] at hw; exact hw)) (by simp [VS1, VS2, VS3, VS4, VS5, VS6, VT1, VT2]) (by first | exact nm_ok [1000000000] rfl (by decide +kernel) | exact nm_ok2 [1000000000] [] rfl (by decide +kernel) (by simp [VS1, VS2, VS3, VS4, VS5, VS6, VT1, VT2]) | simp [VS1, VS2, VS3, VS4, VS5, VS6, VT1, VT2]) ?_
                  simp only [VA, VF1, ↓reduceIte, Nat.reduceEqDiff, Nat.reduceAdd, Nat.reduceMul, Nat.reduceSub, Nat.reduceLeDiff]
                  obtain ⟨lZ34, hlZ34, h⟩ := bnd_s h
                  have eZ35 : sub (rZ32.2.map (e_Li .u)) 0 rZ10.1.length = lZ34.map (e_Li .u) := by rw [sub_mapT, hlZ34]
                  obtain ⟨rZ36, hrZ36, h⟩ := bind_s h
                  simp only [VS1, VS2, VS3, VS4, VS5, VS6, VT1, VT2, finM_ret, finM_nrm, decide_true, decide_false, List.nodup_nil, List.nodup_cons, oks_p, oks_m, oks_h, ne_eq, not_false_eq_true, Int.reduceEq, Int.reduceNe, true_and, Nat.reduceSub, Nat.reduceMul, ↓reduceIte, reduceCtorEq, Nat.reduceEqDiff, Nat.reduceAdd, Nat.reduceLeDiff, Int.reduceLE, cZ2, cZ4, cZ16, cZ19, cZ22, cZ31, eZ35]
                  refine call_s (by simp only [VS1, VS2, VS3, VS4, VS5, VS6, VT1, VT2, finM_ret, finM_nrm, decide_true, decide_false, List.nodup_nil, List.nodup_cons, oks_p, oks_m, oks_h, ne_eq, not_false_eq_true, Int.reduceEq, Int.reduceNe, true_and, Nat.reduceSub, Nat.reduceMul, ↓reduceIte, reduceCtorEq, Nat.reduceEqDiff, Nat.reduceAdd, Nat.reduceLeDiff, Int.reduceLE, cZ2, cZ4, cZ16, cZ19, cZ22, cZ31, eZ35]; exact w_laws_heldIntSS _ _ hrZ36 ) ?_
                  simp only [VA, VF1, ↓reduceIte, Nat.reduceEqDiff, Nat.reduceAdd, Nat.reduceMul, Nat.reduceSub, Nat.reduceLeDiff]
                  refine Or.elim (bt (decide (rZ36 < 0))) (fun cZ37 => ?_) (fun cZ37 => ?_)
                  · replace h := cond_t cZ37 h
                    cases h
                    try simp only [VS1, VS2, VS3, VS4, VS5, VS6, VT1, VT2, finM_ret, finM_nrm, decide_true, decide_false, List.nodup_nil, List.nodup_cons, oks_p, oks_m, oks_h, ne_eq, not_false_eq_true, Int.reduceEq, Int.reduceNe, true_and, Nat.reduceSub, Nat.reduceMul, ↓reduceIte, reduceCtorEq, Nat.reduceEqDiff, Nat.reduceAdd, Nat.reduceLeDiff, Int.reduceLE, cZ2, cZ4, cZ16, cZ19, cZ22, cZ31, eZ35, cZ37]
                    all_goals simp [qL, qJ, qJ0, qS, qX, qR, qM, Shp, sub, tupd, VS1, VS2, VS3, VS4, VS5, VS6, VT1, VT2, V10]
                  · replace h := cond_f cZ37 h
                    obtain ⟨lZ38, hlZ38, h⟩ := bnd_s h
                    have eZ39 : sub (rZ33.2.map AV.i) 0 rZ10.2.1.length = lZ38.map AV.i := by rw [sub_mapT, hlZ38]
                    obtain ⟨rZ40, hrZ40, h⟩ := bind_s h
                    simp only [VS1, VS2, VS3, VS4, VS5, VS6, VT1, VT2, finM_ret, finM_nrm, decide_true, decide_false, List.nodup_nil, List.nodup_cons, oks_p, oks_m, oks_h, ne_eq, not_false_eq_true, Int.reduceEq, Int.reduceNe, true_and, Nat.reduceSub, Nat.reduceMul, ↓reduceIte, reduceCtorEq, Nat.reduceEqDiff, Nat.reduceAdd, Nat.reduceLeDiff, Int.reduceLE, cZ2, cZ4, cZ16, cZ19, cZ22, cZ31, eZ35, cZ37, eZ39]
                    refine call_s (by simp only [VS1, VS2, VS3, VS4, VS5, VS6, VT1, VT2, finM_ret, finM_nrm, decide_true, decide_false, List.nodup_nil, List.nodup_cons, oks_p, oks_m, oks_h, ne_eq, not_false_eq_true, Int.reduceEq, Int.reduceNe, true_and, Nat.reduceSub, Nat.reduceMul, ↓reduceIte, reduceCtorEq, Nat.reduceEqDiff, Nat.reduceAdd, Nat.reduceLeDiff, Int.reduceLE, cZ2, cZ4, cZ16, cZ19, cZ22, cZ31, eZ35, cZ37, eZ39]; exact w_laws_heldIntS _ _ hrZ40 ) ?_
                    simp only [VA, VF1, ↓reduceIte, Nat.reduceEqDiff, Nat.reduceAdd, Nat.reduceMul, Nat.reduceSub, Nat.reduceLeDiff]
                    refine Or.elim (bt (decide (rZ40 < 0))) (fun cZ41 => ?_) (fun cZ41 => ?_)
                    · replace h := cond_t cZ41 h
                      cases h
                      try simp only [VS1, VS2, VS3, VS4, VS5, VS6, VT1, VT2, finM_ret, finM_nrm, decide_true, decide_false, List.nodup_nil, List.nodup_cons, oks_p, oks_m, oks_h, ne_eq, not_false_eq_true, Int.reduceEq, Int.reduceNe, true_and, Nat.reduceSub, Nat.reduceMul, ↓reduceIte, reduceCtorEq, Nat.reduceEqDiff, Nat.reduceAdd, Nat.reduceLeDiff, Int.reduceLE, cZ2, cZ4, cZ16, cZ19, cZ22, cZ31, eZ35, cZ37, eZ39, cZ41]
                      all_goals simp [qL, qJ, qJ0, qS, qX, qR, qM, Shp, sub, tupd, VS1, VS2, VS3, VS4, VS5, VS6, VT1, VT2, V10]
                    · replace h := cond_f cZ41 h
                      refine Or.elim (bt (rZ40 != rZ33.1)) (fun cZ42 => ?_) (fun cZ42 => ?_)
                      · replace h := cond_t cZ42 h
                        cases h
                        try simp only [VS1, VS2, VS3, VS4, VS5, VS6, VT1, VT2, finM_ret, finM_nrm, decide_true, decide_false, List.nodup_nil, List.nodup_cons, oks_p, oks_m, oks_h, ne_eq, not_false_eq_true, Int.reduceEq, Int.reduceNe, true_and, Nat.reduceSub, Nat.reduceMul, ↓reduceIte, reduceCtorEq, Nat.reduceEqDiff, Nat.reduceAdd, Nat.reduceLeDiff, Int.reduceLE, cZ2, cZ4, cZ16, cZ19, cZ22, cZ31, eZ35, cZ37, eZ39, cZ41, cZ42]
                        all_goals simp [qL, qJ, qJ0, qS, qX, qR, qM, Shp, sub, tupd, VS1, VS2, VS3, VS4, VS5, VS6, VT1, VT2, V10]
                      · replace h := cond_f cZ42 h
                        obtain ⟨rZ43, hrZ43, h⟩ := bind_s h
                        simp only [VS1, VS2, VS3, VS4, VS5, VS6, VT1, VT2, finM_ret, finM_nrm, decide_true, decide_false, List.nodup_nil, List.nodup_cons, oks_p, oks_m, oks_h, ne_eq, not_false_eq_true, Int.reduceEq, Int.reduceNe, true_and, Nat.reduceSub, Nat.reduceMul, ↓reduceIte, reduceCtorEq, Nat.reduceEqDiff, Nat.reduceAdd, Nat.reduceLeDiff, Int.reduceLE, cZ2, cZ4, cZ16, cZ19, cZ22, cZ31, eZ35, cZ37, eZ39, cZ41, cZ42]
                        refine call_u (by simp only [VS1, VS2, VS3, VS4, VS5, VS6, VT1, VT2, finM_ret, finM_nrm, decide_true, decide_false, List.nodup_nil, List.nodup_cons, oks_p, oks_m, oks_h, ne_eq, not_false_eq_true, Int.reduceEq, Int.reduceNe, true_and, Nat.reduceSub, Nat.reduceMul, ↓reduceIte, reduceCtorEq, Nat.reduceEqDiff, Nat.reduceAdd, Nat.reduceLeDiff, Int.reduceLE, cZ2, cZ4, cZ16, cZ19, cZ22, cZ31, eZ35, cZ37, eZ39, cZ41, cZ42]; exact w_laws_toLinkS _ hrZ43 ) (by simp [AV.allU, allUL, allUL_iff, VT1, VT2]) (by simp only [VS1, VS2, VS3, VS4, VS5, VS6, VT1, VT2, finM_ret, finM_nrm, decide_true, decide_false, List.nodup_nil, List.nodup_cons, oks_p, oks_m, oks_h, ne_eq, not_false_eq_true, Int.reduceEq, Int.reduceNe, true_and, Nat.reduceSub, Nat.reduceMul, ↓reduceIte, reduceCtorEq, Nat.reduceEqDiff, Nat.reduceAdd, Nat.reduceLeDiff, Int.reduceLE, Nat.reduceLT]) ?_
                        simp only [VA, VF1, ↓reduceIte, Nat.reduceEqDiff, Nat.reduceAdd, Nat.reduceMul, Nat.reduceSub, Nat.reduceLeDiff]
                        obtain ⟨rZ44, hrZ44, h⟩ := bind_s h
                        simp only [VS1, VS2, VS3, VS4, VS5, VS6, VT1, VT2, finM_ret, finM_nrm, decide_true, decide_false, List.nodup_nil, List.nodup_cons, oks_p, oks_m, oks_h, ne_eq, not_false_eq_true, Int.reduceEq, Int.reduceNe, true_and, Nat.reduceSub, Nat.reduceMul, ↓reduceIte, reduceCtorEq, Nat.reduceEqDiff, Nat.reduceAdd, Nat.reduceLeDiff, Int.reduceLE, cZ2, cZ4, cZ16, cZ19, cZ22, cZ31, eZ35, cZ37, eZ39, cZ41, cZ42]
                        refine call_u (by simp only [VS1, VS2, VS3, VS4, VS5, VS6, VT1, VT2, finM_ret, finM_nrm, decide_true, decide_false, List.nodup_nil, List.nodup_cons, oks_p, oks_m, oks_h, ne_eq, not_false_eq_true, Int.reduceEq, Int.reduceNe, true_and, Nat.reduceSub, Nat.reduceMul, ↓reduceIte, reduceCtorEq, Nat.reduceEqDiff, Nat.reduceAdd, Nat.reduceLeDiff, Int.reduceLE, cZ2, cZ4, cZ16, cZ19, cZ22, cZ31, eZ35, cZ37, eZ39, cZ41, cZ42]; exact w_laws_toTributaryS _ hrZ44 ) (by simp [AV.allU, allUL, allUL_iff, VT1, VT2]) (by simp only [VS1, VS2, VS3, VS4, VS5, VS6, VT1, VT2, finM_ret, finM_nrm, decide_true, decide_false, List.nodup_nil, List.nodup_cons, oks_p, oks_m, oks_h, ne_eq, not_false_eq_true, Int.reduceEq, Int.reduceNe, true_and, Nat.reduceSub, Nat.reduceMul, ↓reduceIte, reduceCtorEq, Nat.reduceEqDiff, Nat.reduceAdd, Nat.reduceLeDiff, Int.reduceLE, Nat.reduceLT]) ?_
                        simp only [VA, VF1, ↓reduceIte, Nat.reduceEqDiff, Nat.reduceAdd, Nat.reduceMul, Nat.reduceSub, Nat.reduceLeDiff]
                        obtain ⟨rZ45, hrZ45, h⟩ := bind_s h
                        simp only [VS1, VS2, VS3, VS4, VS5, VS6, VT1, VT2, finM_ret, finM_nrm, decide_true, decide_false, List.nodup_nil, List.nodup_cons, oks_p, oks_m, oks_h, ne_eq, not_false_eq_true, Int.reduceEq, Int.reduceNe, true_and, Nat.reduceSub, Nat.reduceMul, ↓reduceIte, reduceCtorEq, Nat.reduceEqDiff, Nat.reduceAdd, Nat.reduceLeDiff, Int.reduceLE, cZ2, cZ4, cZ16, cZ19, cZ22, cZ31, eZ35, cZ37, eZ39, cZ41, cZ42]
                        refine call_u (by simp only [VS1, VS2, VS3, VS4, VS5, VS6, VT1, VT2, finM_ret, finM_nrm, decide_true, decide_false, List.nodup_nil, List.nodup_cons, oks_p, oks_m, oks_h, ne_eq, not_false_eq_true, Int.reduceEq, Int.reduceNe, true_and, Nat.reduceSub, Nat.reduceMul, ↓reduceIte, reduceCtorEq, Nat.reduceEqDiff, Nat.reduceAdd, Nat.reduceLeDiff, Int.reduceLE, cZ2, cZ4, cZ16, cZ19, cZ22, cZ31, eZ35, cZ37, eZ39, cZ41, cZ42]; exact w_impl_GroomAll _ _ _ hrZ45 ) (by simp [AV.allU, allUL, allUL_iff, VT1, VT2]) (by simp only [VS1, VS2, VS3, VS4, VS5, VS6, VT1, VT2, finM_ret, finM_nrm, decide_true, decide_false, List.nodup_nil, List.nodup_cons, oks_p, oks_m, oks_h, ne_eq, not_false_eq_true, Int.reduceEq, Int.reduceNe, true_and, Nat.reduceSub, Nat.reduceMul, ↓reduceIte, reduceCtorEq, Nat.reduceEqDiff, Nat.reduceAdd, Nat.reduceLeDiff, Int.reduceLE, Nat.reduceLT]) ?_
                        simp only [VA, VF1, ↓reduceIte, Nat.reduceEqDiff, Nat.reduceAdd, Nat.reduceMul, Nat.reduceSub, Nat.reduceLeDiff]
                        obtain ⟨oZ50, hoZ50, h⟩ := bind_s h
                        try simp only [VS1, VS2, VS3, VS4, VS5, VS6, VT1, VT2, finM_ret, finM_nrm, decide_true, decide_false, List.nodup_nil, List.nodup_cons, oks_p, oks_m, oks_h, ne_eq, not_false_eq_true, Int.reduceEq, Int.reduceNe, true_and, Nat.reduceSub, Nat.reduceMul, ↓reduceIte, reduceCtorEq, Nat.reduceEqDiff, Nat.reduceAdd, Nat.reduceLeDiff, Int.reduceLE, cZ2, cZ4, cZ16, cZ19, cZ22, cZ31, eZ35, cZ37, eZ39, cZ41, cZ42]
                        refine join_rule0 (sh := (fun v => ⟨[(13, .sl 13 0 rZ10.1.length), (14, .sl 14 0 rZ10.2.1.length), (17, .i rZ33.1), (147, .b v)], [(13, .arr 1 (rZ32.2.map (e_Li .u))), (14, .arr 1 (rZ33.2.map AV.i))]⟩)) (s := oZ50) ?_ ?_
                        · replace h := hoZ50
                          obtain ⟨rZ46, hrZ46, h⟩ := bind_s h
                          simp only [VS1, VS2, VS3, VS4, VS5, VS6, VT1, VT2, finM_ret, finM_nrm, decide_true, decide_false, List.nodup_nil, List.nodup_cons, oks_p, oks_m, oks_h, ne_eq, not_false_eq_true, Int.reduceEq, Int.reduceNe, true_and, Nat.reduceSub, Nat.reduceMul, ↓reduceIte, reduceCtorEq, Nat.reduceEqDiff, Nat.reduceAdd, Nat.reduceLeDiff, Int.reduceLE, cZ2, cZ4, cZ16, cZ19, cZ22, cZ31, eZ35, cZ37, eZ39, cZ41, cZ42]
                          refine call_s (by simp only [VS1, VS2, VS3, VS4, VS5, VS6, VT1, VT2, finM_ret, finM_nrm, decide_true, decide_false, List.nodup_nil, List.nodup_cons, oks_p, oks_m, oks_h, ne_eq, not_false_eq_true, Int.reduceEq, Int.reduceNe, true_and, Nat.reduceSub, Nat.reduceMul, ↓reduceIte, reduceCtorEq, Nat.reduceEqDiff, Nat.reduceAdd, Nat.reduceLeDiff, Int.reduceLE, cZ2, cZ4, cZ16, cZ19, cZ22, cZ31, eZ35, cZ37, eZ39, cZ41, cZ42]; exact w_laws_eqIntSS _ _ hrZ46 ) ?_
                          simp only [VA, VF1, ↓reduceIte, Nat.reduceEqDiff, Nat.reduceAdd, Nat.reduceMul, Nat.reduceSub, Nat.reduceLeDiff]
                          refine Or.elim (bt (!rZ46)) (fun cZ47 => ?_) (fun cZ47 => ?_)
                          · replace h := cond_t cZ47 h
                            cases h
                            try simp only [VS1, VS2, VS3, VS4, VS5, VS6, VT1, VT2, finM_ret, finM_nrm, decide_true, decide_false, List.nodup_nil, List.nodup_cons, oks_p, oks_m, oks_h, ne_eq, not_false_eq_true, Int.reduceEq, Int.reduceNe, true_and, Nat.reduceSub, Nat.reduceMul, ↓reduceIte, reduceCtorEq, Nat.reduceEqDiff, Nat.reduceAdd, Nat.reduceLeDiff, Int.reduceLE, cZ2, cZ4, cZ16, cZ19, cZ22, cZ31, eZ35, cZ37, eZ39, cZ41, cZ42, cZ47]
                            all_goals simp [qL, qJ, qJ0, qS, qX, qR, qM, Shp, sub, tupd, VS1, VS2, VS3, VS4, VS5, VS6, VT1, VT2]
                          · replace h := cond_f cZ47 h
                            obtain ⟨rZ48, hrZ48, h⟩ := bind_s h
                            simp only [VS1, VS2, VS3, VS4, VS5, VS6, VT1, VT2, finM_ret, finM_nrm, decide_true, decide_false, List.nodup_nil, List.nodup_cons, oks_p, oks_m, oks_h, ne_eq, not_false_eq_true, Int.reduceEq, Int.reduceNe, true_and, Nat.reduceSub, Nat.reduceMul, ↓reduceIte, reduceCtorEq, Nat.reduceEqDiff, Nat.reduceAdd, Nat.reduceLeDiff, Int.reduceLE, cZ2, cZ4, cZ16, cZ19, cZ22, cZ31, eZ35, cZ37, eZ39, cZ41, cZ42, cZ47]
                            refine call_s (by simp only [VS1, VS2, VS3, VS4, VS5, VS6, VT1, VT2, finM_ret, finM_nrm, decide_true, decide_false, List.nodup_nil, List.nodup_cons, oks_p, oks_m, oks_h, ne_eq, not_false_eq_true, Int.reduceEq, Int.reduceNe, true_and, Nat.reduceSub, Nat.reduceMul, ↓reduceIte, reduceCtorEq, Nat.reduceEqDiff, Nat.reduceAdd, Nat.reduceLeDiff, Int.reduceLE, cZ2, cZ4, cZ16, cZ19, cZ22, cZ31, eZ35, cZ37, eZ39, cZ41, cZ42, cZ47]; exact w_laws_eqIntS _ _ hrZ48 ) ?_
                            simp only [VA, VF1, ↓reduceIte, Nat.reduceEqDiff, Nat.reduceAdd, Nat.reduceMul, Nat.reduceSub, Nat.reduceLeDiff]
                            refine Or.elim (bt (!rZ48)) (fun cZ49 => ?_) (fun cZ49 => ?_)
                            · replace h := cond_t cZ49 h
                              cases h
                              try simp only [VS1, VS2, VS3, VS4, VS5, VS6, VT1, VT2, finM_ret, finM_nrm, decide_true, decide_false, List.nodup_nil, List.nodup_cons, oks_p, oks_m, oks_h, ne_eq, not_false_eq_true, Int.reduceEq, Int.reduceNe, true_and, Nat.reduceSub, Nat.reduceMul, ↓reduceIte, reduceCtorEq, Nat.reduceEqDiff, Nat.reduceAdd, Nat.reduceLeDiff, Int.reduceLE, cZ2, cZ4, cZ16, cZ19, cZ22, cZ31, eZ35, cZ37, eZ39, cZ41, cZ42, cZ47, cZ49]
                              all_goals simp [qL, qJ, qJ0, qS, qX, qR, qM, Shp, sub, tupd, VS1, VS2, VS3, VS4, VS5, VS6, VT1, VT2]
                            · replace h := cond_f cZ49 h
                              cases h
                              try simp only [VS1, VS2, VS3, VS4, VS5, VS6, VT1, VT2, finM_ret, finM_nrm, decide_true, decide_false, List.nodup_nil, List.nodup_cons, oks_p, oks_m, oks_h, ne_eq, not_false_eq_true, Int.reduceEq, Int.reduceNe, true_and, Nat.reduceSub, Nat.reduceMul, ↓reduceIte, reduceCtorEq, Nat.reduceEqDiff, Nat.reduceAdd, Nat.reduceLeDiff, Int.reduceLE, cZ2, cZ4, cZ16, cZ19, cZ22, cZ31, eZ35, cZ37, eZ39, cZ41, cZ42, cZ47, cZ49]
                              all_goals simp [qL, qJ, qJ0, qS, qX, qR, qM, Shp, sub, tupd, VS1, VS2, VS3, VS4, VS5, VS6, VT1, VT2]
                        · simp only [A10R3]
                          refine Or.elim (bt (oZ50)) (fun cZ51 => ?_) (fun cZ51 => ?_)
                          · replace h := cond_t cZ51 h
                            cases h
                            try simp only [VS1, VS2, VS3, VS4, VS5, VS6, VT1, VT2, finM_ret, finM_nrm, decide_true, decide_false, List.nodup_nil, List.nodup_cons, oks_p, oks_m, oks_h, ne_eq, not_false_eq_true, Int.reduceEq, Int.reduceNe, true_and, Nat.reduceSub, Nat.reduceMul, ↓reduceIte, reduceCtorEq, Nat.reduceEqDiff, Nat.reduceAdd, Nat.reduceLeDiff, Int.reduceLE, cZ2, cZ4, cZ16, cZ19, cZ22, cZ31, eZ35, cZ37, eZ39, cZ41, cZ42, cZ51]
                            all_goals simp [qL, qJ, qJ0, qS, qX, qR, qM, Shp, sub, tupd, VS1, VS2, VS3, VS4, VS5, VS6, VT1, VT2, V10]
                          · replace h := cond_f cZ51 h
                            obtain ⟨rZ52, hrZ52, h⟩ := bind_s h
                            simp only [VS1, VS2, VS3, VS4, VS5, VS6, VT1, VT2, finM_ret, finM_nrm, decide_true, decide_false, List.nodup_nil, List.nodup_cons, oks_p, oks_m, oks_h, ne_eq, not_false_eq_true, Int.reduceEq, Int.reduceNe, true_and, Nat.reduceSub, Nat.reduceMul, ↓reduceIte, reduceCtorEq, Nat.reduceEqDiff, Nat.reduceAdd, Nat.reduceLeDiff, Int.reduceLE, cZ2, cZ4, cZ16, cZ19, cZ22, cZ31, eZ35, cZ37, eZ39, cZ41, cZ42, cZ51]
                            refine call_s (by simp only [VS1, VS2, VS3, VS4, VS5, VS6, VT1, VT2, finM_ret, finM_nrm, decide_true, decide_false, List.nodup_nil, List.nodup_cons, oks_p, oks_m, oks_h, ne_eq, not_false_eq_true, Int.reduceEq, Int.reduceNe, true_and, Nat.reduceSub, Nat.reduceMul, ↓reduceIte, reduceCtorEq, Nat.reduceEqDiff, Nat.reduceAdd, Nat.reduceLeDiff, Int.reduceLE, cZ2, cZ4, cZ16, cZ19, cZ22, cZ31, eZ35, cZ37, eZ39, cZ41, cZ42, cZ51]; exact w_laws_heldIntSS _ _ hrZ52 ) ?_
                            simp only [VA, VF1, ↓reduceIte, Nat.reduceEqDiff, Nat.reduceAdd, Nat.reduceMul, Nat.reduceSub, Nat.reduceLeDiff]
                            refine Or.elim (bt (decide (rZ52 < 0))) (fun cZ53 => ?_) (fun cZ53 => ?_)
                            · replace h := cond_t cZ53 h
                              cases h
                              try simp only [VS1, VS2, VS3, VS4, VS5, VS6, VT1, VT2, finM_ret, finM_nrm, decide_true, decide_false, List.nodup_nil, List.nodup_cons, oks_p, oks_m, oks_h, ne_eq, not_false_eq_true, Int.reduceEq, Int.reduceNe, true_and, Nat.reduceSub, Nat.reduceMul, ↓reduceIte, reduceCtorEq, Nat.reduceEqDiff, Nat.reduceAdd, Nat.reduceLeDiff, Int.reduceLE, cZ2, cZ4, cZ16, cZ19, cZ22, cZ31, eZ35, cZ37, eZ39, cZ41, cZ42, cZ51, cZ53]
                              all_goals simp [qL, qJ, qJ0, qS, qX, qR, qM, Shp, sub, tupd, VS1, VS2, VS3, VS4, VS5, VS6, VT1, VT2, V10]
                            · replace h := cond_f cZ53 h
                              obtain ⟨rZ54, hrZ54, h⟩ := bind_s h
                              simp only [VS1, VS2, VS3, VS4, VS5, VS6, VT1, VT2, finM_ret, finM_nrm, decide_true, decide_false, List.nodup_nil, List.nodup_cons, oks_p, oks_m, oks_h, ne_eq, not_false_eq_true, Int.reduceEq, Int.reduceNe, true_and, Nat.reduceSub, Nat.reduceMul, ↓reduceIte, reduceCtorEq, Nat.reduceEqDiff, Nat.reduceAdd, Nat.reduceLeDiff, Int.reduceLE, cZ2, cZ4, cZ16, cZ19, cZ22, cZ31, eZ35, cZ37, eZ39, cZ41, cZ42, cZ51, cZ53]
                              refine call_s (by simp only [VS1, VS2, VS3, VS4, VS5, VS6, VT1, VT2, finM_ret, finM_nrm, decide_true, decide_false, List.nodup_nil, List.nodup_cons, oks_p, oks_m, oks_h, ne_eq, not_false_eq_true, Int.reduceEq, Int.reduceNe, true_and, Nat.reduceSub, Nat.reduceMul, ↓reduceIte, reduceCtorEq, Nat.reduceEqDiff, Nat.reduceAdd, Nat.reduceLeDiff, Int.reduceLE, cZ2, cZ4, cZ16, cZ19, cZ22, cZ31, eZ35, cZ37, eZ39, cZ41, cZ42, cZ51, cZ53]; exact w_laws_heldIntS _ _ hrZ54 ) ?_
                              simp only [VA, VF1, ↓reduceIte, Nat.reduceEqDiff, Nat.reduceAdd, Nat.reduceMul, Nat.reduceSub, Nat.reduceLeDiff]
                              refine Or.elim (bt (decide (rZ54 < 0))) (fun cZ55 => ?_) (fun cZ55 => ?_)
                              · replace h := cond_t cZ55 h
                                cases h
                                try simp only [VS1, VS2, VS3, VS4, VS5, VS6, VT1, VT2, finM_ret, finM_nrm, decide_true, decide_false, List.nodup_nil, List.nodup_cons, oks_p, oks_m, oks_h, ne_eq, not_false_eq_true, Int.reduceEq, Int.reduceNe, true_and, Nat.reduceSub, Nat.reduceMul, ↓reduceIte, reduceCtorEq, Nat.reduceEqDiff, Nat.reduceAdd, Nat.reduceLeDiff, Int.reduceLE, cZ2, cZ4, cZ16, cZ19, cZ22, cZ31, eZ35, cZ37, eZ39, cZ41, cZ42, cZ51, cZ53, cZ55]
                                all_goals simp [qL, qJ, qJ0, qS, qX, qR, qM, Shp, sub, tupd, VS1, VS2, VS3, VS4, VS5, VS6, VT1, VT2, V10]
                              · replace h := cond_f cZ55 h
                                refine Or.elim (bt (rZ54 != rZ33.1)) (fun cZ56 => ?_) (fun cZ56 => ?_)
                                · replace h := cond_t cZ56 h
                                  cases h
                                  try simp only [VS1, VS2, VS3, VS4, VS5, VS6, VT1, VT2, finM_ret, finM_nrm, decide_true, decide_false, List.nodup_nil, List.nodup_cons, oks_p, oks_m, oks_h, ne_eq, not_false_eq_true, Int.reduceEq, Int.reduceNe, true_and, Nat.reduceSub, Nat.reduceMul, ↓reduceIte, reduceCtorEq, Nat.reduceEqDiff, Nat.reduceAdd, Nat.reduceLeDiff, Int.reduceLE, cZ2, cZ4, cZ16, cZ19, cZ22, cZ31, eZ35, cZ37, eZ39, cZ41, cZ42, cZ51, cZ53, cZ55, cZ56]
                                  all_goals simp [qL, qJ, qJ0, qS, qX, qR, qM, Shp, sub, tupd, VS1, VS2, VS3, VS4, VS5, VS6, VT1, VT2, V10]
                                · replace h := cond_f cZ56 h
                                  cases h
                                  try simp only [VS1, VS2, VS3, VS4, VS5, VS6, VT1, VT2, finM_ret, finM_nrm, decide_true, decide_false, List.nodup_nil, List.nodup_cons, oks_p, oks_m, oks_h, ne_eq, not_false_eq_true, Int.reduceEq, Int.reduceNe, true_and, Nat.reduceSub, Nat.reduceMul, ↓reduceIte, reduceCtorEq, Nat.reduceEqDiff, Nat.reduceAdd, Nat.reduceLeDiff, Int.reduceLE, cZ2, cZ4, cZ16, cZ19, cZ22, cZ31, eZ35, cZ37, eZ39, cZ41, cZ42, cZ51, cZ53, cZ55, cZ56]
                                  all_goals simp [qL, qJ, qJ0, qS, qX, qR, qM, Shp, sub, tupd, VS1, VS2, VS3, VS4, VS5, VS6, VT1, VT2, V10]
end Vs

