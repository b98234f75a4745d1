/-
  Part of the proof that the law FnExactPackDescending returns true at every input; no condition beside the row's own.
-/
import Derived.Test.YtgbifbhfdjdhbaaAa
set_option linter.unusedSimpArgs false
set_option linter.unusedVariables false
set_option maxHeartbeats 1000000
namespace Vs
open Go Go.Proofs
attribute [local irreducible] AWP stOps eff awpC callA callM
theorem VT1 : True := trivial
theorem VT2 : True := trivial
theorem VF1 : True := trivial
def S_laws_toIntSL1 (aZ0 : List Int) (v : Int × List Int) : St := ⟨[(0, .lst .o 1 (aZ0.map AV.i)), (3, .sl 3 0 v.2.length), (4, .i v.1)], [(3, .arr 1 (v.2.map AV.i))]⟩
def SX_laws_toIntSL1 (v : List Int) : St := ⟨[(3, .sl 3 0 v.length)], [(3, .arr 1 (v.map AV.i))]⟩
theorem w_laws_toIntSL1 (aZ0 : List Int) (sZ4 : Int × List Int) (o : (Int × List Int) ⊕ (List Int)) (h : M_laws_toIntSL1 aZ0 sZ4 = some o) : AWP (OkS Try.prog) A20L1 (qL [0, 3, 4] [3] (S_laws_toIntSL1 aZ0) (qX 0 [3] [3] (SX_laws_toIntSL1)) o) (S_laws_toIntSL1 aZ0 sZ4) := by
  unfold M_laws_toIntSL1 at h
  simp only [S_laws_toIntSL1, A20L1]
  refine Or.elim (bt (decide (sZ4.1 < (aZ0.length : Int)))) (fun cZ5 => ?_) (fun cZ5 => ?_)
  · replace h := cond_t cZ5 h
    obtain ⟨yZ6, hyZ6, h⟩ := bind_s h
    obtain ⟨hyZ6a, hyZ6b⟩ := geti_s hyZ6
    obtain ⟨kZ7, hkZ7, h⟩ := bind_s h
    obtain ⟨hkZ7a, hkZ7b⟩ := grd_s hkZ7
    obtain ⟨yZ8, hyZ8, h⟩ := bind_s h
    obtain ⟨lZ9, hlZ9, h⟩ := bnd_s h
    have eZ10 : (sZ4.2.map AV.i).set (Int.toNat sZ4.1) (.i yZ6) = lZ9.map AV.i := by rw [← hlZ9, List.map_set]
    cases h
    try simp only [VS1, VS2, VS3, VS4, VS5, VS6, VT1, VT2, finM_ret, finM_nrm, decide_true, decide_false, List.nodup_nil, List.nodup_cons, oks_p, oks_m, Nat.reduceSub, Nat.reduceMul, ↓reduceIte, reduceCtorEq, Nat.reduceEqDiff, Nat.reduceAdd, Nat.reduceLeDiff, Int.reduceLE, cZ5, hyZ6a, hyZ6b, hkZ7a, hkZ7b, hyZ8, eZ10]
    all_goals simp [qL, qJ, qJ0, qS, qX, qR, qM, Shp, sub, tupd, VS1, VS2, VS3, VS4, VS5, VS6, VT1, VT2, S_laws_toIntSL1, SX_laws_toIntSL1, ← hlZ9]
  · replace h := cond_f cZ5 h
    cases h
    try simp only [VS1, VS2, VS3, VS4, VS5, VS6, VT1, VT2, finM_ret, finM_nrm, decide_true, decide_false, List.nodup_nil, List.nodup_cons, oks_p, oks_m, Nat.reduceSub, Nat.reduceMul, ↓reduceIte, reduceCtorEq, Nat.reduceEqDiff, Nat.reduceAdd, Nat.reduceLeDiff, Int.reduceLE, cZ5]
    all_goals simp [qL, qJ, qJ0, qS, qX, qR, qM, Shp, sub, tupd, VS1, VS2, VS3, VS4, VS5, VS6, VT1, VT2, S_laws_toIntSL1, SX_laws_toIntSL1]
theorem w_laws_toIntS (aZ0 : List Int) {r : List Int} (h : M_laws_toIntS aZ0 = some r) : Ok Try.prog 20 [.lst .o 1 (aZ0.map AV.i)] ((fun r => .lst .u 1 (r.map AV.i)) r) := by
  refine ok_of_body hmix m20 rfl ?_
  unfold M_laws_toIntS at h
  simp only [A20, V20, body_eq]
  obtain ⟨uZ1, huZ1, h⟩ := bind_s h
  obtain ⟨huZ11, huZ12, huZ13, huZ14⟩ := grd_s huZ1
  obtain ⟨lZ2, hlZ2, h⟩ := bnd_s h
  have eZ3 : List.replicate (Int.toNat (aZ0.length : Int)) (.i 0 : AV) = lZ2.map AV.i := by rw [← hlZ2, List.map_replicate]
  obtain ⟨oZ11, hoZ11, h⟩ := bind_s h
  try simp only [VS1, VS2, VS3, VS4, VS5, VS6, VT1, VT2, finM_ret, finM_nrm, decide_true, decide_false, List.nodup_nil, List.nodup_cons, oks_p, oks_m, Nat.reduceSub, Nat.reduceMul, ↓reduceIte, reduceCtorEq, Nat.reduceEqDiff, Nat.reduceAdd, Nat.reduceLeDiff, Int.reduceLE, huZ11, huZ12, huZ13, huZ14, eZ3]
  refine join_rule0 (blk_rule0 (loop_rule (w_laws_toIntSL1 aZ0) hoZ11 ?_)) ?_
  · all_goals simp [qL, qJ, qJ0, qS, qX, qR, qM, Shp, sub, tupd, VS1, VS2, VS3, VS4, VS5, VS6, VT1, VT2, S_laws_toIntSL1, SX_laws_toIntSL1, ← hlZ2, List.length_replicate]
  · simp only [SX_laws_toIntSL1, A20R2]
    cases h
    try simp only [VS1, VS2, VS3, VS4, VS5, VS6, VT1, VT2, finM_ret, finM_nrm, decide_true, decide_false, List.nodup_nil, List.nodup_cons, oks_p, oks_m, Nat.reduceSub, Nat.reduceMul, ↓reduceIte, reduceCtorEq, Nat.reduceEqDiff, Nat.reduceAdd, Nat.reduceLeDiff, Int.reduceLE, huZ11, huZ12, huZ13, huZ14, eZ3]
    all_goals simp [qL, qJ, qJ0, qS, qX, qR, qM, Shp, sub, tupd, VS1, VS2, VS3, VS4, VS5, VS6, VT1, VT2, V20]
theorem w_spec_l1In (xZ0 : Int) (aZ0 : Int) (bZ0 : Int) {r : Bool} (h : M_spec_l1In xZ0 aZ0 bZ0 = some r) : Ok Try.prog 67 [.i xZ0, .i aZ0, .i bZ0] ((fun r => .b r) r) := by
  refine ok_of_body hmix m67 rfl ?_
  unfold M_spec_l1In at h
  simp only [A67, V67, body_eq]
  refine Or.elim (bt (decide (aZ0 ≤ xZ0))) (fun cZ1 => ?_) (fun cZ1 => ?_)
  · replace h := cond_t cZ1 h
    cases h
    try simp only [VS1, VS2, VS3, VS4, VS5, VS6, VT1, VT2, finM_ret, finM_nrm, decide_true, decide_false, List.nodup_nil, List.nodup_cons, oks_p, oks_m, Nat.reduceSub, Nat.reduceMul, ↓reduceIte, reduceCtorEq, Nat.reduceEqDiff, Nat.reduceAdd, Nat.reduceLeDiff, Int.reduceLE, cZ1]
    all_goals simp [qL, qJ, qJ0, qS, qX, qR, qM, Shp, sub, tupd, VS1, VS2, VS3, VS4, VS5, VS6, VT1, VT2, V67]
  · replace h := cond_f cZ1 h
    cases h
    try simp only [VS1, VS2, VS3, VS4, VS5, VS6, VT1, VT2, finM_ret, finM_nrm, decide_true, decide_false, List.nodup_nil, List.nodup_cons, oks_p, oks_m, Nat.reduceSub, Nat.reduceMul, ↓reduceIte, reduceCtorEq, Nat.reduceEqDiff, Nat.reduceAdd, Nat.reduceLeDiff, Int.reduceLE, cZ1]
    all_goals simp [qL, qJ, qJ0, qS, qX, qR, qM, Shp, sub, tupd, VS1, VS2, VS3, VS4, VS5, VS6, VT1, VT2, V67]
def S_spec_l18RatesL1 (ratesZ0 : List Int) (capacityZ0 : Int) (v : Int) : St := ⟨[(0, .lst .o 1 (ratesZ0.map AV.i)), (1, .i capacityZ0), (5, .i v)], []⟩
def SX_spec_l18RatesL1 (ratesZ0 : List Int) (capacityZ0 : Int) (v : Unit) : St := ⟨[(0, .lst .o 1 (ratesZ0.map AV.i)), (1, .i capacityZ0)], []⟩
theorem w_spec_l18RatesL1 (ratesZ0 : List Int) (capacityZ0 : Int) (sZ1 : Int) (o : Int ⊕ (Unit ⊕ Bool)) (h : M_spec_l18RatesL1 ratesZ0 capacityZ0 sZ1 = some o) : AWP (OkS Try.prog) A60L2 (qL [0, 1, 5] [] (S_spec_l18RatesL1 ratesZ0 capacityZ0) (qS (qX 0 [0, 1] [] (SX_spec_l18RatesL1 ratesZ0 capacityZ0)) (qR V60 (fun r => .b r))) o) (S_spec_l18RatesL1 ratesZ0 capacityZ0 sZ1) := by
  unfold M_spec_l18RatesL1 at h
  simp only [S_spec_l18RatesL1, A60L2]
  obtain ⟨oZ3, hoZ3, h⟩ := bind_s h
  try simp only [VS1, VS2, VS3, VS4, VS5, VS6, VT1, VT2, finM_ret, finM_nrm, decide_true, decide_false, List.nodup_nil, List.nodup_cons, oks_p, oks_m, Nat.reduceSub, Nat.reduceMul, ↓reduceIte, reduceCtorEq, Nat.reduceEqDiff, Nat.reduceAdd, Nat.reduceLeDiff, Int.reduceLE]
  refine join_rule0 (sh := (fun v => ⟨[(0, .lst .o 1 (ratesZ0.map AV.i)), (1, .i capacityZ0), (5, .i sZ1), (13, .b v)], []⟩)) (s := oZ3) ?_ ?_
  · replace h := hoZ3
    refine Or.elim (bt (decide (sZ1 < (ratesZ0.length : Int)))) (fun cZ2 => ?_) (fun cZ2 => ?_)
    · replace h := cond_t cZ2 h
      cases h
      try simp only [VS1, VS2, VS3, VS4, VS5, VS6, VT1, VT2, finM_ret, finM_nrm, decide_true, decide_false, List.nodup_nil, List.nodup_cons, oks_p, oks_m, Nat.reduceSub, Nat.reduceMul, ↓reduceIte, reduceCtorEq, Nat.reduceEqDiff, Nat.reduceAdd, Nat.reduceLeDiff, Int.reduceLE, cZ2]
      all_goals simp [qL, qJ, qJ0, qS, qX, qR, qM, Shp, sub, tupd, VS1, VS2, VS3, VS4, VS5, VS6, VT1, VT2]
    · replace h := cond_f cZ2 h
      cases h
      try simp only [VS1, VS2, VS3, VS4, VS5, VS6, VT1, VT2, finM_ret, finM_nrm, decide_true, decide_false, List.nodup_nil, List.nodup_cons, oks_p, oks_m, Nat.reduceSub, Nat.reduceMul, ↓reduceIte, reduceCtorEq, Nat.reduceEqDiff, Nat.reduceAdd, Nat.reduceLeDiff, Int.reduceLE, cZ2]
      all_goals simp [qL, qJ, qJ0, qS, qX, qR, qM, Shp, sub, tupd, VS1, VS2, VS3, VS4, VS5, VS6, VT1, VT2]
  · simp only [A60R1]
    refine Or.elim (bt (oZ3)) (fun cZ4 => ?_) (fun cZ4 => ?_)
    · replace h := cond_t cZ4 h
      obtain ⟨yZ5, hyZ5, h⟩ := bind_s h
      obtain ⟨hyZ5a, hyZ5b⟩ := geti_s hyZ5
      obtain ⟨rZ6, hrZ6, h⟩ := bind_s h
      simp only [VS1, VS2, VS3, VS4, VS5, VS6, VT1, VT2, finM_ret, finM_nrm, decide_true, decide_false, List.nodup_nil, List.nodup_cons, oks_p, oks_m, Nat.reduceSub, Nat.reduceMul, ↓reduceIte, reduceCtorEq, Nat.reduceEqDiff, Nat.reduceAdd, Nat.reduceLeDiff, Int.reduceLE, cZ4, hyZ5a, hyZ5b]
      refine call_s (by simp only [VS1, VS2, VS3, VS4, VS5, VS6, VT1, VT2, finM_ret, finM_nrm, decide_true, decide_false, List.nodup_nil, List.nodup_cons, oks_p, oks_m, Nat.reduceSub, Nat.reduceMul, ↓reduceIte, reduceCtorEq, Nat.reduceEqDiff, Nat.reduceAdd, Nat.reduceLeDiff, Int.reduceLE, cZ4, hyZ5a, hyZ5b]; exact w_spec_l1In _ _ _ hrZ6 ) ?_
      simp only [VA, VF1, ↓reduceIte, Nat.reduceEqDiff, Nat.reduceAdd, Nat.reduceMul, Nat.reduceSub, Nat.reduceLeDiff]
      refine Or.elim (bt (!rZ6)) (fun cZ7 => ?_) (fun cZ7 => ?_)
      · replace h := cond_t cZ7 h
        cases h
        try simp only [VS1, VS2, VS3, VS4, VS5, VS6, VT1, VT2, finM_ret, finM_nrm, decide_true, decide_false, List.nodup_nil, List.nodup_cons, oks_p, oks_m, Nat.reduceSub, Nat.reduceMul, ↓reduceIte, reduceCtorEq, Nat.reduceEqDiff, Nat.reduceAdd, Nat.reduceLeDiff, Int.reduceLE, cZ4, hyZ5a, hyZ5b, cZ7]
        all_goals simp [qL, qJ, qJ0, qS, qX, qR, qM, Shp, sub, tupd, VS1, VS2, VS3, VS4, VS5, VS6, VT1, VT2, V60]
      · replace h := cond_f cZ7 h
        cases h
        try simp only [VS1, VS2, VS3, VS4, VS5, VS6, VT1, VT2, finM_ret, finM_nrm, decide_true, decide_false, List.nodup_nil, List.nodup_cons, oks_p, oks_m, Nat.reduceSub, Nat.reduceMul, ↓reduceIte, reduceCtorEq, Nat.reduceEqDiff, Nat.reduceAdd, Nat.reduceLeDiff, Int.reduceLE, cZ4, hyZ5a, hyZ5b, cZ7]
        all_goals simp [qL, qJ, qJ0, qS, qX, qR, qM, Shp, sub, tupd, VS1, VS2, VS3, VS4, VS5, VS6, VT1, VT2, S_spec_l18RatesL1, SX_spec_l18RatesL1]
    · replace h := cond_f cZ4 h
      cases h
      try simp only [VS1, VS2, VS3, VS4, VS5, VS6, VT1, VT2, finM_ret, finM_nrm, decide_true, decide_false, List.nodup_nil, List.nodup_cons, oks_p, oks_m, Nat.reduceSub, Nat.reduceMul, ↓reduceIte, reduceCtorEq, Nat.reduceEqDiff, Nat.reduceAdd, Nat.reduceLeDiff, Int.reduceLE, cZ4]
      all_goals simp [qL, qJ, qJ0, qS, qX, qR, qM, Shp, sub, tupd, VS1, VS2, VS3, VS4, VS5, VS6, VT1, VT2, S_spec_l18RatesL1, SX_spec_l18RatesL1]
theorem w_spec_l18Rates (ratesZ0 : List Int) (capacityZ0 : Int) {r : Bool} (h : M_spec_l18Rates ratesZ0 capacityZ0 = some r) : Ok Try.prog 60 [.lst .o 1 (ratesZ0.map AV.i), .i capacityZ0] ((fun r => .b r) r) := by
  refine ok_of_body hmix m60 rfl ?_
  unfold M_spec_l18Rates at h
  simp only [A60, V60, body_eq]
  obtain ⟨oZ8, hoZ8, h⟩ := bind_s h
  try simp only [VS1, VS2, VS3, VS4, VS5, VS6, VT1, VT2, finM_ret, finM_nrm, decide_true, decide_false, List.nodup_nil, List.nodup_cons, oks_p, oks_m, Nat.reduceSub, Nat.reduceMul, ↓reduceIte, reduceCtorEq, Nat.reduceEqDiff, Nat.reduceAdd, Nat.reduceLeDiff, Int.reduceLE]
  refine join_rule (o := oZ8) (blk_rule sideR (loop_rule (w_spec_l18RatesL1 ratesZ0 capacityZ0) hoZ8 ?_)) (fun vZ9 hv => ?_) (fun xZ10 hv e τ hne hq => ?_)
  · all_goals simp [qL, qJ, qJ0, qS, qX, qR, qM, Shp, sub, tupd, VS1, VS2, VS3, VS4, VS5, VS6, VT1, VT2, S_spec_l18RatesL1, SX_spec_l18RatesL1]
  · subst hv
    simp only [] at h
    simp only [SX_spec_l18RatesL1, A60R3]
    refine Or.elim (bt (decide ((ratesZ0.length : Int) ≤ 12))) (fun cZ11 => ?_) (fun cZ11 => ?_)
    · replace h := cond_t cZ11 h
      obtain ⟨rZ12, hrZ12, h⟩ := bind_s h
      simp only [VS1, VS2, VS3, VS4, VS5, VS6, VT1, VT2, finM_ret, finM_nrm, decide_true, decide_false, List.nodup_nil, List.nodup_cons, oks_p, oks_m, Nat.reduceSub, Nat.reduceMul, ↓reduceIte, reduceCtorEq, Nat.reduceEqDiff, Nat.reduceAdd, Nat.reduceLeDiff, Int.reduceLE, cZ11]
      refine call_s (by simp only [VS1, VS2, VS3, VS4, VS5, VS6, VT1, VT2, finM_ret, finM_nrm, decide_true, decide_false, List.nodup_nil, List.nodup_cons, oks_p, oks_m, Nat.reduceSub, Nat.reduceMul, ↓reduceIte, reduceCtorEq, Nat.reduceEqDiff, Nat.reduceAdd, Nat.reduceLeDiff, Int.reduceLE, cZ11]; exact w_spec_l1In _ _ _ hrZ12 ) ?_
      simp only [VA, VF1, ↓reduceIte, Nat.reduceEqDiff, Nat.reduceAdd, Nat.reduceMul, Nat.reduceSub, Nat.reduceLeDiff]
      cases h
      try simp only [VS1, VS2, VS3, VS4, VS5, VS6, VT1, VT2, finM_ret, finM_nrm, decide_true, decide_false, List.nodup_nil, List.nodup_cons, oks_p, oks_m, Nat.reduceSub, Nat.reduceMul, ↓reduceIte, reduceCtorEq, Nat.reduceEqDiff, Nat.reduceAdd, Nat.reduceLeDiff, Int.reduceLE, cZ11]
      all_goals simp [qL, qJ, qJ0, qS, qX, qR, qM, Shp, sub, tupd, VS1, VS2, VS3, VS4, VS5, VS6, VT1, VT2, V60]
    · replace h := cond_f cZ11 h
      cases h
      try simp only [VS1, VS2, VS3, VS4, VS5, VS6, VT1, VT2, finM_ret, finM_nrm, decide_true, decide_false, List.nodup_nil, List.nodup_cons, oks_p, oks_m, Nat.reduceSub, Nat.reduceMul, ↓reduceIte, reduceCtorEq, Nat.reduceEqDiff, Nat.reduceAdd, Nat.reduceLeDiff, Int.reduceLE, cZ11]
      all_goals simp [qL, qJ, qJ0, qS, qX, qR, qM, Shp, sub, tupd, VS1, VS2, VS3, VS4, VS5, VS6, VT1, VT2, V60]
  · subst hv
    simp only [] at h
    obtain ⟨rfl, qZ13⟩ := hq
    cases h
    exact qZ13
def S_spec_l18OrderL2 (ratesZ0 : List Int) (descendingZ0 : Bool) (sZ1 : Int × List Int) (v : Int) : St := ⟨[(0, .lst .o 1 (ratesZ0.map AV.i)), (1, .b descendingZ0), (5, .sl 5 0 sZ1.2.length), (6, .i sZ1.1), (7, .i v)], [(5, .arr 1 (sZ1.2.map AV.i))]⟩
def SX_spec_l18OrderL2 (ratesZ0 : List Int) (descendingZ0 : Bool) (sZ1 : Int × List Int) (v : Int) : St := ⟨[(0, .lst .o 1 (ratesZ0.map AV.i)), (1, .b descendingZ0), (5, .sl 5 0 sZ1.2.length), (6, .i sZ1.1), (7, .i v)], [(5, .arr 1 (sZ1.2.map AV.i))]⟩
theorem w_spec_l18OrderL2 (ratesZ0 : List Int) (descendingZ0 : Bool) (sZ1 : Int × List Int) (sZ3 : Int) (o : Int ⊕ Int) (h : M_spec_l18OrderL2 ratesZ0 descendingZ0 sZ1 sZ3 = some o) : AWP (OkS Try.prog) A62L1 (qL [0, 1, 5, 6, 7] [5] (S_spec_l18OrderL2 ratesZ0 descendingZ0 sZ1) (qX 2 [0, 1, 5, 6, 7] [5] (SX_spec_l18OrderL2 ratesZ0 descendingZ0 sZ1)) o) (S_spec_l18OrderL2 ratesZ0 descendingZ0 sZ1 sZ3) := by
  unfold M_spec_l18OrderL2 at h
  simp only [S_spec_l18OrderL2, A62L1]
  refine Or.elim (bt (descendingZ0)) (fun cZ4 => ?_) (fun cZ4 => ?_)
  · replace h := cond_t cZ4 h
    refine Or.elim (bt (decide (0 < sZ3))) (fun cZ5 => ?_) (fun cZ5 => ?_)
    · replace h := cond_t cZ5 h
      obtain ⟨kZ6, hkZ6, h⟩ := bind_s h
      obtain ⟨hkZ6a, hkZ6b⟩ := grd_s hkZ6
      obtain ⟨yZ7, hyZ7, h⟩ := bind_s h
      obtain ⟨yZ8, hyZ8, h⟩ := bind_s h
      obtain ⟨hyZ8a, hyZ8b⟩ := geti_s hyZ8
      obtain ⟨yZ9, hyZ9, h⟩ := bind_s h
      obtain ⟨hyZ9a, hyZ9b⟩ := geti_s hyZ9
      refine Or.elim (bt (decide (yZ8 < yZ9))) (fun cZ10 => ?_) (fun cZ10 => ?_)
      · replace h := cond_t cZ10 h
        cases h
        try simp only [VS1, VS2, VS3, VS4, VS5, VS6, VT1, VT2, finM_ret, finM_nrm, decide_true, decide_false, List.nodup_nil, List.nodup_cons, oks_p, oks_m, Nat.reduceSub, Nat.reduceMul, ↓reduceIte, reduceCtorEq, Nat.reduceEqDiff, Nat.reduceAdd, Nat.reduceLeDiff, Int.reduceLE, cZ4, cZ5, hkZ6a, hkZ6b, hyZ7, hyZ8a, hyZ8b, hyZ9a, hyZ9b, cZ10]
        all_goals simp [qL, qJ, qJ0, qS, qX, qR, qM, Shp, sub, tupd, VS1, VS2, VS3, VS4, VS5, VS6, VT1, VT2, S_spec_l18OrderL2, SX_spec_l18OrderL2]
      · replace h := cond_f cZ10 h
        cases h
        try simp only [VS1, VS2, VS3, VS4, VS5, VS6, VT1, VT2, finM_ret, finM_nrm, decide_true, decide_false, List.nodup_nil, List.nodup_cons, oks_p, oks_m, Nat.reduceSub, Nat.reduceMul, ↓reduceIte, reduceCtorEq, Nat.reduceEqDiff, Nat.reduceAdd, Nat.reduceLeDiff, Int.reduceLE, cZ4, cZ5, hkZ6a, hkZ6b, hyZ7, hyZ8a, hyZ8b, hyZ9a, hyZ9b, cZ10]
        all_goals simp [qL, qJ, qJ0, qS, qX, qR, qM, Shp, sub, tupd, VS1, VS2, VS3, VS4, VS5, VS6, VT1, VT2, S_spec_l18OrderL2, SX_spec_l18OrderL2]
    · replace h := cond_f cZ5 h
      cases h
      try simp only [VS1, VS2, VS3, VS4, VS5, VS6, VT1, VT2, finM_ret, finM_nrm, decide_true, decide_false, List.nodup_nil, List.nodup_cons, oks_p, oks_m, Nat.reduceSub, Nat.reduceMul, ↓reduceIte, reduceCtorEq, Nat.reduceEqDiff, Nat.reduceAdd, Nat.reduceLeDiff, Int.reduceLE, cZ4, cZ5]
      all_goals simp [qL, qJ, qJ0, qS, qX, qR, qM, Shp, sub, tupd, VS1, VS2, VS3, VS4, VS5, VS6, VT1, VT2, S_spec_l18OrderL2, SX_spec_l18OrderL2]
  · replace h := cond_f cZ4 h
    cases h
    try simp only [VS1, VS2, VS3, VS4, VS5, VS6, VT1, VT2, finM_ret, finM_nrm, decide_true, decide_false, List.nodup_nil, List.nodup_cons, oks_p, oks_m, Nat.reduceSub, Nat.reduceMul, ↓reduceIte, reduceCtorEq, Nat.reduceEqDiff, Nat.reduceAdd, Nat.reduceLeDiff, Int.reduceLE, cZ4]
    all_goals simp [qL, qJ, qJ0, qS, qX, qR, qM, Shp, sub, tupd, VS1, VS2, VS3, VS4, VS5, VS6, VT1, VT2, S_spec_l18OrderL2, SX_spec_l18OrderL2]
def S_spec_l18OrderL1 (ratesZ0 : List Int) (descendingZ0 : Bool) (v : Int × List Int) : St := ⟨[(0, .lst .o 1 (ratesZ0.map AV.i)), (1, .b descendingZ0), (5, .sl 5 0 v.2.length), (6, .i v.1)], [(5, .arr 1 (v.2.map AV.i))]⟩
def SX_spec_l18OrderL1 (v : List Int) : St := ⟨[(5, .sl 5 0 v.length)], [(5, .arr 1 (v.map AV.i))]⟩
theorem w_spec_l18OrderL1 (ratesZ0 : List Int) (descendingZ0 : Bool) (sZ1 : Int × List Int) (o : (Int × List Int) ⊕ (List Int)) (h : M_spec_l18OrderL1 ratesZ0 descendingZ0 sZ1 = some o) : AWP (OkS Try.prog) A62L3 (qL [0, 1, 5, 6] [5] (S_spec_l18OrderL1 ratesZ0 descendingZ0) (qX 0 [5] [5] (SX_spec_l18OrderL1)) o) (S_spec_l18OrderL1 ratesZ0 descendingZ0 sZ1) := by
  unfold M_spec_l18OrderL1 at h
  simp only [S_spec_l18OrderL1, A62L3]
  refine Or.elim (bt (decide (sZ1.1 < (ratesZ0.length : Int)))) (fun cZ2 => ?_) (fun cZ2 => ?_)
  · replace h := cond_t cZ2 h
    obtain ⟨oZ11, hoZ11, h⟩ := bind_s h
    try simp only [VS1, VS2, VS3, VS4, VS5, VS6, VT1, VT2, finM_ret, finM_nrm, decide_true, decide_false, List.nodup_nil, List.nodup_cons, oks_p, oks_m, Nat.reduceSub, Nat.reduceMul, ↓reduceIte, reduceCtorEq, Nat.reduceEqDiff, Nat.reduceAdd, Nat.reduceLeDiff, Int.reduceLE, cZ2]
    refine join_rule0 (blk_rule0 (loop_rule (w_spec_l18OrderL2 ratesZ0 descendingZ0 sZ1) hoZ11 ?_)) ?_
    · all_goals simp [qL, qJ, qJ0, qS, qX, qR, qM, Shp, sub, tupd, VS1, VS2, VS3, VS4, VS5, VS6, VT1, VT2, S_spec_l18OrderL2, SX_spec_l18OrderL2]
    · simp only [SX_spec_l18OrderL2, A62R2]
      obtain ⟨uZ12, huZ12, h⟩ := bind_s h
      obtain ⟨huZ12a, huZ12b, huZ12c, huZ12d⟩ := grd_s huZ12
      obtain ⟨lZ13, hlZ13, h⟩ := bnd_s h
      have eZ14 : sub (sZ1.2.map AV.i) 0 (Int.toNat oZ11) = lZ13.map AV.i := by rw [sub_mapT, hlZ13]
      obtain ⟨uZ15, huZ15, h⟩ := bind_s h
      have huZ15g := grd_s huZ15
      obtain ⟨lZ16, hlZ16, h⟩ := bnd_s h
      have eZ17 : Row.arr 1 [(.i sZ1.1 : AV)] = Row.arr 1 (lZ16.map AV.i) := by rw [← hlZ16]; rfl
      have eZ18 : lZ16.length = 1 := by rw [← hlZ16]; rfl
      obtain ⟨uZ19, huZ19, h⟩ := bind_s h
      have huZ19g := grd_s huZ19
      obtain ⟨lZ20, hlZ20, h⟩ := bnd_s h
      have eZ21 : lZ13.map AV.i ++ lZ16.map AV.i = lZ20.map AV.i := by rw [← hlZ20, List.map_append]
      have eZ22 : lZ13.length + 1 = lZ20.length := by simp [← hlZ16, ← hlZ20] <;> omega
      rw [eZ22] at huZ19g
      obtain ⟨uZ23, huZ23, h⟩ := bind_s h
      obtain ⟨huZ23a, huZ23b, huZ23c, huZ23d⟩ := grd_s huZ23
      obtain ⟨lZ24, hlZ24, h⟩ := bnd_s h
      have eZ25 : sub (sZ1.2.map AV.i) (Int.toNat oZ11) (sZ1.2.length - (Int.toNat oZ11)) = lZ24.map AV.i := by rw [sub_mapT, hlZ24]
      obtain ⟨uZ26, huZ26, h⟩ := bind_s h
      have huZ26g := grd_s huZ26
      obtain ⟨lZ27, hlZ27, h⟩ := bnd_s h
      have eZ28 : lZ20.map AV.i ++ lZ24.map AV.i = lZ27.map AV.i := by rw [← hlZ27, List.map_append]
      have eZ29 : lZ20.length + lZ24.length = lZ27.length := by simp [← hlZ16, ← hlZ20, ← hlZ27] <;> omega
      rw [eZ29] at huZ26g
      cases h
      try simp only [VS1, VS2, VS3, VS4, VS5, VS6, VT1, VT2, finM_ret, finM_nrm, decide_true, decide_false, List.nodup_nil, List.nodup_cons, oks_p, oks_m, Nat.reduceSub, Nat.reduceMul, ↓reduceIte, reduceCtorEq, Nat.reduceEqDiff, Nat.reduceAdd, Nat.reduceLeDiff, Int.reduceLE, cZ2, huZ12a, huZ12b, huZ12c, huZ12d, eZ14, huZ15g, eZ17, eZ18, huZ19g, eZ21, eZ22, huZ23a, huZ23b, huZ23c, huZ23d, eZ25, huZ26g, eZ28, eZ29]
      all_goals simp [qL, qJ, qJ0, qS, qX, qR, qM, Shp, sub, tupd, VS1, VS2, VS3, VS4, VS5, VS6, VT1, VT2, S_spec_l18OrderL1, SX_spec_l18OrderL1, ← hlZ16, ← hlZ20, ← hlZ27]
  · replace h := cond_f cZ2 h
    cases h
    try simp only [VS1, VS2, VS3, VS4, VS5, VS6, VT1, VT2, finM_ret, finM_nrm, decide_true, decide_false, List.nodup_nil, List.nodup_cons, oks_p, oks_m, Nat.reduceSub, Nat.reduceMul, ↓reduceIte, reduceCtorEq, Nat.reduceEqDiff, Nat.reduceAdd, Nat.reduceLeDiff, Int.reduceLE, cZ2]
    all_goals simp [qL, qJ, qJ0, qS, qX, qR, qM, Shp, sub, tupd, VS1, VS2, VS3, VS4, VS5, VS6, VT1, VT2, S_spec_l18OrderL1, SX_spec_l18OrderL1]
theorem w_spec_l18Order (ratesZ0 : List Int) (descendingZ0 : Bool) {r : List Int} (h : M_spec_l18Order ratesZ0 descendingZ0 = some r) : Ok Try.prog 62 [.lst .o 1 (ratesZ0.map AV.i), .b descendingZ0] ((fun r => .lst .u 1 (r.map AV.i)) r) := by
  refine ok_of_body hmix m62 rfl ?_
  unfold M_spec_l18Order at h
  simp only [A62, V62, body_eq]
  obtain ⟨oZ30, hoZ30, h⟩ := bind_s h
  try simp only [VS1, VS2, VS3, VS4, VS5, VS6, VT1, VT2, finM_ret, finM_nrm, decide_true, decide_false, List.nodup_nil, List.nodup_cons, oks_p, oks_m, Nat.reduceSub, Nat.reduceMul, ↓reduceIte, reduceCtorEq, Nat.reduceEqDiff, Nat.reduceAdd, Nat.reduceLeDiff, Int.reduceLE]
  refine join_rule0 (blk_rule0 (loop_rule (w_spec_l18OrderL1 ratesZ0 descendingZ0) hoZ30 ?_)) ?_
  · all_goals simp [qL, qJ, qJ0, qS, qX, qR, qM, Shp, sub, tupd, VS1, VS2, VS3, VS4, VS5, VS6, VT1, VT2, S_spec_l18OrderL1, SX_spec_l18OrderL1]
  · simp only [SX_spec_l18OrderL1, A62R4]
    cases h
    try simp only [VS1, VS2, VS3, VS4, VS5, VS6, VT1, VT2, finM_ret, finM_nrm, decide_true, decide_false, List.nodup_nil, List.nodup_cons, oks_p, oks_m, Nat.reduceSub, Nat.reduceMul, ↓reduceIte, reduceCtorEq, Nat.reduceEqDiff, Nat.reduceAdd, Nat.reduceLeDiff, Int.reduceLE]
    all_goals simp [qL, qJ, qJ0, qS, qX, qR, qM, Shp, sub, tupd, VS1, VS2, VS3, VS4, VS5, VS6, VT1, VT2, V62]
def S_spec_l18PackL2 (ratesZ0 : List Int) (orderZ0 : List Int) (capacityZ0 : Int) (sZ4 : Int × List Int × List Int) (yZ7 : Int) (v : Int) : St := ⟨[(0, .lst .o 1 (ratesZ0.map AV.i)), (1, .lst .o 1 (orderZ0.map AV.i)), (2, .i capacityZ0), (8, .sl 8 0 sZ4.2.1.length), (9, .sl 9 0 sZ4.2.2.length), (10, .i sZ4.1), (11, .i yZ7), (12, .i v)], [(8, .arr 1 (sZ4.2.1.map AV.i)), (9, .arr 1 (sZ4.2.2.map AV.i))]⟩
def SX_spec_l18PackL2 (ratesZ0 : List Int) (orderZ0 : List Int) (capacityZ0 : Int) (sZ4 : Int × List Int × List Int) (yZ7 : Int) (v : Int) : St := ⟨[(0, .lst .o 1 (ratesZ0.map AV.i)), (1, .lst .o 1 (orderZ0.map AV.i)), (2, .i capacityZ0), (8, .sl 8 0 sZ4.2.1.length), (9, .sl 9 0 sZ4.2.2.length), (10, .i sZ4.1), (11, .i yZ7), (12, .i v)], [(8, .arr 1 (sZ4.2.1.map AV.i)), (9, .arr 1 (sZ4.2.2.map AV.i))]⟩
theorem w_spec_l18PackL2 (ratesZ0 : List Int) (orderZ0 : List Int) (capacityZ0 : Int) (sZ4 : Int × List Int × List Int) (yZ7 : Int) (sZ8 : Int) (o : Int ⊕ Int) (h : M_spec_l18PackL2 sZ4 yZ7 sZ8 = some o) : AWP (OkS Try.prog) A61L1 (qL [0, 1, 2, 8, 9, 10, 11, 12] [8, 9] (S_spec_l18PackL2 ratesZ0 orderZ0 capacityZ0 sZ4 yZ7) (qX 2 [0, 1, 2, 8, 9, 10, 11, 12] [8, 9] (SX_spec_l18PackL2 ratesZ0 orderZ0 capacityZ0 sZ4 yZ7)) o) (S_spec_l18PackL2 ratesZ0 orderZ0 capacityZ0 sZ4 yZ7 sZ8) := by
  unfold M_spec_l18PackL2 at h
  simp only [S_spec_l18PackL2, A61L1]
  refine Or.elim (bt (decide (sZ8 < (sZ4.2.2.length : Int)))) (fun cZ9 => ?_) (fun cZ9 => ?_)
  · replace h := cond_t cZ9 h
    obtain ⟨kZ10, hkZ10, h⟩ := bind_s h
    obtain ⟨hkZ10a, hkZ10b⟩ := grd_s hkZ10
    obtain ⟨yZ11, hyZ11, h⟩ := bind_s h
    refine Or.elim (bt (decide (yZ11 < yZ7))) (fun cZ12 => ?_) (fun cZ12 => ?_)
    · replace h := cond_t cZ12 h
      cases h
      try simp only [VS1, VS2, VS3, VS4, VS5, VS6, VT1, VT2, finM_ret, finM_nrm, decide_true, decide_false, List.nodup_nil, List.nodup_cons, oks_p, oks_m, Nat.reduceSub, Nat.reduceMul, ↓reduceIte, reduceCtorEq, Nat.reduceEqDiff, Nat.reduceAdd, Nat.reduceLeDiff, Int.reduceLE, cZ9, hkZ10a, hkZ10b, hyZ11, cZ12]
      all_goals simp [qL, qJ, qJ0, qS, qX, qR, qM, Shp, sub, tupd, VS1, VS2, VS3, VS4, VS5, VS6, VT1, VT2, S_spec_l18PackL2, SX_spec_l18PackL2]
    · replace h := cond_f cZ12 h
      cases h
      try simp only [VS1, VS2, VS3, VS4, VS5, VS6, VT1, VT2, finM_ret, finM_nrm, decide_true, decide_false, List.nodup_nil, List.nodup_cons, oks_p, oks_m, Nat.reduceSub, Nat.reduceMul, ↓reduceIte, reduceCtorEq, Nat.reduceEqDiff, Nat.reduceAdd, Nat.reduceLeDiff, Int.reduceLE, cZ9, hkZ10a, hkZ10b, hyZ11, cZ12]
      all_goals simp [qL, qJ, qJ0, qS, qX, qR, qM, Shp, sub, tupd, VS1, VS2, VS3, VS4, VS5, VS6, VT1, VT2, S_spec_l18PackL2, SX_spec_l18PackL2]
  · replace h := cond_f cZ9 h
    cases h
    try simp only [VS1, VS2, VS3, VS4, VS5, VS6, VT1, VT2, finM_ret, finM_nrm, decide_true, decide_false, List.nodup_nil, List.nodup_cons, oks_p, oks_m, Nat.reduceSub, Nat.reduceMul, ↓reduceIte, reduceCtorEq, Nat.reduceEqDiff, Nat.reduceAdd, Nat.reduceLeDiff, Int.reduceLE, cZ9]
    all_goals simp [qL, qJ, qJ0, qS, qX, qR, qM, Shp, sub, tupd, VS1, VS2, VS3, VS4, VS5, VS6, VT1, VT2, S_spec_l18PackL2, SX_spec_l18PackL2]
def S_spec_l18PackL1 (ratesZ0 : List Int) (orderZ0 : List Int) (capacityZ0 : Int) (v : Int × List Int × List Int) : St := ⟨[(0, .lst .o 1 (ratesZ0.map AV.i)), (1, .lst .o 1 (orderZ0.map AV.i)), (2, .i capacityZ0), (8, .sl 8 0 v.2.1.length), (9, .sl 9 0 v.2.2.length), (10, .i v.1)], [(8, .arr 1 (v.2.1.map AV.i)), (9, .arr 1 (v.2.2.map AV.i))]⟩
def SX_spec_l18PackL1 (v : List Int × List Int) : St := ⟨[(8, .sl 8 0 v.1.length), (9, .sl 9 0 v.2.length)], [(8, .arr 1 (v.1.map AV.i)), (9, .arr 1 (v.2.map AV.i))]⟩
theorem w_spec_l18PackL1 (ratesZ0 : List Int) (orderZ0 : List Int) (capacityZ0 : Int) (sZ4 : Int × List Int × List Int) (o : (Int × List Int × List Int) ⊕ (List Int × List Int)) (h : M_spec_l18PackL1 ratesZ0 orderZ0 capacityZ0 sZ4 = some o) : AWP (OkS Try.prog) A61L4 (qL [0, 1, 2, 8, 9, 10] [8, 9] (S_spec_l18PackL1 ratesZ0 orderZ0 capacityZ0) (qX 0 [8, 9] [8, 9] (SX_spec_l18PackL1)) o) (S_spec_l18PackL1 ratesZ0 orderZ0 capacityZ0 sZ4) := by
  unfold M_spec_l18PackL1 at h
  simp only [S_spec_l18PackL1, A61L4]
  refine Or.elim (bt (decide (sZ4.1 < (orderZ0.length : Int)))) (fun cZ5 => ?_) (fun cZ5 => ?_)
  · replace h := cond_t cZ5 h
    obtain ⟨yZ6, hyZ6, h⟩ := bind_s h
    obtain ⟨hyZ6a, hyZ6b⟩ := geti_s hyZ6
    obtain ⟨yZ7, hyZ7, h⟩ := bind_s h
    obtain ⟨hyZ7a, hyZ7b⟩ := geti_s hyZ7
    obtain ⟨oZ13, hoZ13, h⟩ := bind_s h
    try simp only [VS1, VS2, VS3, VS4, VS5, VS6, VT1, VT2, finM_ret, finM_nrm, decide_true, decide_false, List.nodup_nil, List.nodup_cons, oks_p, oks_m, Nat.reduceSub, Nat.reduceMul, ↓reduceIte, reduceCtorEq, Nat.reduceEqDiff, Nat.reduceAdd, Nat.reduceLeDiff, Int.reduceLE, cZ5, hyZ6a, hyZ6b, hyZ7a, hyZ7b]
    refine join_rule0 (blk_rule0 (loop_rule (w_spec_l18PackL2 ratesZ0 orderZ0 capacityZ0 sZ4 yZ7) hoZ13 ?_)) ?_
    · all_goals simp [qL, qJ, qJ0, qS, qX, qR, qM, Shp, sub, tupd, VS1, VS2, VS3, VS4, VS5, VS6, VT1, VT2, S_spec_l18PackL2, SX_spec_l18PackL2]
    · simp only [SX_spec_l18PackL2, A61R2]
      obtain ⟨oZ22, hoZ22, h⟩ := bind_s h
      try simp only [VS1, VS2, VS3, VS4, VS5, VS6, VT1, VT2, finM_ret, finM_nrm, decide_true, decide_false, List.nodup_nil, List.nodup_cons, oks_p, oks_m, Nat.reduceSub, Nat.reduceMul, ↓reduceIte, reduceCtorEq, Nat.reduceEqDiff, Nat.reduceAdd, Nat.reduceLeDiff, Int.reduceLE, cZ5, hyZ6a, hyZ6b, hyZ7a, hyZ7b]
      refine join_rule0 (sh := (fun v => ⟨[(0, .lst .o 1 (ratesZ0.map AV.i)), (1, .lst .o 1 (orderZ0.map AV.i)), (2, .i capacityZ0), (8, .sl 8 0 sZ4.2.1.length), (9, .sl 9 0 v.length), (10, .i sZ4.1), (11, .i yZ7), (12, .i oZ13)], [(8, .arr 1 (sZ4.2.1.map AV.i)), (9, .arr 1 (v.map AV.i))]⟩)) (s := oZ22) ?_ ?_
      · replace h := hoZ22
        refine Or.elim (bt (oZ13 == (sZ4.2.2.length : Int))) (fun cZ14 => ?_) (fun cZ14 => ?_)
        · replace h := cond_t cZ14 h
          obtain ⟨lZ15, hlZ15, h⟩ := bnd_s h
          have eZ16 : Row.arr 1 [(.i capacityZ0 : AV)] = Row.arr 1 (lZ15.map AV.i) := by rw [← hlZ15]; rfl
          have eZ17 : lZ15.length = 1 := by rw [← hlZ15]; rfl
          obtain ⟨uZ18, huZ18, h⟩ := bind_s h
          have huZ18g := grd_s huZ18
          obtain ⟨lZ19, hlZ19, h⟩ := bnd_s h
          have eZ20 : sZ4.2.2.map AV.i ++ lZ15.map AV.i = lZ19.map AV.i := by rw [← hlZ19, List.map_append]
          have eZ21 : sZ4.2.2.length + 1 = lZ19.length := by simp [← hlZ15, ← hlZ19] <;> omega
          rw [eZ21] at huZ18g
          cases h
          try simp only [VS1, VS2, VS3, VS4, VS5, VS6, VT1, VT2, finM_ret, finM_nrm, decide_true, decide_false, List.nodup_nil, List.nodup_cons, oks_p, oks_m, Nat.reduceSub, Nat.reduceMul, ↓reduceIte, reduceCtorEq, Nat.reduceEqDiff, Nat.reduceAdd, Nat.reduceLeDiff, Int.reduceLE, cZ5, hyZ6a, hyZ6b, hyZ7a, hyZ7b, cZ14, eZ16, eZ17, huZ18g, eZ20, eZ21]
          all_goals simp [qL, qJ, qJ0, qS, qX, qR, qM, Shp, sub, tupd, VS1, VS2, VS3, VS4, VS5, VS6, VT1, VT2, ← hlZ15, ← hlZ19]
        · replace h := cond_f cZ14 h
          cases h
          try simp only [VS1, VS2, VS3, VS4, VS5, VS6, VT1, VT2, finM_ret, finM_nrm, decide_true, decide_false, List.nodup_nil, List.nodup_cons, oks_p, oks_m, Nat.reduceSub, Nat.reduceMul, ↓reduceIte, reduceCtorEq, Nat.reduceEqDiff, Nat.reduceAdd, Nat.reduceLeDiff, Int.reduceLE, cZ5, hyZ6a, hyZ6b, hyZ7a, hyZ7b, cZ14]
          all_goals simp [qL, qJ, qJ0, qS, qX, qR, qM, Shp, sub, tupd, VS1, VS2, VS3, VS4, VS5, VS6, VT1, VT2]
      · simp only [A61R3]
        obtain ⟨kZ23, hkZ23, h⟩ := bind_s h
        obtain ⟨hkZ23a, hkZ23b⟩ := grd_s hkZ23
        obtain ⟨yZ24, hyZ24, h⟩ := bind_s h
        obtain ⟨lZ25, hlZ25, h⟩ := bnd_s h
        have eZ26 : (oZ22.map AV.i).set (Int.toNat oZ13) (.i (IntKind.wrap .i64 (yZ24 - yZ7))) = lZ25.map AV.i := by rw [← hlZ25, List.map_set]
        obtain ⟨kZ27, hkZ27, h⟩ := bind_s h
        obtain ⟨hkZ27a, hkZ27b⟩ := grd_s hkZ27
        obtain ⟨yZ28, hyZ28, h⟩ := bind_s h
        obtain ⟨lZ29, hlZ29, h⟩ := bnd_s h
        have eZ30 : (sZ4.2.1.map AV.i).set (Int.toNat yZ6) (.i oZ13) = lZ29.map AV.i := by rw [← hlZ29, List.map_set]
        cases h
        try simp only [VS1, VS2, VS3, VS4, VS5, VS6, VT1, VT2, finM_ret, finM_nrm, decide_true, decide_false, List.nodup_nil, List.nodup_cons, oks_p, oks_m, Nat.reduceSub, Nat.reduceMul, ↓reduceIte, reduceCtorEq, Nat.reduceEqDiff, Nat.reduceAdd, Nat.reduceLeDiff, Int.reduceLE, cZ5, hyZ6a, hyZ6b, hyZ7a, hyZ7b, hkZ23a, hkZ23b, hyZ24, eZ26, hkZ27a, hkZ27b, hyZ28, eZ30]
        all_goals simp [qL, qJ, qJ0, qS, qX, qR, qM, Shp, sub, tupd, VS1, VS2, VS3, VS4, VS5, VS6, VT1, VT2, S_spec_l18PackL1, SX_spec_l18PackL1, ← hlZ25, ← hlZ29]
  · replace h := cond_f cZ5 h
    cases h
    try simp only [VS1, VS2, VS3, VS4, VS5, VS6, VT1, VT2, finM_ret, finM_nrm, decide_true, decide_false, List.nodup_nil, List.nodup_cons, oks_p, oks_m, Nat.reduceSub, Nat.reduceMul, ↓reduceIte, reduceCtorEq, Nat.reduceEqDiff, Nat.reduceAdd, Nat.reduceLeDiff, Int.reduceLE, cZ5]
    all_goals simp [qL, qJ, qJ0, qS, qX, qR, qM, Shp, sub, tupd, VS1, VS2, VS3, VS4, VS5, VS6, VT1, VT2, S_spec_l18PackL1, SX_spec_l18PackL1]
theorem w_spec_l18Pack (ratesZ0 : List Int) (orderZ0 : List Int) (capacityZ0 : Int) {r : List Int × Int} (h : M_spec_l18Pack ratesZ0 orderZ0 capacityZ0 = some r) : Ok Try.prog 61 [.lst .o 1 (ratesZ0.map AV.i), .lst .o 1 (orderZ0.map AV.i), .i capacityZ0] ((fun r => .tup [.lst .u 1 (r.1.map AV.i), .i r.2]) r) := by
  refine ok_of_body hmix m61 rfl ?_
  unfold M_spec_l18Pack at h
  simp only [A61, V61, body_eq]
  obtain ⟨uZ1, huZ1, h⟩ := bind_s h
  obtain ⟨huZ11, huZ12, huZ13, huZ14⟩ := grd_s huZ1
  obtain ⟨lZ2, hlZ2, h⟩ := bnd_s h
  have eZ3 : List.replicate (Int.toNat (ratesZ0.length : Int)) (.i 0 : AV) = lZ2.map AV.i := by rw [← hlZ2, List.map_replicate]
  obtain ⟨oZ31, hoZ31, h⟩ := bind_s h
  try simp only [VS1, VS2, VS3, VS4, VS5, VS6, VT1, VT2, finM_ret, finM_nrm, decide_true, decide_false, List.nodup_nil, List.nodup_cons, oks_p, oks_m, Nat.reduceSub, Nat.reduceMul, ↓reduceIte, reduceCtorEq, Nat.reduceEqDiff, Nat.reduceAdd, Nat.reduceLeDiff, Int.reduceLE, huZ11, huZ12, huZ13, huZ14, eZ3]
  refine join_rule0 (blk_rule0 (loop_rule (w_spec_l18PackL1 ratesZ0 orderZ0 capacityZ0) hoZ31 ?_)) ?_
  · all_goals simp [qL, qJ, qJ0, qS, qX, qR, qM, Shp, sub, tupd, VS1, VS2, VS3, VS4, VS5, VS6, VT1, VT2, S_spec_l18PackL1, SX_spec_l18PackL1, ← hlZ2, List.length_replicate]
  · simp only [SX_spec_l18PackL1, A61R5]
    cases h
    try simp only [VS1, VS2, VS3, VS4, VS5, VS6, VT1, VT2, finM_ret, finM_nrm, decide_true, decide_false, List.nodup_nil, List.nodup_cons, oks_p, oks_m, Nat.reduceSub, Nat.reduceMul, ↓reduceIte, reduceCtorEq, Nat.reduceEqDiff, Nat.reduceAdd, Nat.reduceLeDiff, Int.reduceLE, huZ11, huZ12, huZ13, huZ14, eZ3]
    all_goals simp [qL, qJ, qJ0, qS, qX, qR, qM, Shp, sub, tupd, VS1, VS2, VS3, VS4, VS5, VS6, VT1, VT2, V61]
theorem w_spec_PackDescending (ratesZ0 : List Int) (capacityZ0 : Int) {r : List Int × Bool} (h : M_spec_PackDescending ratesZ0 capacityZ0 = some r) : Ok Try.prog 34 [.lst .o 1 (ratesZ0.map AV.i), .i capacityZ0] ((fun r => .tup [.lst .u 1 (r.1.map AV.i), .b r.2]) r) := by
  refine ok_of_body hmix m34 rfl ?_
  unfold M_spec_PackDescending at h
  simp only [A34, V34, body_eq]
  obtain ⟨rZ1, hrZ1, h⟩ := bind_s h
  simp only [VS1, VS2, VS3, VS4, VS5, VS6, VT1, VT2, finM_ret, finM_nrm, decide_true, decide_false, List.nodup_nil, List.nodup_cons, oks_p, oks_m, Nat.reduceSub, Nat.reduceMul, ↓reduceIte, reduceCtorEq, Nat.reduceEqDiff, Nat.reduceAdd, Nat.reduceLeDiff, Int.reduceLE]
  refine call_s (by simp only [VS1, VS2, VS3, VS4, VS5, VS6, VT1, VT2, finM_ret, finM_nrm, decide_true, decide_false, List.nodup_nil, List.nodup_cons, oks_p, oks_m, Nat.reduceSub, Nat.reduceMul, ↓reduceIte, reduceCtorEq, Nat.reduceEqDiff, Nat.reduceAdd, Nat.reduceLeDiff, Int.reduceLE]; exact w_spec_l18Rates _ _ hrZ1 ) ?_
  simp only [VA, VF1, ↓reduceIte, Nat.reduceEqDiff, Nat.reduceAdd, Nat.reduceMul, Nat.reduceSub, Nat.reduceLeDiff]
  refine Or.elim (bt (!rZ1)) (fun cZ2 => ?_) (fun cZ2 => ?_)
  · replace h := cond_t cZ2 h
    cases h
    try simp only [VS1, VS2, VS3, VS4, VS5, VS6, VT1, VT2, finM_ret, finM_nrm, decide_true, decide_false, List.nodup_nil, List.nodup_cons, oks_p, oks_m, Nat.reduceSub, Nat.reduceMul, ↓reduceIte, reduceCtorEq, Nat.reduceEqDiff, Nat.reduceAdd, Nat.reduceLeDiff, Int.reduceLE, cZ2]
    all_goals simp [qL, qJ, qJ0, qS, qX, qR, qM, Shp, sub, tupd, VS1, VS2, VS3, VS4, VS5, VS6, VT1, VT2, V34]
  · replace h := cond_f cZ2 h
    obtain ⟨rZ3, hrZ3, h⟩ := bind_s h
    simp only [VS1, VS2, VS3, VS4, VS5, VS6, VT1, VT2, finM_ret, finM_nrm, decide_true, decide_false, List.nodup_nil, List.nodup_cons, oks_p, oks_m, Nat.reduceSub, Nat.reduceMul, ↓reduceIte, reduceCtorEq, Nat.reduceEqDiff, Nat.reduceAdd, Nat.reduceLeDiff, Int.reduceLE, cZ2]
    refine call_u (by simp only [VS1, VS2, VS3, VS4, VS5, VS6, VT1, VT2, finM_ret, finM_nrm, decide_true, decide_false, List.nodup_nil, List.nodup_cons, oks_p, oks_m, Nat.reduceSub, Nat.reduceMul, ↓reduceIte, reduceCtorEq, Nat.reduceEqDiff, Nat.reduceAdd, Nat.reduceLeDiff, Int.reduceLE, cZ2]; exact w_spec_l18Order _ _ hrZ3 ) (by simp [AV.allU, allUL, allUL_iff, VT1, VT2]) (by simp only [VS1, VS2, VS3, VS4, VS5, VS6, VT1, VT2, finM_ret, finM_nrm, decide_true, decide_false, List.nodup_nil, List.nodup_cons, oks_p, oks_m, Nat.reduceSub, Nat.reduceMul, ↓reduceIte, reduceCtorEq, Nat.reduceEqDiff, Nat.reduceAdd, Nat.reduceLeDiff, Int.reduceLE, Nat.reduceLT]) ?_
    simp only [VA, VF1, ↓reduceIte, Nat.reduceEqDiff, Nat.reduceAdd, Nat.reduceMul, Nat.reduceSub, Nat.reduceLeDiff]
    obtain ⟨rZ4, hrZ4, h⟩ := bind_s h
    simp only [VS1, VS2, VS3, VS4, VS5, VS6, VT1, VT2, finM_ret, finM_nrm, decide_true, decide_false, List.nodup_nil, List.nodup_cons, oks_p, oks_m, Nat.reduceSub, Nat.reduceMul, ↓reduceIte, reduceCtorEq, Nat.reduceEqDiff, Nat.reduceAdd, Nat.reduceLeDiff, Int.reduceLE, cZ2]
    refine call_u (by simp only [VS1, VS2, VS3, VS4, VS5, VS6, VT1, VT2, finM_ret, finM_nrm, decide_true, decide_false, List.nodup_nil, List.nodup_cons, oks_p, oks_m, Nat.reduceSub, Nat.reduceMul, ↓reduceIte, reduceCtorEq, Nat.reduceEqDiff, Nat.reduceAdd, Nat.reduceLeDiff, Int.reduceLE, cZ2]; exact w_spec_l18Pack _ _ _ hrZ4 ) (by simp [AV.allU, allUL, allUL_iff, VT1, VT2]) (by simp only [VS1, VS2, VS3, VS4, VS5, VS6, VT1, VT2, finM_ret, finM_nrm, decide_true, decide_false, List.nodup_nil, List.nodup_cons, oks_p, oks_m, Nat.reduceSub, Nat.reduceMul, ↓reduceIte, reduceCtorEq, Nat.reduceEqDiff, Nat.reduceAdd, Nat.reduceLeDiff, Int.reduceLE, Nat.reduceLT]) ?_
    simp only [VA, VF1, ↓reduceIte, Nat.reduceEqDiff, Nat.reduceAdd, Nat.reduceMul, Nat.reduceSub, Nat.reduceLeDiff]
    cases h
    try simp only [VS1, VS2, VS3, VS4, VS5, VS6, VT1, VT2, finM_ret, finM_nrm, decide_true, decide_false, List.nodup_nil, List.nodup_cons, oks_p, oks_m, Nat.reduceSub, Nat.reduceMul, ↓reduceIte, reduceCtorEq, Nat.reduceEqDiff, Nat.reduceAdd, Nat.reduceLeDiff, Int.reduceLE, cZ2]
    all_goals simp [qL, qJ, qJ0, qS, qX, qR, qM, Shp, sub, tupd, VS1, VS2, VS3, VS4, VS5, VS6, VT1, VT2, V34]
theorem w_impl_within (nZ0 : Int) (lowZ0 : Int) (highZ0 : Int) {r : Bool} (h : M_impl_within nZ0 lowZ0 highZ0 = some r) : Ok Try.prog 55 [.i nZ0, .i lowZ0, .i highZ0] ((fun r => .b r) r) := by
  refine ok_of_body hmix m55 rfl ?_
  unfold M_impl_within at h
  simp only [A55, V55, body_eq]
  refine Or.elim (bt (decide (lowZ0 ≤ nZ0))) (fun cZ1 => ?_) (fun cZ1 => ?_)
  · replace h := cond_t cZ1 h
    cases h
    try simp only [VS1, VS2, VS3, VS4, VS5, VS6, VT1, VT2, finM_ret, finM_nrm, decide_true, decide_false, List.nodup_nil, List.nodup_cons, oks_p, oks_m, Nat.reduceSub, Nat.reduceMul, ↓reduceIte, reduceCtorEq, Nat.reduceEqDiff, Nat.reduceAdd, Nat.reduceLeDiff, Int.reduceLE, cZ1]
    all_goals simp [qL, qJ, qJ0, qS, qX, qR, qM, Shp, sub, tupd, VS1, VS2, VS3, VS4, VS5, VS6, VT1, VT2, V55]
  · replace h := cond_f cZ1 h
    cases h
    try simp only [VS1, VS2, VS3, VS4, VS5, VS6, VT1, VT2, finM_ret, finM_nrm, decide_true, decide_false, List.nodup_nil, List.nodup_cons, oks_p, oks_m, Nat.reduceSub, Nat.reduceMul, ↓reduceIte, reduceCtorEq, Nat.reduceEqDiff, Nat.reduceAdd, Nat.reduceLeDiff, Int.reduceLE, cZ1]
    all_goals simp [qL, qJ, qJ0, qS, qX, qR, qM, Shp, sub, tupd, VS1, VS2, VS3, VS4, VS5, VS6, VT1, VT2, V55]
def S_slices_IndexFunc_Lint_intL1 (sZ0 : List Int) (F_fZ0 : Nat) (C_fZ0 : List AV) (v : Int) : St := ⟨[(0, .lst .o 1 (sZ0.map AV.i)), (1, .fn F_fZ0 C_fZ0), (7, .i (sZ0.length : Int)), (8, .i v)], []⟩
def SX_slices_IndexFunc_Lint_intL1 (v : Unit) : St := ⟨[], []⟩
theorem w_slices_IndexFunc_Lint_intL1 (sZ0 : List Int) (fZ0 : Int → Option Bool) (F_fZ0 : Nat) (C_fZ0 : List AV) (hC_fZ0 : Fixed C_fZ0) (hf_fZ0 : ∀ (x0 : Int) (r : Bool), fZ0 x0 = some r → Ok Try.prog F_fZ0 ((.i x0) :: C_fZ0) (.b r)) (sZ1 : Int) (o : Int ⊕ (Unit ⊕ Int)) (h : M_slices_IndexFunc_Lint_intL1 sZ0 fZ0 sZ1 = some o) : AWP (OkS Try.prog) A98L1 (qL [0, 1, 7, 8] [] (S_slices_IndexFunc_Lint_intL1 sZ0 F_fZ0 C_fZ0) (qS (qX 0 [] [] (SX_slices_IndexFunc_Lint_intL1)) (qR V98 (fun r => .i r))) o) (S_slices_IndexFunc_Lint_intL1 sZ0 F_fZ0 C_fZ0 sZ1) := by
  unfold M_slices_IndexFunc_Lint_intL1 at h
  simp only [S_slices_IndexFunc_Lint_intL1, A98L1]
  refine Or.elim (bt (decide (sZ1 < (sZ0.length : Int)))) (fun cZ2 => ?_) (fun cZ2 => ?_)
  · replace h := cond_t cZ2 h
    obtain ⟨yZ3, hyZ3, h⟩ := bind_s h
    obtain ⟨hyZ3a, hyZ3b⟩ := geti_s hyZ3
    obtain ⟨rZ4, hrZ4, h⟩ := bind_s h
    simp only [VS1, VS2, VS3, VS4, VS5, VS6, VT1, VT2, finM_ret, finM_nrm, decide_true, decide_false, List.nodup_nil, List.nodup_cons, oks_p, oks_m, Nat.reduceSub, Nat.reduceMul, ↓reduceIte, reduceCtorEq, Nat.reduceEqDiff, Nat.reduceAdd, Nat.reduceLeDiff, Int.reduceLE, cZ2, hyZ3a, hyZ3b]
    refine call_s (by simp only [VS1, VS2, VS3, VS4, VS5, VS6, VT1, VT2, finM_ret, finM_nrm, decide_true, decide_false, List.nodup_nil, List.nodup_cons, oks_p, oks_m, Nat.reduceSub, Nat.reduceMul, ↓reduceIte, reduceCtorEq, Nat.reduceEqDiff, Nat.reduceAdd, Nat.reduceLeDiff, Int.reduceLE, cZ2, hyZ3a, hyZ3b, hC_fZ0.1 _ _]; exact hf_fZ0 _ _ hrZ4) ?_
    simp only [VA, VF1, ↓reduceIte, Nat.reduceEqDiff, Nat.reduceAdd, Nat.reduceMul, Nat.reduceSub, Nat.reduceLeDiff]
    refine Or.elim (bt (rZ4)) (fun cZ5 => ?_) (fun cZ5 => ?_)
    · replace h := cond_t cZ5 h
      cases h
      try simp only [VS1, VS2, VS3, VS4, VS5, VS6, VT1, VT2, finM_ret, finM_nrm, decide_true, decide_false, List.nodup_nil, List.nodup_cons, oks_p, oks_m, Nat.reduceSub, Nat.reduceMul, ↓reduceIte, reduceCtorEq, Nat.reduceEqDiff, Nat.reduceAdd, Nat.reduceLeDiff, Int.reduceLE, cZ2, hyZ3a, hyZ3b, cZ5]
      all_goals simp [qL, qJ, qJ0, qS, qX, qR, qM, Shp, sub, tupd, VS1, VS2, VS3, VS4, VS5, VS6, VT1, VT2, V98, hC_fZ0.2]
    · replace h := cond_f cZ5 h
      cases h
      try simp only [VS1, VS2, VS3, VS4, VS5, VS6, VT1, VT2, finM_ret, finM_nrm, decide_true, decide_false, List.nodup_nil, List.nodup_cons, oks_p, oks_m, Nat.reduceSub, Nat.reduceMul, ↓reduceIte, reduceCtorEq, Nat.reduceEqDiff, Nat.reduceAdd, Nat.reduceLeDiff, Int.reduceLE, cZ2, hyZ3a, hyZ3b, cZ5]
      all_goals simp [qL, qJ, qJ0, qS, qX, qR, qM, Shp, sub, tupd, VS1, VS2, VS3, VS4, VS5, VS6, VT1, VT2, S_slices_IndexFunc_Lint_intL1, SX_slices_IndexFunc_Lint_intL1, hC_fZ0.2]
  · replace h := cond_f cZ2 h
    cases h
    try simp only [VS1, VS2, VS3, VS4, VS5, VS6, VT1, VT2, finM_ret, finM_nrm, decide_true, decide_false, List.nodup_nil, List.nodup_cons, oks_p, oks_m, Nat.reduceSub, Nat.reduceMul, ↓reduceIte, reduceCtorEq, Nat.reduceEqDiff, Nat.reduceAdd, Nat.reduceLeDiff, Int.reduceLE, cZ2]
    all_goals simp [qL, qJ, qJ0, qS, qX, qR, qM, Shp, sub, tupd, VS1, VS2, VS3, VS4, VS5, VS6, VT1, VT2, S_slices_IndexFunc_Lint_intL1, SX_slices_IndexFunc_Lint_intL1, hC_fZ0.2]
theorem w_slices_IndexFunc_Lint_int (sZ0 : List Int) (fZ0 : Int → Option Bool) {r : Int} (h : M_slices_IndexFunc_Lint_int sZ0 fZ0 = some r) (F_fZ0 : Nat) (C_fZ0 : List AV) (hC_fZ0 : Fixed C_fZ0) (hf_fZ0 : ∀ (x0 : Int) (r : Bool), fZ0 x0 = some r → Ok Try.prog F_fZ0 ((.i x0) :: C_fZ0) (.b r)) : Ok Try.prog 98 [.lst .o 1 (sZ0.map AV.i), .fn F_fZ0 C_fZ0] ((fun r => .i r) r) := by
  refine ok_of_body hmix m98 rfl ?_
  unfold M_slices_IndexFunc_Lint_int at h
  simp only [A98, V98, body_eq]
  obtain ⟨oZ6, hoZ6, h⟩ := bind_s h
  try simp only [VS1, VS2, VS3, VS4, VS5, VS6, VT1, VT2, finM_ret, finM_nrm, decide_true, decide_false, List.nodup_nil, List.nodup_cons, oks_p, oks_m, Nat.reduceSub, Nat.reduceMul, ↓reduceIte, reduceCtorEq, Nat.reduceEqDiff, Nat.reduceAdd, Nat.reduceLeDiff, Int.reduceLE]
  refine join_rule (o := oZ6) (blk_rule sideR (loop_rule (w_slices_IndexFunc_Lint_intL1 sZ0 fZ0 F_fZ0 C_fZ0 hC_fZ0 hf_fZ0) hoZ6 ?_)) (fun vZ7 hv => ?_) (fun xZ8 hv e τ hne hq => ?_)
  · all_goals simp [qL, qJ, qJ0, qS, qX, qR, qM, Shp, sub, tupd, VS1, VS2, VS3, VS4, VS5, VS6, VT1, VT2, S_slices_IndexFunc_Lint_intL1, SX_slices_IndexFunc_Lint_intL1, hC_fZ0.2]
  · subst hv
    simp only [] at h
    simp only [SX_slices_IndexFunc_Lint_intL1, A98R2]
    cases h
    try simp only [VS1, VS2, VS3, VS4, VS5, VS6, VT1, VT2, finM_ret, finM_nrm, decide_true, decide_false, List.nodup_nil, List.nodup_cons, oks_p, oks_m, Nat.reduceSub, Nat.reduceMul, ↓reduceIte, reduceCtorEq, Nat.reduceEqDiff, Nat.reduceAdd, Nat.reduceLeDiff, Int.reduceLE]
    all_goals simp [qL, qJ, qJ0, qS, qX, qR, qM, Shp, sub, tupd, VS1, VS2, VS3, VS4, VS5, VS6, VT1, VT2, V98, hC_fZ0.2]
  · subst hv
    simp only [] at h
    obtain ⟨rfl, qZ9⟩ := hq
    cases h
    exact qZ9
theorem w_slices_ContainsFunc_Lint_int (sZ0 : List Int) (fZ0 : Int → Option Bool) {r : Bool} (h : M_slices_ContainsFunc_Lint_int sZ0 fZ0 = some r) (F_fZ0 : Nat) (C_fZ0 : List AV) (hC_fZ0 : Fixed C_fZ0) (hf_fZ0 : ∀ (x0 : Int) (r : Bool), fZ0 x0 = some r → Ok Try.prog F_fZ0 ((.i x0) :: C_fZ0) (.b r)) : Ok Try.prog 71 [.lst .o 1 (sZ0.map AV.i), .fn F_fZ0 C_fZ0] ((fun r => .b r) r) := by
  refine ok_of_body hmix m71 rfl ?_
  unfold M_slices_ContainsFunc_Lint_int at h
  simp only [A71, V71, body_eq]
  obtain ⟨rZ1, hrZ1, h⟩ := bind_s h
  simp only [VS1, VS2, VS3, VS4, VS5, VS6, VT1, VT2, finM_ret, finM_nrm, decide_true, decide_false, List.nodup_nil, List.nodup_cons, oks_p, oks_m, Nat.reduceSub, Nat.reduceMul, ↓reduceIte, reduceCtorEq, Nat.reduceEqDiff, Nat.reduceAdd, Nat.reduceLeDiff, Int.reduceLE]
  refine call_s (by simp only [VS1, VS2, VS3, VS4, VS5, VS6, VT1, VT2, finM_ret, finM_nrm, decide_true, decide_false, List.nodup_nil, List.nodup_cons, oks_p, oks_m, Nat.reduceSub, Nat.reduceMul, ↓reduceIte, reduceCtorEq, Nat.reduceEqDiff, Nat.reduceAdd, Nat.reduceLeDiff, Int.reduceLE, hC_fZ0.1 _ _]; exact w_slices_IndexFunc_Lint_int _ _ hrZ1 F_fZ0 C_fZ0 hC_fZ0 hf_fZ0) ?_
  simp only [VA, VF1, ↓reduceIte, Nat.reduceEqDiff, Nat.reduceAdd, Nat.reduceMul, Nat.reduceSub, Nat.reduceLeDiff]
  cases h
  try simp only [VS1, VS2, VS3, VS4, VS5, VS6, VT1, VT2, finM_ret, finM_nrm, decide_true, decide_false, List.nodup_nil, List.nodup_cons, oks_p, oks_m, Nat.reduceSub, Nat.reduceMul, ↓reduceIte, reduceCtorEq, Nat.reduceEqDiff, Nat.reduceAdd, Nat.reduceLeDiff, Int.reduceLE]
  all_goals simp [qL, qJ, qJ0, qS, qX, qR, qM, Shp, sub, tupd, VS1, VS2, VS3, VS4, VS5, VS6, VT1, VT2, V71, hC_fZ0.2]
theorem w_impl_isPacking_c1 (rateZ0 : Int) (p1Z0 : Int) {r : Bool} (h : M_impl_isPacking_c1 rateZ0 p1Z0 = some r) : Ok Try.prog 97 [.i rateZ0, .bp (.i p1Z0) 0] ((fun r => .b r) r) := by
  refine ok_of_body hmix m97 rfl ?_
  unfold M_impl_isPacking_c1 at h
  simp only [A97, V97, body_eq]
  obtain ⟨rZ1, hrZ1, h⟩ := bind_s h
  simp only [VS1, VS2, VS3, VS4, VS5, VS6, VT1, VT2, finM_ret, finM_nrm, decide_true, decide_false, List.nodup_nil, List.nodup_cons, oks_p, oks_m, Nat.reduceSub, Nat.reduceMul, ↓reduceIte, reduceCtorEq, Nat.reduceEqDiff, Nat.reduceAdd, Nat.reduceLeDiff, Int.reduceLE]
  refine call_s (by simp only [VS1, VS2, VS3, VS4, VS5, VS6, VT1, VT2, finM_ret, finM_nrm, decide_true, decide_false, List.nodup_nil, List.nodup_cons, oks_p, oks_m, Nat.reduceSub, Nat.reduceMul, ↓reduceIte, reduceCtorEq, Nat.reduceEqDiff, Nat.reduceAdd, Nat.reduceLeDiff, Int.reduceLE]; exact w_impl_within _ _ _ hrZ1 ) ?_
  simp only [VA, VF1, ↓reduceIte, Nat.reduceEqDiff, Nat.reduceAdd, Nat.reduceMul, Nat.reduceSub, Nat.reduceLeDiff]
  cases h
  try simp only [VS1, VS2, VS3, VS4, VS5, VS6, VT1, VT2, finM_ret, finM_nrm, decide_true, decide_false, List.nodup_nil, List.nodup_cons, oks_p, oks_m, Nat.reduceSub, Nat.reduceMul, ↓reduceIte, reduceCtorEq, Nat.reduceEqDiff, Nat.reduceAdd, Nat.reduceLeDiff, Int.reduceLE]
  all_goals simp [qL, qJ, qJ0, qS, qX, qR, qM, Shp, sub, tupd, VS1, VS2, VS3, VS4, VS5, VS6, VT1, VT2, V97]
theorem w_impl_isPacking (ratesZ0 : List Int) (capacityZ0 : Int) (mostZ0 : Int) {r : Bool} (h : M_impl_isPacking ratesZ0 capacityZ0 mostZ0 = some r) : Ok Try.prog 63 [.lst .o 1 (ratesZ0.map AV.i), .i capacityZ0, .i mostZ0] ((fun r => .b r) r) := by
  refine ok_of_body hmix m63 rfl ?_
  unfold M_impl_isPacking at h
  simp only [A63, V63, body_eq]
  obtain ⟨rZ1, hrZ1, h⟩ := bind_s h
  simp only [VS1, VS2, VS3, VS4, VS5, VS6, VT1, VT2, finM_ret, finM_nrm, decide_true, decide_false, List.nodup_nil, List.nodup_cons, oks_p, oks_m, Nat.reduceSub, Nat.reduceMul, ↓reduceIte, reduceCtorEq, Nat.reduceEqDiff, Nat.reduceAdd, Nat.reduceLeDiff, Int.reduceLE]
  refine call_s (by simp only [VS1, VS2, VS3, VS4, VS5, VS6, VT1, VT2, finM_ret, finM_nrm, decide_true, decide_false, List.nodup_nil, List.nodup_cons, oks_p, oks_m, Nat.reduceSub, Nat.reduceMul, ↓reduceIte, reduceCtorEq, Nat.reduceEqDiff, Nat.reduceAdd, Nat.reduceLeDiff, Int.reduceLE]; exact w_impl_within _ _ _ hrZ1 ) ?_
  simp only [VA, VF1, ↓reduceIte, Nat.reduceEqDiff, Nat.reduceAdd, Nat.reduceMul, Nat.reduceSub, Nat.reduceLeDiff]
  refine Or.elim (bt (rZ1)) (fun cZ2 => ?_) (fun cZ2 => ?_)
  · replace h := cond_t cZ2 h
    refine Or.elim (bt (decide ((ratesZ0.length : Int) ≤ mostZ0))) (fun cZ3 => ?_) (fun cZ3 => ?_)
    · replace h := cond_t cZ3 h
      obtain ⟨rZ4, hrZ4, h⟩ := bind_s h
      simp only [VS1, VS2, VS3, VS4, VS5, VS6, VT1, VT2, finM_ret, finM_nrm, decide_true, decide_false, List.nodup_nil, List.nodup_cons, oks_p, oks_m, Nat.reduceSub, Nat.reduceMul, ↓reduceIte, reduceCtorEq, Nat.reduceEqDiff, Nat.reduceAdd, Nat.reduceLeDiff, Int.reduceLE, cZ2, cZ3]
      refine call_s (by simp only [VS1, VS2, VS3, VS4, VS5, VS6, VT1, VT2, finM_ret, finM_nrm, decide_true, decide_false, List.nodup_nil, List.nodup_cons, oks_p, oks_m, Nat.reduceSub, Nat.reduceMul, ↓reduceIte, reduceCtorEq, Nat.reduceEqDiff, Nat.reduceAdd, Nat.reduceLeDiff, Int.reduceLE, cZ2, cZ3]; exact w_slices_ContainsFunc_Lint_int _ _ hrZ4 97 [.bp (.i capacityZ0) 0] ⟨fun ρ k => by simp only [VS1, VS2, VS3, VS4, VS5, VS6, VT1, VT2, finM_ret, finM_nrm, decide_true, decide_false, List.nodup_nil, List.nodup_cons, oks_p, oks_m, Nat.reduceSub, Nat.reduceMul, ↓reduceIte, reduceCtorEq, Nat.reduceEqDiff, Nat.reduceAdd, Nat.reduceLeDiff, Int.reduceLE], by simp [mentsL, AV.ments]⟩ (fun _ _ h => w_impl_isPacking_c1 _ _ h)) ?_
      simp only [VA, VF1, ↓reduceIte, Nat.reduceEqDiff, Nat.reduceAdd, Nat.reduceMul, Nat.reduceSub, Nat.reduceLeDiff]
      cases h
      try simp only [VS1, VS2, VS3, VS4, VS5, VS6, VT1, VT2, finM_ret, finM_nrm, decide_true, decide_false, List.nodup_nil, List.nodup_cons, oks_p, oks_m, Nat.reduceSub, Nat.reduceMul, ↓reduceIte, reduceCtorEq, Nat.reduceEqDiff, Nat.reduceAdd, Nat.reduceLeDiff, Int.reduceLE, cZ2, cZ3]
      all_goals simp [qL, qJ, qJ0, qS, qX, qR, qM, Shp, sub, tupd, VS1, VS2, VS3, VS4, VS5, VS6, VT1, VT2, V63]
    · replace h := cond_f cZ3 h
      cases h
      try simp only [VS1, VS2, VS3, VS4, VS5, VS6, VT1, VT2, finM_ret, finM_nrm, decide_true, decide_false, List.nodup_nil, List.nodup_cons, oks_p, oks_m, Nat.reduceSub, Nat.reduceMul, ↓reduceIte, reduceCtorEq, Nat.reduceEqDiff, Nat.reduceAdd, Nat.reduceLeDiff, Int.reduceLE, cZ2, cZ3]
      all_goals simp [qL, qJ, qJ0, qS, qX, qR, qM, Shp, sub, tupd, VS1, VS2, VS3, VS4, VS5, VS6, VT1, VT2, V63]
  · replace h := cond_f cZ2 h
    cases h
    try simp only [VS1, VS2, VS3, VS4, VS5, VS6, VT1, VT2, finM_ret, finM_nrm, decide_true, decide_false, List.nodup_nil, List.nodup_cons, oks_p, oks_m, Nat.reduceSub, Nat.reduceMul, ↓reduceIte, reduceCtorEq, Nat.reduceEqDiff, Nat.reduceAdd, Nat.reduceLeDiff, Int.reduceLE, cZ2]
    all_goals simp [qL, qJ, qJ0, qS, qX, qR, qM, Shp, sub, tupd, VS1, VS2, VS3, VS4, VS5, VS6, VT1, VT2, V63]
def S_impl_numberedL1 (nZ0 : Int) (v : Int × List Int) : St := ⟨[(3, .sl 3 0 v.2.length), (6, .i nZ0), (7, .i v.1)], [(3, .arr 1 (v.2.map AV.i))]⟩
def SX_impl_numberedL1 (v : List Int) : St := ⟨[(3, .sl 3 0 v.length)], [(3, .arr 1 (v.map AV.i))]⟩
theorem w_impl_numberedL1 (nZ0 : Int) (sZ1 : Int × List Int) (o : (Int × List Int) ⊕ (List Int)) (h : M_impl_numberedL1 nZ0 sZ1 = some o) : AWP (OkS Try.prog) A65L1 (qL [3, 6, 7] [3] (S_impl_numberedL1 nZ0) (qX 0 [3] [3] (SX_impl_numberedL1)) o) (S_impl_numberedL1 nZ0 sZ1) := by
  unfold M_impl_numberedL1 at h
  simp only [S_impl_numberedL1, A65L1]
  refine Or.elim (bt (decide (sZ1.1 < nZ0))) (fun cZ2 => ?_) (fun cZ2 => ?_)
  · replace h := cond_t cZ2 h
    obtain ⟨lZ3, hlZ3, h⟩ := bnd_s h
    have eZ4 : Row.arr 1 [(.i sZ1.1 : AV)] = Row.arr 1 (lZ3.map AV.i) := by rw [← hlZ3]; rfl
    have eZ5 : lZ3.length = 1 := by rw [← hlZ3]; rfl
    obtain ⟨uZ6, huZ6, h⟩ := bind_s h
    have huZ6g := grd_s huZ6
    obtain ⟨lZ7, hlZ7, h⟩ := bnd_s h
    have eZ8 : sZ1.2.map AV.i ++ lZ3.map AV.i = lZ7.map AV.i := by rw [← hlZ7, List.map_append]
    have eZ9 : sZ1.2.length + 1 = lZ7.length := by simp [← hlZ3, ← hlZ7] <;> omega
    rw [eZ9] at huZ6g
    cases h
    try simp only [VS1, VS2, VS3, VS4, VS5, VS6, VT1, VT2, finM_ret, finM_nrm, decide_true, decide_false, List.nodup_nil, List.nodup_cons, oks_p, oks_m, Nat.reduceSub, Nat.reduceMul, ↓reduceIte, reduceCtorEq, Nat.reduceEqDiff, Nat.reduceAdd, Nat.reduceLeDiff, Int.reduceLE, cZ2, eZ4, eZ5, huZ6g, eZ8, eZ9]
    all_goals simp [qL, qJ, qJ0, qS, qX, qR, qM, Shp, sub, tupd, VS1, VS2, VS3, VS4, VS5, VS6, VT1, VT2, S_impl_numberedL1, SX_impl_numberedL1, ← hlZ3, ← hlZ7]
  · replace h := cond_f cZ2 h
    cases h
    try simp only [VS1, VS2, VS3, VS4, VS5, VS6, VT1, VT2, finM_ret, finM_nrm, decide_true, decide_false, List.nodup_nil, List.nodup_cons, oks_p, oks_m, Nat.reduceSub, Nat.reduceMul, ↓reduceIte, reduceCtorEq, Nat.reduceEqDiff, Nat.reduceAdd, Nat.reduceLeDiff, Int.reduceLE, cZ2]
    all_goals simp [qL, qJ, qJ0, qS, qX, qR, qM, Shp, sub, tupd, VS1, VS2, VS3, VS4, VS5, VS6, VT1, VT2, S_impl_numberedL1, SX_impl_numberedL1]
theorem w_impl_numbered (nZ0 : Int) {r : List Int} (h : M_impl_numbered nZ0 = some r) : Ok Try.prog 65 [.i nZ0] ((fun r => .lst .u 1 (r.map AV.i)) r) := by
  refine ok_of_body hmix m65 rfl ?_
  unfold M_impl_numbered at h
  simp only [A65, V65, body_eq]
  obtain ⟨oZ10, hoZ10, h⟩ := bind_s h
  try simp only [VS1, VS2, VS3, VS4, VS5, VS6, VT1, VT2, finM_ret, finM_nrm, decide_true, decide_false, List.nodup_nil, List.nodup_cons, oks_p, oks_m, Nat.reduceSub, Nat.reduceMul, ↓reduceIte, reduceCtorEq, Nat.reduceEqDiff, Nat.reduceAdd, Nat.reduceLeDiff, Int.reduceLE]
  refine join_rule0 (blk_rule0 (loop_rule (w_impl_numberedL1 nZ0) hoZ10 ?_)) ?_
  · all_goals simp [qL, qJ, qJ0, qS, qX, qR, qM, Shp, sub, tupd, VS1, VS2, VS3, VS4, VS5, VS6, VT1, VT2, S_impl_numberedL1, SX_impl_numberedL1]
  · simp only [SX_impl_numberedL1, A65R2]
    cases h
    try simp only [VS1, VS2, VS3, VS4, VS5, VS6, VT1, VT2, finM_ret, finM_nrm, decide_true, decide_false, List.nodup_nil, List.nodup_cons, oks_p, oks_m, Nat.reduceSub, Nat.reduceMul, ↓reduceIte, reduceCtorEq, Nat.reduceEqDiff, Nat.reduceAdd, Nat.reduceLeDiff, Int.reduceLE]
    all_goals simp [qL, qJ, qJ0, qS, qX, qR, qM, Shp, sub, tupd, VS1, VS2, VS3, VS4, VS5, VS6, VT1, VT2, V65]
theorem w_cmp_isNaN_int (xZ0 : Int) {r : Bool} (h : M_cmp_isNaN_int xZ0 = some r) : Ok Try.prog 110 [.i xZ0] ((fun r => .b r) r) := by
  refine ok_of_body hmix m110 rfl ?_
  unfold M_cmp_isNaN_int at h
  simp only [A110, V110, body_eq]
  cases h
  try simp only [VS1, VS2, VS3, VS4, VS5, VS6, VT1, VT2, finM_ret, finM_nrm, decide_true, decide_false, List.nodup_nil, List.nodup_cons, oks_p, oks_m, Nat.reduceSub, Nat.reduceMul, ↓reduceIte, reduceCtorEq, Nat.reduceEqDiff, Nat.reduceAdd, Nat.reduceLeDiff, Int.reduceLE]
  all_goals simp [qL, qJ, qJ0, qS, qX, qR, qM, Shp, sub, tupd, VS1, VS2, VS3, VS4, VS5, VS6, VT1, VT2, V110]
theorem w_cmp_Compare_int (xZ0 : Int) (yZ0 : Int) {r : Int} (h : M_cmp_Compare_int xZ0 yZ0 = some r) : Ok Try.prog 92 [.i xZ0, .i yZ0] ((fun r => .i r) r) := by
  refine ok_of_body hmix m92 rfl ?_
  unfold M_cmp_Compare_int at h
  simp only [A92, V92, body_eq]
  obtain ⟨rZ1, hrZ1, h⟩ := bind_s h
  simp only [VS1, VS2, VS3, VS4, VS5, VS6, VT1, VT2, finM_ret, finM_nrm, decide_true, decide_false, List.nodup_nil, List.nodup_cons, oks_p, oks_m, Nat.reduceSub, Nat.reduceMul, ↓reduceIte, reduceCtorEq, Nat.reduceEqDiff, Nat.reduceAdd, Nat.reduceLeDiff, Int.reduceLE]
  refine call_s (by simp only [VS1, VS2, VS3, VS4, VS5, VS6, VT1, VT2, finM_ret, finM_nrm, decide_true, decide_false, List.nodup_nil, List.nodup_cons, oks_p, oks_m, Nat.reduceSub, Nat.reduceMul, ↓reduceIte, reduceCtorEq, Nat.reduceEqDiff, Nat.reduceAdd, Nat.reduceLeDiff, Int.reduceLE]; exact w_cmp_isNaN_int _ hrZ1 ) ?_
  simp only [VA, VF1, ↓reduceIte, Nat.reduceEqDiff, Nat.reduceAdd, Nat.reduceMul, Nat.reduceSub, Nat.reduceLeDiff]
  obtain ⟨rZ2, hrZ2, h⟩ := bind_s h
  simp only [VS1, VS2, VS3, VS4, VS5, VS6, VT1, VT2, finM_ret, finM_nrm, decide_true, decide_false, List.nodup_nil, List.nodup_cons, oks_p, oks_m, Nat.reduceSub, Nat.reduceMul, ↓reduceIte, reduceCtorEq, Nat.reduceEqDiff, Nat.reduceAdd, Nat.reduceLeDiff, Int.reduceLE]
  refine call_s (by simp only [VS1, VS2, VS3, VS4, VS5, VS6, VT1, VT2, finM_ret, finM_nrm, decide_true, decide_false, List.nodup_nil, List.nodup_cons, oks_p, oks_m, Nat.reduceSub, Nat.reduceMul, ↓reduceIte, reduceCtorEq, Nat.reduceEqDiff, Nat.reduceAdd, Nat.reduceLeDiff, Int.reduceLE]; exact w_cmp_isNaN_int _ hrZ2 ) ?_
  simp only [VA, VF1, ↓reduceIte, Nat.reduceEqDiff, Nat.reduceAdd, Nat.reduceMul, Nat.reduceSub, Nat.reduceLeDiff]
  refine Or.elim (bt (rZ1)) (fun cZ3 => ?_) (fun cZ3 => ?_)
  · replace h := cond_t cZ3 h
    refine Or.elim (bt (rZ2)) (fun cZ4 => ?_) (fun cZ4 => ?_)
    · replace h := cond_t cZ4 h
      cases h
      try simp only [VS1, VS2, VS3, VS4, VS5, VS6, VT1, VT2, finM_ret, finM_nrm, decide_true, decide_false, List.nodup_nil, List.nodup_cons, oks_p, oks_m, Nat.reduceSub, Nat.reduceMul, ↓reduceIte, reduceCtorEq, Nat.reduceEqDiff, Nat.reduceAdd, Nat.reduceLeDiff, Int.reduceLE, cZ3, cZ4]
      all_goals simp [qL, qJ, qJ0, qS, qX, qR, qM, Shp, sub, tupd, VS1, VS2, VS3, VS4, VS5, VS6, VT1, VT2, V92]
    · replace h := cond_f cZ4 h
      cases h
      try simp only [VS1, VS2, VS3, VS4, VS5, VS6, VT1, VT2, finM_ret, finM_nrm, decide_true, decide_false, List.nodup_nil, List.nodup_cons, oks_p, oks_m, Nat.reduceSub, Nat.reduceMul, ↓reduceIte, reduceCtorEq, Nat.reduceEqDiff, Nat.reduceAdd, Nat.reduceLeDiff, Int.reduceLE, cZ3, cZ4]
      all_goals simp [qL, qJ, qJ0, qS, qX, qR, qM, Shp, sub, tupd, VS1, VS2, VS3, VS4, VS5, VS6, VT1, VT2, V92]
  · replace h := cond_f cZ3 h
    refine Or.elim (bt (rZ2)) (fun cZ5 => ?_) (fun cZ5 => ?_)
    · replace h := cond_t cZ5 h
      cases h
      try simp only [VS1, VS2, VS3, VS4, VS5, VS6, VT1, VT2, finM_ret, finM_nrm, decide_true, decide_false, List.nodup_nil, List.nodup_cons, oks_p, oks_m, Nat.reduceSub, Nat.reduceMul, ↓reduceIte, reduceCtorEq, Nat.reduceEqDiff, Nat.reduceAdd, Nat.reduceLeDiff, Int.reduceLE, cZ3, cZ5]
      all_goals simp [qL, qJ, qJ0, qS, qX, qR, qM, Shp, sub, tupd, VS1, VS2, VS3, VS4, VS5, VS6, VT1, VT2, V92]
    · replace h := cond_f cZ5 h
      refine Or.elim (bt (decide (xZ0 < yZ0))) (fun cZ6 => ?_) (fun cZ6 => ?_)
      · replace h := cond_t cZ6 h
        cases h
        try simp only [VS1, VS2, VS3, VS4, VS5, VS6, VT1, VT2, finM_ret, finM_nrm, decide_true, decide_false, List.nodup_nil, List.nodup_cons, oks_p, oks_m, Nat.reduceSub, Nat.reduceMul, ↓reduceIte, reduceCtorEq, Nat.reduceEqDiff, Nat.reduceAdd, Nat.reduceLeDiff, Int.reduceLE, cZ3, cZ5, cZ6]
        all_goals simp [qL, qJ, qJ0, qS, qX, qR, qM, Shp, sub, tupd, VS1, VS2, VS3, VS4, VS5, VS6, VT1, VT2, V92]
      · replace h := cond_f cZ6 h
        refine Or.elim (bt (decide (yZ0 < xZ0))) (fun cZ7 => ?_) (fun cZ7 => ?_)
        · replace h := cond_t cZ7 h
          cases h
          try simp only [VS1, VS2, VS3, VS4, VS5, VS6, VT1, VT2, finM_ret, finM_nrm, decide_true, decide_false, List.nodup_nil, List.nodup_cons, oks_p, oks_m, Nat.reduceSub, Nat.reduceMul, ↓reduceIte, reduceCtorEq, Nat.reduceEqDiff, Nat.reduceAdd, Nat.reduceLeDiff, Int.reduceLE, cZ3, cZ5, cZ6, cZ7]
          all_goals simp [qL, qJ, qJ0, qS, qX, qR, qM, Shp, sub, tupd, VS1, VS2, VS3, VS4, VS5, VS6, VT1, VT2, V92]
        · replace h := cond_f cZ7 h
          cases h
          try simp only [VS1, VS2, VS3, VS4, VS5, VS6, VT1, VT2, finM_ret, finM_nrm, decide_true, decide_false, List.nodup_nil, List.nodup_cons, oks_p, oks_m, Nat.reduceSub, Nat.reduceMul, ↓reduceIte, reduceCtorEq, Nat.reduceEqDiff, Nat.reduceAdd, Nat.reduceLeDiff, Int.reduceLE, cZ3, cZ5, cZ6, cZ7]
          all_goals simp [qL, qJ, qJ0, qS, qX, qR, qM, Shp, sub, tupd, VS1, VS2, VS3, VS4, VS5, VS6, VT1, VT2, V92]
theorem w_impl_descending_c1 (aZ0 : Int) (bZ0 : Int) (p2Z0 : List Int) {r : Int} (h : M_impl_descending_c1 aZ0 bZ0 p2Z0 = some r) : Ok Try.prog 105 [.i aZ0, .i bZ0, .bp (.lst .o 1 (p2Z0.map AV.i)) 0] ((fun r => .i r) r) := by
  refine ok_of_body hmix m105 rfl ?_
  unfold M_impl_descending_c1 at h
  simp only [A105, V105, body_eq]
  obtain ⟨yZ1, hyZ1, h⟩ := bind_s h
  obtain ⟨hyZ1a, hyZ1b⟩ := geti_s hyZ1
  obtain ⟨yZ2, hyZ2, h⟩ := bind_s h
  obtain ⟨hyZ2a, hyZ2b⟩ := geti_s hyZ2
  obtain ⟨rZ3, hrZ3, h⟩ := bind_s h
  simp only [VS1, VS2, VS3, VS4, VS5, VS6, VT1, VT2, finM_ret, finM_nrm, decide_true, decide_false, List.nodup_nil, List.nodup_cons, oks_p, oks_m, Nat.reduceSub, Nat.reduceMul, ↓reduceIte, reduceCtorEq, Nat.reduceEqDiff, Nat.reduceAdd, Nat.reduceLeDiff, Int.reduceLE, hyZ1a, hyZ1b, hyZ2a, hyZ2b]
  refine call_s (by simp only [VS1, VS2, VS3, VS4, VS5, VS6, VT1, VT2, finM_ret, finM_nrm, decide_true, decide_false, List.nodup_nil, List.nodup_cons, oks_p, oks_m, Nat.reduceSub, Nat.reduceMul, ↓reduceIte, reduceCtorEq, Nat.reduceEqDiff, Nat.reduceAdd, Nat.reduceLeDiff, Int.reduceLE, hyZ1a, hyZ1b, hyZ2a, hyZ2b]; exact w_cmp_Compare_int _ _ hrZ3 ) ?_
  simp only [VA, VF1, ↓reduceIte, Nat.reduceEqDiff, Nat.reduceAdd, Nat.reduceMul, Nat.reduceSub, Nat.reduceLeDiff]
  cases h
  try simp only [VS1, VS2, VS3, VS4, VS5, VS6, VT1, VT2, finM_ret, finM_nrm, decide_true, decide_false, List.nodup_nil, List.nodup_cons, oks_p, oks_m, Nat.reduceSub, Nat.reduceMul, ↓reduceIte, reduceCtorEq, Nat.reduceEqDiff, Nat.reduceAdd, Nat.reduceLeDiff, Int.reduceLE, hyZ1a, hyZ1b, hyZ2a, hyZ2b]
  all_goals simp [qL, qJ, qJ0, qS, qX, qR, qM, Shp, sub, tupd, VS1, VS2, VS3, VS4, VS5, VS6, VT1, VT2, V105]
def S_slices_insertionSortCmpFunc_intM1L2 (aaZ0 : Int) (abZ0 : Int) (adZ0 : List Int) (sZ1 : Int × List Int) (v : Int × List Int) : St := ⟨[(0, .sl 1000000000 0 v.2.length), (1, .i aaZ0), (2, .i abZ0), (3, .fn 105 [.pt 1000000001 0 0]), (8, .i sZ1.1), (9, .i v.1)], [(1000000000, .arr 1 (v.2.map AV.i)), (1000000001, .var (.lst .o 1 (adZ0.map AV.i)))]⟩
def SX_slices_insertionSortCmpFunc_intM1L2 (aaZ0 : Int) (abZ0 : Int) (adZ0 : List Int) (sZ1 : Int × List Int) (v : List Int) : St := ⟨[(0, .sl 1000000000 0 v.length), (1, .i aaZ0), (2, .i abZ0), (3, .fn 105 [.pt 1000000001 0 0]), (8, .i sZ1.1)], [(1000000000, .arr 1 (v.map AV.i)), (1000000001, .var (.lst .o 1 (adZ0.map AV.i)))]⟩
theorem w_slices_insertionSortCmpFunc_intM1L2 (aaZ0 : Int) (abZ0 : Int) (adZ0 : List Int) (sZ1 : Int × List Int) (sZ3 : Int × List Int) (o : (Int × List Int) ⊕ (List Int)) (h : M_slices_insertionSortCmpFunc_intM1L2 aaZ0 adZ0 sZ3 = some o) : AWP (OkS Try.prog) A117M1L2 (qL [0, 1, 2, 3, 8, 9] [1000000000, 1000000001] (S_slices_insertionSortCmpFunc_intM1L2 aaZ0 abZ0 adZ0 sZ1) (qX 2 [0, 1, 2, 3, 8] [1000000000, 1000000001] (SX_slices_insertionSortCmpFunc_intM1L2 aaZ0 abZ0 adZ0 sZ1)) o) (S_slices_insertionSortCmpFunc_intM1L2 aaZ0 abZ0 adZ0 sZ1 sZ3) := by
  unfold M_slices_insertionSortCmpFunc_intM1L2 at h
  simp only [S_slices_insertionSortCmpFunc_intM1L2, A117M1L2]
  obtain ⟨oZ10, hoZ10, h⟩ := bind_s h
  try simp only [VS1, VS2, VS3, VS4, VS5, VS6, VT1, VT2, finM_ret, finM_nrm, decide_true, decide_false, List.nodup_nil, List.nodup_cons, oks_p, oks_m, Nat.reduceSub, Nat.reduceMul, ↓reduceIte, reduceCtorEq, Nat.reduceEqDiff, Nat.reduceAdd, Nat.reduceLeDiff, Int.reduceLE]
  refine join_rule0 (sh := (fun v => ⟨[(0, .sl 1000000000 0 sZ3.2.length), (1, .i aaZ0), (2, .i abZ0), (3, .fn 105 [.pt 1000000001 0 0]), (8, .i sZ1.1), (9, .i sZ3.1), (34, .b v)], [(1000000000, .arr 1 (sZ3.2.map AV.i)), (1000000001, .var (.lst .o 1 (adZ0.map AV.i)))]⟩)) (s := oZ10) ?_ ?_
  · replace h := hoZ10
    refine Or.elim (bt (decide (aaZ0 < sZ3.1))) (fun cZ4 => ?_) (fun cZ4 => ?_)
    · replace h := cond_t cZ4 h
      obtain ⟨kZ5, hkZ5, h⟩ := bind_s h
      obtain ⟨hkZ5a, hkZ5b⟩ := grd_s hkZ5
      obtain ⟨yZ6, hyZ6, h⟩ := bind_s h
      obtain ⟨kZ7, hkZ7, h⟩ := bind_s h
      obtain ⟨hkZ7a, hkZ7b⟩ := grd_s hkZ7
      obtain ⟨yZ8, hyZ8, h⟩ := bind_s h
      obtain ⟨rZ9, hrZ9, h⟩ := bind_s h
      simp only [VS1, VS2, VS3, VS4, VS5, VS6, VT1, VT2, finM_ret, finM_nrm, decide_true, decide_false, List.nodup_nil, List.nodup_cons, oks_p, oks_m, Nat.reduceSub, Nat.reduceMul, ↓reduceIte, reduceCtorEq, Nat.reduceEqDiff, Nat.reduceAdd, Nat.reduceLeDiff, Int.reduceLE, cZ4, hkZ5a, hkZ5b, hyZ6, hkZ7a, hkZ7b, hyZ8]
      refine call_s (by simp only [VS1, VS2, VS3, VS4, VS5, VS6, VT1, VT2, finM_ret, finM_nrm, decide_true, decide_false, List.nodup_nil, List.nodup_cons, oks_p, oks_m, Nat.reduceSub, Nat.reduceMul, ↓reduceIte, reduceCtorEq, Nat.reduceEqDiff, Nat.reduceAdd, Nat.reduceLeDiff, Int.reduceLE, cZ4, hkZ5a, hkZ5b, hyZ6, hkZ7a, hkZ7b, hyZ8]; exact w_impl_descending_c1 _ _ _ hrZ9 ) ?_
      simp only [VA, VF1, ↓reduceIte, Nat.reduceEqDiff, Nat.reduceAdd, Nat.reduceMul, Nat.reduceSub, Nat.reduceLeDiff]
      cases h
      try simp only [VS1, VS2, VS3, VS4, VS5, VS6, VT1, VT2, finM_ret, finM_nrm, decide_true, decide_false, List.nodup_nil, List.nodup_cons, oks_p, oks_m, Nat.reduceSub, Nat.reduceMul, ↓reduceIte, reduceCtorEq, Nat.reduceEqDiff, Nat.reduceAdd, Nat.reduceLeDiff, Int.reduceLE, cZ4, hkZ5a, hkZ5b, hyZ6, hkZ7a, hkZ7b, hyZ8]
      all_goals simp [qL, qJ, qJ0, qS, qX, qR, qM, Shp, sub, tupd, VS1, VS2, VS3, VS4, VS5, VS6, VT1, VT2]
    · replace h := cond_f cZ4 h
      cases h
      try simp only [VS1, VS2, VS3, VS4, VS5, VS6, VT1, VT2, finM_ret, finM_nrm, decide_true, decide_false, List.nodup_nil, List.nodup_cons, oks_p, oks_m, Nat.reduceSub, Nat.reduceMul, ↓reduceIte, reduceCtorEq, Nat.reduceEqDiff, Nat.reduceAdd, Nat.reduceLeDiff, Int.reduceLE, cZ4]
      all_goals simp [qL, qJ, qJ0, qS, qX, qR, qM, Shp, sub, tupd, VS1, VS2, VS3, VS4, VS5, VS6, VT1, VT2]
  · simp only [A117M1R1]
    refine Or.elim (bt (oZ10)) (fun cZ11 => ?_) (fun cZ11 => ?_)
    · replace h := cond_t cZ11 h
      obtain ⟨kZ12, hkZ12, h⟩ := bind_s h
      obtain ⟨hkZ12a, hkZ12b⟩ := grd_s hkZ12
      obtain ⟨yZ13, hyZ13, h⟩ := bind_s h
      obtain ⟨kZ14, hkZ14, h⟩ := bind_s h
      obtain ⟨hkZ14a, hkZ14b⟩ := grd_s hkZ14
      obtain ⟨yZ15, hyZ15, h⟩ := bind_s h
      obtain ⟨lZ16, hlZ16, h⟩ := bnd_s h
      have eZ17 : (sZ3.2.map AV.i).set (Int.toNat sZ3.1) (.i yZ13) = lZ16.map AV.i := by rw [← hlZ16, List.map_set]
      obtain ⟨yZ18, hyZ18, h⟩ := bind_s h
      obtain ⟨lZ19, hlZ19, h⟩ := bnd_s h
      have eZ20 : (lZ16.map AV.i).set (Int.toNat (IntKind.wrap .i64 (sZ3.1 - 1))) (.i yZ15) = lZ19.map AV.i := by rw [← hlZ19, List.map_set]
      cases h
      try simp only [VS1, VS2, VS3, VS4, VS5, VS6, VT1, VT2, finM_ret, finM_nrm, decide_true, decide_false, List.nodup_nil, List.nodup_cons, oks_p, oks_m, Nat.reduceSub, Nat.reduceMul, ↓reduceIte, reduceCtorEq, Nat.reduceEqDiff, Nat.reduceAdd, Nat.reduceLeDiff, Int.reduceLE, cZ11, hkZ12a, hkZ12b, hyZ13, hkZ14a, hkZ14b, hyZ15, eZ17, hyZ18, eZ20]
      all_goals simp [qL, qJ, qJ0, qS, qX, qR, qM, Shp, sub, tupd, VS1, VS2, VS3, VS4, VS5, VS6, VT1, VT2, S_slices_insertionSortCmpFunc_intM1L2, SX_slices_insertionSortCmpFunc_intM1L2, ← hlZ16, ← hlZ19]
    · replace h := cond_f cZ11 h
      cases h
      try simp only [VS1, VS2, VS3, VS4, VS5, VS6, VT1, VT2, finM_ret, finM_nrm, decide_true, decide_false, List.nodup_nil, List.nodup_cons, oks_p, oks_m, Nat.reduceSub, Nat.reduceMul, ↓reduceIte, reduceCtorEq, Nat.reduceEqDiff, Nat.reduceAdd, Nat.reduceLeDiff, Int.reduceLE, cZ11]
      all_goals simp [qL, qJ, qJ0, qS, qX, qR, qM, Shp, sub, tupd, VS1, VS2, VS3, VS4, VS5, VS6, VT1, VT2, S_slices_insertionSortCmpFunc_intM1L2, SX_slices_insertionSortCmpFunc_intM1L2]
def S_slices_insertionSortCmpFunc_intM1L1 (aaZ0 : Int) (abZ0 : Int) (adZ0 : List Int) (v : Int × List Int) : St := ⟨[(0, .sl 1000000000 0 v.2.length), (1, .i aaZ0), (2, .i abZ0), (3, .fn 105 [.pt 1000000001 0 0]), (8, .i v.1)], [(1000000000, .arr 1 (v.2.map AV.i)), (1000000001, .var (.lst .o 1 (adZ0.map AV.i)))]⟩
def SX_slices_insertionSortCmpFunc_intM1L1 (adZ0 : List Int) (v : List Int) : St := ⟨[], [(1000000000, .arr 1 (v.map AV.i)), (1000000001, .var (.lst .o 1 (adZ0.map AV.i)))]⟩
theorem w_slices_insertionSortCmpFunc_intM1L1 (aaZ0 : Int) (abZ0 : Int) (adZ0 : List Int) (sZ1 : Int × List Int) (o : (Int × List Int) ⊕ (List Int)) (h : M_slices_insertionSortCmpFunc_intM1L1 aaZ0 abZ0 adZ0 sZ1 = some o) : AWP (OkS Try.prog) A117M1L4 (qL [0, 1, 2, 3, 8] [1000000000, 1000000001] (S_slices_insertionSortCmpFunc_intM1L1 aaZ0 abZ0 adZ0) (qX 0 [] [1000000000, 1000000001] (SX_slices_insertionSortCmpFunc_intM1L1 adZ0)) o) (S_slices_insertionSortCmpFunc_intM1L1 aaZ0 abZ0 adZ0 sZ1) := by
  unfold M_slices_insertionSortCmpFunc_intM1L1 at h
  simp only [S_slices_insertionSortCmpFunc_intM1L1, A117M1L4]
  refine Or.elim (bt (decide (sZ1.1 < abZ0))) (fun cZ2 => ?_) (fun cZ2 => ?_)
  · replace h := cond_t cZ2 h
    obtain ⟨oZ23, hoZ23, h⟩ := bind_s h
    try simp only [VS1, VS2, VS3, VS4, VS5, VS6, VT1, VT2, finM_ret, finM_nrm, decide_true, decide_false, List.nodup_nil, List.nodup_cons, oks_p, oks_m, Nat.reduceSub, Nat.reduceMul, ↓reduceIte, reduceCtorEq, Nat.reduceEqDiff, Nat.reduceAdd, Nat.reduceLeDiff, Int.reduceLE, cZ2]
    refine join_rule0 (sh := (fun v => ⟨[(0, .sl 1000000000 0 v.length), (1, .i aaZ0), (2, .i abZ0), (3, .fn 105 [.pt 1000000001 0 0]), (8, .i sZ1.1)], [(1000000000, .arr 1 (v.map AV.i)), (1000000001, .var (.lst .o 1 (adZ0.map AV.i)))]⟩)) (s := oZ23) ?_ ?_
    · replace h := hoZ23
      obtain ⟨oZ21, hoZ21, h⟩ := bind_s h
      try simp only [VS1, VS2, VS3, VS4, VS5, VS6, VT1, VT2, finM_ret, finM_nrm, decide_true, decide_false, List.nodup_nil, List.nodup_cons, oks_p, oks_m, Nat.reduceSub, Nat.reduceMul, ↓reduceIte, reduceCtorEq, Nat.reduceEqDiff, Nat.reduceAdd, Nat.reduceLeDiff, Int.reduceLE, cZ2]
      first | refine tail_rule0 (blk_rule0 (loop_rule (w_slices_insertionSortCmpFunc_intM1L2 aaZ0 abZ0 adZ0 sZ1) hoZ21 ?_)) (fun τ qZ22 => ?_) | refine tail_blk0 (loop_rule (w_slices_insertionSortCmpFunc_intM1L2 aaZ0 abZ0 adZ0 sZ1) hoZ21 ?_) (fun τ qZ22 => ?_)
      · all_goals simp [qL, qJ, qJ0, qS, qX, qR, qM, Shp, sub, tupd, VS1, VS2, VS3, VS4, VS5, VS6, VT1, VT2, S_slices_insertionSortCmpFunc_intM1L2, SX_slices_insertionSortCmpFunc_intM1L2]
      · cases h
        try simp only [VS1, VS2, VS3, VS4, VS5, VS6, VT1, VT2, finM_ret, finM_nrm, decide_true, decide_false, List.nodup_nil, List.nodup_cons, oks_p, oks_m, Nat.reduceSub, Nat.reduceMul, ↓reduceIte, reduceCtorEq, Nat.reduceEqDiff, Nat.reduceAdd, Nat.reduceLeDiff, Int.reduceLE]
        refine ⟨rfl, Shp.sub qZ22 (by decide) (by decide) ?_⟩
        all_goals simp [qL, qJ, qJ0, qS, qX, qR, qM, Shp, sub, tupd, VS1, VS2, VS3, VS4, VS5, VS6, VT1, VT2, SX_slices_insertionSortCmpFunc_intM1L2]
    · simp only [A117M1R3]
      cases h
      try simp only [VS1, VS2, VS3, VS4, VS5, VS6, VT1, VT2, finM_ret, finM_nrm, decide_true, decide_false, List.nodup_nil, List.nodup_cons, oks_p, oks_m, Nat.reduceSub, Nat.reduceMul, ↓reduceIte, reduceCtorEq, Nat.reduceEqDiff, Nat.reduceAdd, Nat.reduceLeDiff, Int.reduceLE, cZ2]
      all_goals simp [qL, qJ, qJ0, qS, qX, qR, qM, Shp, sub, tupd, VS1, VS2, VS3, VS4, VS5, VS6, VT1, VT2, S_slices_insertionSortCmpFunc_intM1L1, SX_slices_insertionSortCmpFunc_intM1L1]
  · replace h := cond_f cZ2 h
    cases h
    try simp only [VS1, VS2, VS3, VS4, VS5, VS6, VT1, VT2, finM_ret, finM_nrm, decide_true, decide_false, List.nodup_nil, List.nodup_cons, oks_p, oks_m, Nat.reduceSub, Nat.reduceMul, ↓reduceIte, reduceCtorEq, Nat.reduceEqDiff, Nat.reduceAdd, Nat.reduceLeDiff, Int.reduceLE, cZ2]
    all_goals simp [qL, qJ, qJ0, qS, qX, qR, qM, Shp, sub, tupd, VS1, VS2, VS3, VS4, VS5, VS6, VT1, VT2, S_slices_insertionSortCmpFunc_intM1L1, SX_slices_insertionSortCmpFunc_intM1L1]
theorem w_slices_insertionSortCmpFunc_intM1 (aaZ0 : Int) (abZ0 : Int) (acZ0 : List Int) (adZ0 : List Int) {r : List Int × List Int} (h : M_slices_insertionSortCmpFunc_intM1 aaZ0 abZ0 acZ0 adZ0 = some r) : OkM Try.prog 117 [.sl 1000000000 0 acZ0.length, .i aaZ0, .i abZ0, .fn 105 [.pt 1000000001 0 0]] [(1000000000, .arr 1 (acZ0.map AV.i)), (1000000001, .var (.lst .o 1 (adZ0.map AV.i)))] ((fun (r : List Int × List Int) => .tup []) r) ((fun (r : List Int × List Int) => [(1000000000, .arr 1 (r.1.map AV.i)), (1000000001, .var (.lst .o 1 (r.2.map AV.i)))]) r) := by
  refine okM_of_body (lr := [1000000000, 1000000001]) hmix m117M1 rfl ?_
  unfold M_slices_insertionSortCmpFunc_intM1 at h
  simp only [A117M1, V117M1]
  obtain ⟨oZ24, hoZ24, h⟩ := bind_s h
  try simp only [VS1, VS2, VS3, VS4, VS5, VS6, VT1, VT2, finM_ret, finM_nrm, decide_true, decide_false, List.nodup_nil, List.nodup_cons, oks_p, oks_m, Nat.reduceSub, Nat.reduceMul, ↓reduceIte, reduceCtorEq, Nat.reduceEqDiff, Nat.reduceAdd, Nat.reduceLeDiff, Int.reduceLE]
  first | refine tail_rule0 (blk_rule0 (loop_rule (w_slices_insertionSortCmpFunc_intM1L1 aaZ0 abZ0 adZ0) hoZ24 ?_)) (fun τ qZ25 => ?_) | refine tail_blk0 (loop_rule (w_slices_insertionSortCmpFunc_intM1L1 aaZ0 abZ0 adZ0) hoZ24 ?_) (fun τ qZ25 => ?_)
  · all_goals simp [qL, qJ, qJ0, qS, qX, qR, qM, Shp, sub, tupd, VS1, VS2, VS3, VS4, VS5, VS6, VT1, VT2, S_slices_insertionSortCmpFunc_intM1L1, SX_slices_insertionSortCmpFunc_intM1L1]
  · cases h
    refine finM_shp qZ25 (by decide) ?_ rfl
    all_goals simp [qL, qJ, qJ0, qS, qX, qR, qM, Shp, sub, tupd, VS1, VS2, VS3, VS4, VS5, VS6, VT1, VT2, V117M1, SX_slices_insertionSortCmpFunc_intM1L1]
def S_slices_insertionSortCmpFunc_intM2L2 (aaZ0 : Nat) (abZ0 : Nat) (acZ0 : Int) (adZ0 : Int) (afZ0 : List Int) (sZ1 : Int × List Int) (v : Int × List Int) : St := ⟨[(0, .sl 1000000000 aaZ0 abZ0), (1, .i acZ0), (2, .i adZ0), (3, .fn 105 [.pt 1000000001 0 0]), (8, .i sZ1.1), (9, .i v.1)], [(1000000000, .arr 1 (v.2.map AV.i)), (1000000001, .var (.lst .o 1 (afZ0.map AV.i)))]⟩
def SX_slices_insertionSortCmpFunc_intM2L2 (aaZ0 : Nat) (abZ0 : Nat) (acZ0 : Int) (adZ0 : Int) (afZ0 : List Int) (sZ1 : Int × List Int) (v : List Int) : St := ⟨[(0, .sl 1000000000 aaZ0 abZ0), (1, .i acZ0), (2, .i adZ0), (3, .fn 105 [.pt 1000000001 0 0]), (8, .i sZ1.1)], [(1000000000, .arr 1 (v.map AV.i)), (1000000001, .var (.lst .o 1 (afZ0.map AV.i)))]⟩
theorem w_slices_insertionSortCmpFunc_intM2L2 (aaZ0 : Nat) (abZ0 : Nat) (acZ0 : Int) (adZ0 : Int) (afZ0 : List Int) (sZ1 : Int × List Int) (sZ3 : Int × List Int) (o : (Int × List Int) ⊕ (List Int)) (h : M_slices_insertionSortCmpFunc_intM2L2 aaZ0 abZ0 acZ0 afZ0 sZ3 = some o) : AWP (OkS Try.prog) A117M2L2 (qL [0, 1, 2, 3, 8, 9] [1000000000, 1000000001] (S_slices_insertionSortCmpFunc_intM2L2 aaZ0 abZ0 acZ0 adZ0 afZ0 sZ1) (qX 2 [0, 1, 2, 3, 8] [1000000000, 1000000001] (SX_slices_insertionSortCmpFunc_intM2L2 aaZ0 abZ0 acZ0 adZ0 afZ0 sZ1)) o) (S_slices_insertionSortCmpFunc_intM2L2 aaZ0 abZ0 acZ0 adZ0 afZ0 sZ1 sZ3) := by
  unfold M_slices_insertionSortCmpFunc_intM2L2 at h
  simp only [S_slices_insertionSortCmpFunc_intM2L2, A117M2L2]
  obtain ⟨oZ10, hoZ10, h⟩ := bind_s h
  try simp only [VS1, VS2, VS3, VS4, VS5, VS6, VT1, VT2, finM_ret, finM_nrm, decide_true, decide_false, List.nodup_nil, List.nodup_cons, oks_p, oks_m, Nat.reduceSub, Nat.reduceMul, ↓reduceIte, reduceCtorEq, Nat.reduceEqDiff, Nat.reduceAdd, Nat.reduceLeDiff, Int.reduceLE]
  refine join_rule0 (sh := (fun v => ⟨[(0, .sl 1000000000 aaZ0 abZ0), (1, .i acZ0), (2, .i adZ0), (3, .fn 105 [.pt 1000000001 0 0]), (8, .i sZ1.1), (9, .i sZ3.1), (34, .b v)], [(1000000000, .arr 1 (sZ3.2.map AV.i)), (1000000001, .var (.lst .o 1 (afZ0.map AV.i)))]⟩)) (s := oZ10) ?_ ?_
  · replace h := hoZ10
    refine Or.elim (bt (decide (acZ0 < sZ3.1))) (fun cZ4 => ?_) (fun cZ4 => ?_)
    · replace h := cond_t cZ4 h
      obtain ⟨kZ5, hkZ5, h⟩ := bind_s h
      obtain ⟨hkZ5a, hkZ5b⟩ := grd_s hkZ5
      obtain ⟨yZ6, hyZ6, h⟩ := bind_s h
      obtain ⟨kZ7, hkZ7, h⟩ := bind_s h
      obtain ⟨hkZ7a, hkZ7b⟩ := grd_s hkZ7
      obtain ⟨yZ8, hyZ8, h⟩ := bind_s h
      obtain ⟨rZ9, hrZ9, h⟩ := bind_s h
      simp only [VS1, VS2, VS3, VS4, VS5, VS6, VT1, VT2, finM_ret, finM_nrm, decide_true, decide_false, List.nodup_nil, List.nodup_cons, oks_p, oks_m, Nat.reduceSub, Nat.reduceMul, ↓reduceIte, reduceCtorEq, Nat.reduceEqDiff, Nat.reduceAdd, Nat.reduceLeDiff, Int.reduceLE, cZ4, hkZ5a, hkZ5b, hyZ6, hkZ7a, hkZ7b, hyZ8]
      refine call_s (by simp only [VS1, VS2, VS3, VS4, VS5, VS6, VT1, VT2, finM_ret, finM_nrm, decide_true, decide_false, List.nodup_nil, List.nodup_cons, oks_p, oks_m, Nat.reduceSub, Nat.reduceMul, ↓reduceIte, reduceCtorEq, Nat.reduceEqDiff, Nat.reduceAdd, Nat.reduceLeDiff, Int.reduceLE, cZ4, hkZ5a, hkZ5b, hyZ6, hkZ7a, hkZ7b, hyZ8]; exact w_impl_descending_c1 _ _ _ hrZ9 ) ?_
      simp only [VA, VF1, ↓reduceIte, Nat.reduceEqDiff, Nat.reduceAdd, Nat.reduceMul, Nat.reduceSub, Nat.reduceLeDiff]
      cases h
      try simp only [VS1, VS2, VS3, VS4, VS5, VS6, VT1, VT2, finM_ret, finM_nrm, decide_true, decide_false, List.nodup_nil, List.nodup_cons, oks_p, oks_m, Nat.reduceSub, Nat.reduceMul, ↓reduceIte, reduceCtorEq, Nat.reduceEqDiff, Nat.reduceAdd, Nat.reduceLeDiff, Int.reduceLE, cZ4, hkZ5a, hkZ5b, hyZ6, hkZ7a, hkZ7b, hyZ8]
      all_goals simp [qL, qJ, qJ0, qS, qX, qR, qM, Shp, sub, tupd, VS1, VS2, VS3, VS4, VS5, VS6, VT1, VT2]
    · replace h := cond_f cZ4 h
      cases h
      try simp only [VS1, VS2, VS3, VS4, VS5, VS6, VT1, VT2, finM_ret, finM_nrm, decide_true, decide_false, List.nodup_nil, List.nodup_cons, oks_p, oks_m, Nat.reduceSub, Nat.reduceMul, ↓reduceIte, reduceCtorEq, Nat.reduceEqDiff, Nat.reduceAdd, Nat.reduceLeDiff, Int.reduceLE, cZ4]
      all_goals simp [qL, qJ, qJ0, qS, qX, qR, qM, Shp, sub, tupd, VS1, VS2, VS3, VS4, VS5, VS6, VT1, VT2]
  · simp only [A117M2R1]
    refine Or.elim (bt (oZ10)) (fun cZ11 => ?_) (fun cZ11 => ?_)
    · replace h := cond_t cZ11 h
      obtain ⟨kZ12, hkZ12, h⟩ := bind_s h
      obtain ⟨hkZ12a, hkZ12b⟩ := grd_s hkZ12
      obtain ⟨yZ13, hyZ13, h⟩ := bind_s h
      obtain ⟨kZ14, hkZ14, h⟩ := bind_s h
      obtain ⟨hkZ14a, hkZ14b⟩ := grd_s hkZ14
      obtain ⟨yZ15, hyZ15, h⟩ := bind_s h
      obtain ⟨lZ16, hlZ16, h⟩ := bnd_s h
      have eZ17 : (sZ3.2.map AV.i).set (aaZ0 + (Int.toNat sZ3.1)) (.i yZ13) = lZ16.map AV.i := by rw [← hlZ16, List.map_set]
      obtain ⟨yZ18, hyZ18, h⟩ := bind_s h
      obtain ⟨lZ19, hlZ19, h⟩ := bnd_s h
      have eZ20 : (lZ16.map AV.i).set (aaZ0 + (Int.toNat (IntKind.wrap .i64 (sZ3.1 - 1)))) (.i yZ15) = lZ19.map AV.i := by rw [← hlZ19, List.map_set]
      cases h
      try simp only [VS1, VS2, VS3, VS4, VS5, VS6, VT1, VT2, finM_ret, finM_nrm, decide_true, decide_false, List.nodup_nil, List.nodup_cons, oks_p, oks_m, Nat.reduceSub, Nat.reduceMul, ↓reduceIte, reduceCtorEq, Nat.reduceEqDiff, Nat.reduceAdd, Nat.reduceLeDiff, Int.reduceLE, cZ11, hkZ12a, hkZ12b, hyZ13, hkZ14a, hkZ14b, hyZ15, eZ17, hyZ18, eZ20]
      all_goals simp [qL, qJ, qJ0, qS, qX, qR, qM, Shp, sub, tupd, VS1, VS2, VS3, VS4, VS5, VS6, VT1, VT2, S_slices_insertionSortCmpFunc_intM2L2, SX_slices_insertionSortCmpFunc_intM2L2, ← hlZ16, ← hlZ19]
    · replace h := cond_f cZ11 h
      cases h
      try simp only [VS1, VS2, VS3, VS4, VS5, VS6, VT1, VT2, finM_ret, finM_nrm, decide_true, decide_false, List.nodup_nil, List.nodup_cons, oks_p, oks_m, Nat.reduceSub, Nat.reduceMul, ↓reduceIte, reduceCtorEq, Nat.reduceEqDiff, Nat.reduceAdd, Nat.reduceLeDiff, Int.reduceLE, cZ11]
      all_goals simp [qL, qJ, qJ0, qS, qX, qR, qM, Shp, sub, tupd, VS1, VS2, VS3, VS4, VS5, VS6, VT1, VT2, S_slices_insertionSortCmpFunc_intM2L2, SX_slices_insertionSortCmpFunc_intM2L2]
def S_slices_insertionSortCmpFunc_intM2L1 (aaZ0 : Nat) (abZ0 : Nat) (acZ0 : Int) (adZ0 : Int) (afZ0 : List Int) (v : Int × List Int) : St := ⟨[(0, .sl 1000000000 aaZ0 abZ0), (1, .i acZ0), (2, .i adZ0), (3, .fn 105 [.pt 1000000001 0 0]), (8, .i v.1)], [(1000000000, .arr 1 (v.2.map AV.i)), (1000000001, .var (.lst .o 1 (afZ0.map AV.i)))]⟩
def SX_slices_insertionSortCmpFunc_intM2L1 (afZ0 : List Int) (v : List Int) : St := ⟨[], [(1000000000, .arr 1 (v.map AV.i)), (1000000001, .var (.lst .o 1 (afZ0.map AV.i)))]⟩
theorem w_slices_insertionSortCmpFunc_intM2L1 (aaZ0 : Nat) (abZ0 : Nat) (acZ0 : Int) (adZ0 : Int) (afZ0 : List Int) (sZ1 : Int × List Int) (o : (Int × List Int) ⊕ (List Int)) (h : M_slices_insertionSortCmpFunc_intM2L1 aaZ0 abZ0 acZ0 adZ0 afZ0 sZ1 = some o) : AWP (OkS Try.prog) A117M2L4 (qL [0, 1, 2, 3, 8] [1000000000, 1000000001] (S_slices_insertionSortCmpFunc_intM2L1 aaZ0 abZ0 acZ0 adZ0 afZ0) (qX 0 [] [1000000000, 1000000001] (SX_slices_insertionSortCmpFunc_intM2L1 afZ0)) o) (S_slices_insertionSortCmpFunc_intM2L1 aaZ0 abZ0 acZ0 adZ0 afZ0 sZ1) := by
  unfold M_slices_insertionSortCmpFunc_intM2L1 at h
  simp only [S_slices_insertionSortCmpFunc_intM2L1, A117M2L4]
  refine Or.elim (bt (decide (sZ1.1 < adZ0))) (fun cZ2 => ?_) (fun cZ2 => ?_)
  · replace h := cond_t cZ2 h
    obtain ⟨oZ23, hoZ23, h⟩ := bind_s h
    try simp only [VS1, VS2, VS3, VS4, VS5, VS6, VT1, VT2, finM_ret, finM_nrm, decide_true, decide_false, List.nodup_nil, List.nodup_cons, oks_p, oks_m, Nat.reduceSub, Nat.reduceMul, ↓reduceIte, reduceCtorEq, Nat.reduceEqDiff, Nat.reduceAdd, Nat.reduceLeDiff, Int.reduceLE, cZ2]
    refine join_rule0 (sh := (fun v => ⟨[(0, .sl 1000000000 aaZ0 abZ0), (1, .i acZ0), (2, .i adZ0), (3, .fn 105 [.pt 1000000001 0 0]), (8, .i sZ1.1)], [(1000000000, .arr 1 (v.map AV.i)), (1000000001, .var (.lst .o 1 (afZ0.map AV.i)))]⟩)) (s := oZ23) ?_ ?_
    · replace h := hoZ23
      obtain ⟨oZ21, hoZ21, h⟩ := bind_s h
      try simp only [VS1, VS2, VS3, VS4, VS5, VS6, VT1, VT2, finM_ret, finM_nrm, decide_true, decide_false, List.nodup_nil, List.nodup_cons, oks_p, oks_m, Nat.reduceSub, Nat.reduceMul, ↓reduceIte, reduceCtorEq, Nat.reduceEqDiff, Nat.reduceAdd, Nat.reduceLeDiff, Int.reduceLE, cZ2]
      first | refine tail_rule0 (blk_rule0 (loop_rule (w_slices_insertionSortCmpFunc_intM2L2 aaZ0 abZ0 acZ0 adZ0 afZ0 sZ1) hoZ21 ?_)) (fun τ qZ22 => ?_) | refine tail_blk0 (loop_rule (w_slices_insertionSortCmpFunc_intM2L2 aaZ0 abZ0 acZ0 adZ0 afZ0 sZ1) hoZ21 ?_) (fun τ qZ22 => ?_)
      · all_goals simp [qL, qJ, qJ0, qS, qX, qR, qM, Shp, sub, tupd, VS1, VS2, VS3, VS4, VS5, VS6, VT1, VT2, S_slices_insertionSortCmpFunc_intM2L2, SX_slices_insertionSortCmpFunc_intM2L2]
      · cases h
        try simp only [VS1, VS2, VS3, VS4, VS5, VS6, VT1, VT2, finM_ret, finM_nrm, decide_true, decide_false, List.nodup_nil, List.nodup_cons, oks_p, oks_m, Nat.reduceSub, Nat.reduceMul, ↓reduceIte, reduceCtorEq, Nat.reduceEqDiff, Nat.reduceAdd, Nat.reduceLeDiff, Int.reduceLE]
        refine ⟨rfl, Shp.sub qZ22 (by decide) (by decide) ?_⟩
        all_goals simp [qL, qJ, qJ0, qS, qX, qR, qM, Shp, sub, tupd, VS1, VS2, VS3, VS4, VS5, VS6, VT1, VT2, SX_slices_insertionSortCmpFunc_intM2L2]
    · simp only [A117M2R3]
      cases h
      try simp only [VS1, VS2, VS3, VS4, VS5, VS6, VT1, VT2, finM_ret, finM_nrm, decide_true, decide_false, List.nodup_nil, List.nodup_cons, oks_p, oks_m, Nat.reduceSub, Nat.reduceMul, ↓reduceIte, reduceCtorEq, Nat.reduceEqDiff, Nat.reduceAdd, Nat.reduceLeDiff, Int.reduceLE, cZ2]
      all_goals simp [qL, qJ, qJ0, qS, qX, qR, qM, Shp, sub, tupd, VS1, VS2, VS3, VS4, VS5, VS6, VT1, VT2, S_slices_insertionSortCmpFunc_intM2L1, SX_slices_insertionSortCmpFunc_intM2L1]
  · replace h := cond_f cZ2 h
    cases h
    try simp only [VS1, VS2, VS3, VS4, VS5, VS6, VT1, VT2, finM_ret, finM_nrm, decide_true, decide_false, List.nodup_nil, List.nodup_cons, oks_p, oks_m, Nat.reduceSub, Nat.reduceMul, ↓reduceIte, reduceCtorEq, Nat.reduceEqDiff, Nat.reduceAdd, Nat.reduceLeDiff, Int.reduceLE, cZ2]
    all_goals simp [qL, qJ, qJ0, qS, qX, qR, qM, Shp, sub, tupd, VS1, VS2, VS3, VS4, VS5, VS6, VT1, VT2, S_slices_insertionSortCmpFunc_intM2L1, SX_slices_insertionSortCmpFunc_intM2L1]
theorem w_slices_insertionSortCmpFunc_intM2 (aaZ0 : Nat) (abZ0 : Nat) (acZ0 : Int) (adZ0 : Int) (aeZ0 : List Int) (afZ0 : List Int) {r : List Int × List Int} (h : M_slices_insertionSortCmpFunc_intM2 aaZ0 abZ0 acZ0 adZ0 aeZ0 afZ0 = some r) : OkM Try.prog 117 [.sl 1000000000 aaZ0 abZ0, .i acZ0, .i adZ0, .fn 105 [.pt 1000000001 0 0]] [(1000000000, .arr 1 (aeZ0.map AV.i)), (1000000001, .var (.lst .o 1 (afZ0.map AV.i)))] ((fun (r : List Int × List Int) => .tup []) r) ((fun (r : List Int × List Int) => [(1000000000, .arr 1 (r.1.map AV.i)), (1000000001, .var (.lst .o 1 (r.2.map AV.i)))]) r) := by
  refine okM_of_body (lr := [1000000000, 1000000001]) hmix m117M2 rfl ?_
  unfold M_slices_insertionSortCmpFunc_intM2 at h
  simp only [A117M2, V117M2]
  obtain ⟨oZ24, hoZ24, h⟩ := bind_s h
  try simp only [VS1, VS2, VS3, VS4, VS5, VS6, VT1, VT2, finM_ret, finM_nrm, decide_true, decide_false, List.nodup_nil, List.nodup_cons, oks_p, oks_m, Nat.reduceSub, Nat.reduceMul, ↓reduceIte, reduceCtorEq, Nat.reduceEqDiff, Nat.reduceAdd, Nat.reduceLeDiff, Int.reduceLE]
  first | refine tail_rule0 (blk_rule0 (loop_rule (w_slices_insertionSortCmpFunc_intM2L1 aaZ0 abZ0 acZ0 adZ0 afZ0) hoZ24 ?_)) (fun τ qZ25 => ?_) | refine tail_blk0 (loop_rule (w_slices_insertionSortCmpFunc_intM2L1 aaZ0 abZ0 acZ0 adZ0 afZ0) hoZ24 ?_) (fun τ qZ25 => ?_)
  · all_goals simp [qL, qJ, qJ0, qS, qX, qR, qM, Shp, sub, tupd, VS1, VS2, VS3, VS4, VS5, VS6, VT1, VT2, S_slices_insertionSortCmpFunc_intM2L1, SX_slices_insertionSortCmpFunc_intM2L1]
  · cases h
    refine finM_shp qZ25 (by decide) ?_ rfl
    all_goals simp [qL, qJ, qJ0, qS, qX, qR, qM, Shp, sub, tupd, VS1, VS2, VS3, VS4, VS5, VS6, VT1, VT2, V117M2, SX_slices_insertionSortCmpFunc_intM2L1]
def S_slices_swapRangeCmpFunc_intM1L1 (aaZ0 : Nat) (abZ0 : Nat) (acZ0 : Int) (adZ0 : Int) (aeZ0 : Int) (agZ0 : List Int) (v : Int × List Int) : St := ⟨[(0, .sl 1000000000 aaZ0 abZ0), (1, .i acZ0), (2, .i adZ0), (3, .i aeZ0), (10, .i v.1)], [(1000000000, .arr 1 (v.2.map AV.i)), (1000000001, .var (.lst .o 1 (agZ0.map AV.i)))]⟩
def SX_slices_swapRangeCmpFunc_intM1L1 (agZ0 : List Int) (v : List Int) : St := ⟨[], [(1000000000, .arr 1 (v.map AV.i)), (1000000001, .var (.lst .o 1 (agZ0.map AV.i)))]⟩
theorem w_slices_swapRangeCmpFunc_intM1L1 (aaZ0 : Nat) (abZ0 : Nat) (acZ0 : Int) (adZ0 : Int) (aeZ0 : Int) (agZ0 : List Int) (sZ1 : Int × List Int) (o : (Int × List Int) ⊕ (List Int)) (h : M_slices_swapRangeCmpFunc_intM1L1 aaZ0 abZ0 acZ0 adZ0 aeZ0 sZ1 = some o) : AWP (OkS Try.prog) A137M1L1 (qL [0, 1, 2, 3, 10] [1000000000, 1000000001] (S_slices_swapRangeCmpFunc_intM1L1 aaZ0 abZ0 acZ0 adZ0 aeZ0 agZ0) (qX 0 [] [1000000000, 1000000001] (SX_slices_swapRangeCmpFunc_intM1L1 agZ0)) o) (S_slices_swapRangeCmpFunc_intM1L1 aaZ0 abZ0 acZ0 adZ0 aeZ0 agZ0 sZ1) := by
  unfold M_slices_swapRangeCmpFunc_intM1L1 at h
  simp only [S_slices_swapRangeCmpFunc_intM1L1, A137M1L1]
  refine Or.elim (bt (decide (sZ1.1 < aeZ0))) (fun cZ2 => ?_) (fun cZ2 => ?_)
  · replace h := cond_t cZ2 h
    obtain ⟨kZ3, hkZ3, h⟩ := bind_s h
    obtain ⟨hkZ3a, hkZ3b⟩ := grd_s hkZ3
    obtain ⟨yZ4, hyZ4, h⟩ := bind_s h
    obtain ⟨kZ5, hkZ5, h⟩ := bind_s h
    obtain ⟨hkZ5a, hkZ5b⟩ := grd_s hkZ5
    obtain ⟨yZ6, hyZ6, h⟩ := bind_s h
    obtain ⟨lZ7, hlZ7, h⟩ := bnd_s h
    have eZ8 : (sZ1.2.map AV.i).set (aaZ0 + (Int.toNat (IntKind.wrap .i64 (acZ0 + sZ1.1)))) (.i yZ4) = lZ7.map AV.i := by rw [← hlZ7, List.map_set]
    obtain ⟨yZ9, hyZ9, h⟩ := bind_s h
    obtain ⟨lZ10, hlZ10, h⟩ := bnd_s h
    have eZ11 : (lZ7.map AV.i).set (aaZ0 + (Int.toNat (IntKind.wrap .i64 (adZ0 + sZ1.1)))) (.i yZ6) = lZ10.map AV.i := by rw [← hlZ10, List.map_set]
    cases h
    try simp only [VS1, VS2, VS3, VS4, VS5, VS6, VT1, VT2, finM_ret, finM_nrm, decide_true, decide_false, List.nodup_nil, List.nodup_cons, oks_p, oks_m, Nat.reduceSub, Nat.reduceMul, ↓reduceIte, reduceCtorEq, Nat.reduceEqDiff, Nat.reduceAdd, Nat.reduceLeDiff, Int.reduceLE, cZ2, hkZ3a, hkZ3b, hyZ4, hkZ5a, hkZ5b, hyZ6, eZ8, hyZ9, eZ11]
    all_goals simp [qL, qJ, qJ0, qS, qX, qR, qM, Shp, sub, tupd, VS1, VS2, VS3, VS4, VS5, VS6, VT1, VT2, S_slices_swapRangeCmpFunc_intM1L1, SX_slices_swapRangeCmpFunc_intM1L1, ← hlZ7, ← hlZ10]
  · replace h := cond_f cZ2 h
    cases h
    try simp only [VS1, VS2, VS3, VS4, VS5, VS6, VT1, VT2, finM_ret, finM_nrm, decide_true, decide_false, List.nodup_nil, List.nodup_cons, oks_p, oks_m, Nat.reduceSub, Nat.reduceMul, ↓reduceIte, reduceCtorEq, Nat.reduceEqDiff, Nat.reduceAdd, Nat.reduceLeDiff, Int.reduceLE, cZ2]
    all_goals simp [qL, qJ, qJ0, qS, qX, qR, qM, Shp, sub, tupd, VS1, VS2, VS3, VS4, VS5, VS6, VT1, VT2, S_slices_swapRangeCmpFunc_intM1L1, SX_slices_swapRangeCmpFunc_intM1L1]
theorem w_slices_swapRangeCmpFunc_intM1 (aaZ0 : Nat) (abZ0 : Nat) (acZ0 : Int) (adZ0 : Int) (aeZ0 : Int) (afZ0 : List Int) (agZ0 : List Int) {r : List Int × List Int} (h : M_slices_swapRangeCmpFunc_intM1 aaZ0 abZ0 acZ0 adZ0 aeZ0 afZ0 agZ0 = some r) : OkM Try.prog 137 [.sl 1000000000 aaZ0 abZ0, .i acZ0, .i adZ0, .i aeZ0, .fn 105 [.pt 1000000001 0 0]] [(1000000000, .arr 1 (afZ0.map AV.i)), (1000000001, .var (.lst .o 1 (agZ0.map AV.i)))] ((fun (r : List Int × List Int) => .tup []) r) ((fun (r : List Int × List Int) => [(1000000000, .arr 1 (r.1.map AV.i)), (1000000001, .var (.lst .o 1 (r.2.map AV.i)))]) r) := by
  refine okM_of_body (lr := [1000000000, 1000000001]) hmix m137M1 rfl ?_
  unfold M_slices_swapRangeCmpFunc_intM1 at h
  simp only [A137M1, V137M1]
  obtain ⟨oZ12, hoZ12, h⟩ := bind_s h
  try simp only [VS1, VS2, VS3, VS4, VS5, VS6, VT1, VT2, finM_ret, finM_nrm, decide_true, decide_false, List.nodup_nil, List.nodup_cons, oks_p, oks_m, Nat.reduceSub, Nat.reduceMul, ↓reduceIte, reduceCtorEq, Nat.reduceEqDiff, Nat.reduceAdd, Nat.reduceLeDiff, Int.reduceLE]
  first | refine tail_rule0 (blk_rule0 (loop_rule (w_slices_swapRangeCmpFunc_intM1L1 aaZ0 abZ0 acZ0 adZ0 aeZ0 agZ0) hoZ12 ?_)) (fun τ qZ13 => ?_) | refine tail_blk0 (loop_rule (w_slices_swapRangeCmpFunc_intM1L1 aaZ0 abZ0 acZ0 adZ0 aeZ0 agZ0) hoZ12 ?_) (fun τ qZ13 => ?_)
  · all_goals simp [qL, qJ, qJ0, qS, qX, qR, qM, Shp, sub, tupd, VS1, VS2, VS3, VS4, VS5, VS6, VT1, VT2, S_slices_swapRangeCmpFunc_intM1L1, SX_slices_swapRangeCmpFunc_intM1L1]
  · cases h
    refine finM_shp qZ13 (by decide) ?_ rfl
    all_goals simp [qL, qJ, qJ0, qS, qX, qR, qM, Shp, sub, tupd, VS1, VS2, VS3, VS4, VS5, VS6, VT1, VT2, V137M1, SX_slices_swapRangeCmpFunc_intM1L1]
def S_slices_rotateCmpFunc_intM1L1 (aaZ0 : Nat) (abZ0 : Nat) (adZ0 : Int) (v : Int × Int × List Int × List Int) : St := ⟨[(0, .sl 1000000000 aaZ0 abZ0), (2, .i adZ0), (4, .fn 105 [.pt 1000000001 0 0]), (10, .i v.1), (11, .i v.2.1)], [(1000000000, .arr 1 (v.2.2.1.map AV.i)), (1000000001, .var (.lst .o 1 (v.2.2.2.map AV.i)))]⟩
def SX_slices_rotateCmpFunc_intM1L1 (aaZ0 : Nat) (abZ0 : Nat) (adZ0 : Int) (v : Int × List Int × List Int) : St := ⟨[(0, .sl 1000000000 aaZ0 abZ0), (2, .i adZ0), (4, .fn 105 [.pt 1000000001 0 0]), (10, .i v.1)], [(1000000000, .arr 1 (v.2.1.map AV.i)), (1000000001, .var (.lst .o 1 (v.2.2.map AV.i)))]⟩
theorem w_slices_rotateCmpFunc_intM1L1 (aaZ0 : Nat) (abZ0 : Nat) (adZ0 : Int) (sZ1 : Int × Int × List Int × List Int) (o : (Int × Int × List Int × List Int) ⊕ (Int × List Int × List Int)) (h : M_slices_rotateCmpFunc_intM1L1 aaZ0 abZ0 adZ0 sZ1 = some o) : AWP (OkS Try.prog) A135M1L1 (qL [0, 2, 4, 10, 11] [1000000000, 1000000001] (S_slices_rotateCmpFunc_intM1L1 aaZ0 abZ0 adZ0) (qX 0 [0, 2, 4, 10] [1000000000, 1000000001] (SX_slices_rotateCmpFunc_intM1L1 aaZ0 abZ0 adZ0)) o) (S_slices_rotateCmpFunc_intM1L1 aaZ0 abZ0 adZ0 sZ1) := by
  unfold M_slices_rotateCmpFunc_intM1L1 at h
  simp only [S_slices_rotateCmpFunc_intM1L1, A135M1L1]
  refine Or.elim (bt (sZ1.1 != sZ1.2.1)) (fun cZ2 => ?_) (fun cZ2 => ?_)
  · replace h := cond_t cZ2 h
    refine Or.elim (bt (decide (sZ1.2.1 < sZ1.1))) (fun cZ3 => ?_) (fun cZ3 => ?_)
    · replace h := cond_t cZ3 h
      obtain ⟨rZ4, hrZ4, h⟩ := bind_s h
      simp only [VS1, VS2, VS3, VS4, VS5, VS6, VT1, VT2, finM_ret, finM_nrm, decide_true, decide_false, List.nodup_nil, List.nodup_cons, oks_p, oks_m, Nat.reduceSub, Nat.reduceMul, ↓reduceIte, reduceCtorEq, Nat.reduceEqDiff, Nat.reduceAdd, Nat.reduceLeDiff, Int.reduceLE, cZ2, cZ3]
      refine call_m (by simp only [VS1, VS2, VS3, VS4, VS5, VS6, VT1, VT2, finM_ret, finM_nrm, decide_true, decide_false, List.nodup_nil, List.nodup_cons, oks_p, oks_m, Nat.reduceSub, Nat.reduceMul, ↓reduceIte, reduceCtorEq, Nat.reduceEqDiff, Nat.reduceAdd, Nat.reduceLeDiff, Int.reduceLE, cZ2, cZ3]; exact w_slices_swapRangeCmpFunc_intM1 _ _ _ _ _ _ _ hrZ4) (by simp [VS1, VS2, VS3, VS4, VS5, VS6, VT1, VT2]) (by first | exact nm_ok [1000000000, 1000000001] rfl (by decide +kernel) | simp [VS1, VS2, VS3, VS4, VS5, VS6, VT1, VT2]) ?_
      simp only [VA, VF1, ↓reduceIte, Nat.reduceEqDiff, Nat.reduceAdd, Nat.reduceMul, Nat.reduceSub, Nat.reduceLeDiff]
      cases h
      try simp only [VS1, VS2, VS3, VS4, VS5, VS6, VT1, VT2, finM_ret, finM_nrm, decide_true, decide_false, List.nodup_nil, List.nodup_cons, oks_p, oks_m, Nat.reduceSub, Nat.reduceMul, ↓reduceIte, reduceCtorEq, Nat.reduceEqDiff, Nat.reduceAdd, Nat.reduceLeDiff, Int.reduceLE, cZ2, cZ3]
      all_goals simp [qL, qJ, qJ0, qS, qX, qR, qM, Shp, sub, tupd, VS1, VS2, VS3, VS4, VS5, VS6, VT1, VT2, S_slices_rotateCmpFunc_intM1L1, SX_slices_rotateCmpFunc_intM1L1]
    · replace h := cond_f cZ3 h
      obtain ⟨rZ5, hrZ5, h⟩ := bind_s h
      simp only [VS1, VS2, VS3, VS4, VS5, VS6, VT1, VT2, finM_ret, finM_nrm, decide_true, decide_false, List.nodup_nil, List.nodup_cons, oks_p, oks_m, Nat.reduceSub, Nat.reduceMul, ↓reduceIte, reduceCtorEq, Nat.reduceEqDiff, Nat.reduceAdd, Nat.reduceLeDiff, Int.reduceLE, cZ2, cZ3]
      refine call_m (by simp only [VS1, VS2, VS3, VS4, VS5, VS6, VT1, VT2, finM_ret, finM_nrm, decide_true, decide_false, List.nodup_nil, List.nodup_cons, oks_p, oks_m, Nat.reduceSub, Nat.reduceMul, ↓reduceIte, reduceCtorEq, Nat.reduceEqDiff, Nat.reduceAdd, Nat.reduceLeDiff, Int.reduceLE, cZ2, cZ3]; exact w_slices_swapRangeCmpFunc_intM1 _ _ _ _ _ _ _ hrZ5) (by simp [VS1, VS2, VS3, VS4, VS5, VS6, VT1, VT2]) (by first | exact nm_ok [1000000000, 1000000001] rfl (by decide +kernel) | simp [VS1, VS2, VS3, VS4, VS5, VS6, VT1, VT2]) ?_
      simp only [VA, VF1, ↓reduceIte, Nat.reduceEqDiff, Nat.reduceAdd, Nat.reduceMul, Nat.reduceSub, Nat.reduceLeDiff]
      cases h
      try simp only [VS1, VS2, VS3, VS4, VS5, VS6, VT1, VT2, finM_ret, finM_nrm, decide_true, decide_false, List.nodup_nil, List.nodup_cons, oks_p, oks_m, Nat.reduceSub, Nat.reduceMul, ↓reduceIte, reduceCtorEq, Nat.reduceEqDiff, Nat.reduceAdd, Nat.reduceLeDiff, Int.reduceLE, cZ2, cZ3]
      all_goals simp [qL, qJ, qJ0, qS, qX, qR, qM, Shp, sub, tupd, VS1, VS2, VS3, VS4, VS5, VS6, VT1, VT2, S_slices_rotateCmpFunc_intM1L1, SX_slices_rotateCmpFunc_intM1L1]
  · replace h := cond_f cZ2 h
    cases h
    try simp only [VS1, VS2, VS3, VS4, VS5, VS6, VT1, VT2, finM_ret, finM_nrm, decide_true, decide_false, List.nodup_nil, List.nodup_cons, oks_p, oks_m, Nat.reduceSub, Nat.reduceMul, ↓reduceIte, reduceCtorEq, Nat.reduceEqDiff, Nat.reduceAdd, Nat.reduceLeDiff, Int.reduceLE, cZ2]
    all_goals simp [qL, qJ, qJ0, qS, qX, qR, qM, Shp, sub, tupd, VS1, VS2, VS3, VS4, VS5, VS6, VT1, VT2, S_slices_rotateCmpFunc_intM1L1, SX_slices_rotateCmpFunc_intM1L1]
theorem w_slices_rotateCmpFunc_intM1 (aaZ0 : Nat) (abZ0 : Nat) (acZ0 : Int) (adZ0 : Int) (aeZ0 : Int) (afZ0 : List Int) (agZ0 : List Int) {r : List Int × List Int} (h : M_slices_rotateCmpFunc_intM1 aaZ0 abZ0 acZ0 adZ0 aeZ0 afZ0 agZ0 = some r) : OkM Try.prog 135 [.sl 1000000000 aaZ0 abZ0, .i acZ0, .i adZ0, .i aeZ0, .fn 105 [.pt 1000000001 0 0]] [(1000000000, .arr 1 (afZ0.map AV.i)), (1000000001, .var (.lst .o 1 (agZ0.map AV.i)))] ((fun (r : List Int × List Int) => .tup []) r) ((fun (r : List Int × List Int) => [(1000000000, .arr 1 (r.1.map AV.i)), (1000000001, .var (.lst .o 1 (r.2.map AV.i)))]) r) := by
  refine okM_of_body (lr := [1000000000, 1000000001]) hmix m135M1 rfl ?_
  unfold M_slices_rotateCmpFunc_intM1 at h
  simp only [A135M1, V135M1]
  obtain ⟨oZ6, hoZ6, h⟩ := bind_s h
  try simp only [VS1, VS2, VS3, VS4, VS5, VS6, VT1, VT2, finM_ret, finM_nrm, decide_true, decide_false, List.nodup_nil, List.nodup_cons, oks_p, oks_m, Nat.reduceSub, Nat.reduceMul, ↓reduceIte, reduceCtorEq, Nat.reduceEqDiff, Nat.reduceAdd, Nat.reduceLeDiff, Int.reduceLE]
  refine join_rule0 (blk_rule0 (loop_rule (w_slices_rotateCmpFunc_intM1L1 aaZ0 abZ0 adZ0) hoZ6 ?_)) ?_
  · all_goals simp [qL, qJ, qJ0, qS, qX, qR, qM, Shp, sub, tupd, VS1, VS2, VS3, VS4, VS5, VS6, VT1, VT2, S_slices_rotateCmpFunc_intM1L1, SX_slices_rotateCmpFunc_intM1L1]
  · simp only [SX_slices_rotateCmpFunc_intM1L1, A135M1R2]
    obtain ⟨rZ7, hrZ7, h⟩ := bind_s h
    simp only [VS1, VS2, VS3, VS4, VS5, VS6, VT1, VT2, finM_ret, finM_nrm, decide_true, decide_false, List.nodup_nil, List.nodup_cons, oks_p, oks_m, Nat.reduceSub, Nat.reduceMul, ↓reduceIte, reduceCtorEq, Nat.reduceEqDiff, Nat.reduceAdd, Nat.reduceLeDiff, Int.reduceLE]
    refine call_m (by simp only [VS1, VS2, VS3, VS4, VS5, VS6, VT1, VT2, finM_ret, finM_nrm, decide_true, decide_false, List.nodup_nil, List.nodup_cons, oks_p, oks_m, Nat.reduceSub, Nat.reduceMul, ↓reduceIte, reduceCtorEq, Nat.reduceEqDiff, Nat.reduceAdd, Nat.reduceLeDiff, Int.reduceLE]; exact w_slices_swapRangeCmpFunc_intM1 _ _ _ _ _ _ _ hrZ7) (by simp [VS1, VS2, VS3, VS4, VS5, VS6, VT1, VT2]) (by first | exact nm_ok [1000000000, 1000000001] rfl (by decide +kernel) | simp [VS1, VS2, VS3, VS4, VS5, VS6, VT1, VT2]) ?_
    simp only [VA, VF1, ↓reduceIte, Nat.reduceEqDiff, Nat.reduceAdd, Nat.reduceMul, Nat.reduceSub, Nat.reduceLeDiff]
    cases h
    try simp only [VS1, VS2, VS3, VS4, VS5, VS6, VT1, VT2, finM_ret, finM_nrm, decide_true, decide_false, List.nodup_nil, List.nodup_cons, oks_p, oks_m, Nat.reduceSub, Nat.reduceMul, ↓reduceIte, reduceCtorEq, Nat.reduceEqDiff, Nat.reduceAdd, Nat.reduceLeDiff, Int.reduceLE]
    all_goals simp [qL, qJ, qJ0, qS, qX, qR, qM, Shp, sub, tupd, VS1, VS2, VS3, VS4, VS5, VS6, VT1, VT2, V135M1]
def S_slices_symMergeCmpFunc_intM1L1 (aaZ0 : Nat) (abZ0 : Nat) (acZ0 : Int) (afZ0 : List Int) (agZ0 : List Int) (v : Int × Int) : St := ⟨[(0, .sl 1000000000 aaZ0 abZ0), (1, .i acZ0), (4, .fn 105 [.pt 1000000001 0 0]), (10, .i v.1), (11, .i v.2)], [(1000000000, .arr 1 (afZ0.map AV.i)), (1000000001, .var (.lst .o 1 (agZ0.map AV.i)))]⟩
def SX_slices_symMergeCmpFunc_intM1L1 (aaZ0 : Nat) (abZ0 : Nat) (acZ0 : Int) (afZ0 : List Int) (agZ0 : List Int) (v : Int) : St := ⟨[(0, .sl 1000000000 aaZ0 abZ0), (1, .i acZ0), (10, .i v)], [(1000000000, .arr 1 (afZ0.map AV.i)), (1000000001, .var (.lst .o 1 (agZ0.map AV.i)))]⟩
theorem w_slices_symMergeCmpFunc_intM1L1 (aaZ0 : Nat) (abZ0 : Nat) (acZ0 : Int) (adZ0 : Int) (aeZ0 : Int) (afZ0 : List Int) (agZ0 : List Int) (rcZ0 : Nat → Nat → Int → Int → Int → List Int → List Int → Option (List Int × List Int)) (ihZ0 : ∀ (aaZ0 : Nat) (abZ0 : Nat) (acZ0 : Int) (adZ0 : Int) (aeZ0 : Int) (afZ0 : List Int) (agZ0 : List Int) {r : List Int × List Int}, rcZ0 aaZ0 abZ0 acZ0 adZ0 aeZ0 afZ0 agZ0 = some r → OkM Try.prog 129 [.sl 1000000000 aaZ0 abZ0, .i acZ0, .i adZ0, .i aeZ0, .fn 105 [.pt 1000000001 0 0]] [(1000000000, .arr 1 (afZ0.map AV.i)), (1000000001, .var (.lst .o 1 (agZ0.map AV.i)))] ((fun (r : List Int × List Int) => .tup []) r) ((fun (r : List Int × List Int) => [(1000000000, .arr 1 (r.1.map AV.i)), (1000000001, .var (.lst .o 1 (r.2.map AV.i)))]) r)) (sZ2 : Int × Int) (o : (Int × Int) ⊕ Int) (h : M_slices_symMergeCmpFunc_intM1L1 aaZ0 abZ0 acZ0 afZ0 agZ0 sZ2 = some o) : AWP (OkS Try.prog) A129M1L1 (qL [0, 1, 4, 10, 11] [1000000000, 1000000001] (S_slices_symMergeCmpFunc_intM1L1 aaZ0 abZ0 acZ0 afZ0 agZ0) (qX 0 [0, 1, 10] [1000000000, 1000000001] (SX_slices_symMergeCmpFunc_intM1L1 aaZ0 abZ0 acZ0 afZ0 agZ0)) o) (S_slices_symMergeCmpFunc_intM1L1 aaZ0 abZ0 acZ0 afZ0 agZ0 sZ2) := by
  unfold M_slices_symMergeCmpFunc_intM1L1 at h
  simp only [S_slices_symMergeCmpFunc_intM1L1, A129M1L1]
  refine Or.elim (bt (decide (sZ2.1 < sZ2.2))) (fun cZ3 => ?_) (fun cZ3 => ?_)
  · replace h := cond_t cZ3 h
    obtain ⟨kZ4, hkZ4, h⟩ := bind_s h
    obtain ⟨hkZ4a, hkZ4b⟩ := grd_s hkZ4
    obtain ⟨yZ5, hyZ5, h⟩ := bind_s h
    obtain ⟨kZ6, hkZ6, h⟩ := bind_s h
    obtain ⟨hkZ6a, hkZ6b⟩ := grd_s hkZ6
    obtain ⟨yZ7, hyZ7, h⟩ := bind_s h
    obtain ⟨rZ8, hrZ8, h⟩ := bind_s h
    simp only [VS1, VS2, VS3, VS4, VS5, VS6, VT1, VT2, finM_ret, finM_nrm, decide_true, decide_false, List.nodup_nil, List.nodup_cons, oks_p, oks_m, Nat.reduceSub, Nat.reduceMul, ↓reduceIte, reduceCtorEq, Nat.reduceEqDiff, Nat.reduceAdd, Nat.reduceLeDiff, Int.reduceLE, cZ3, hkZ4a, hkZ4b, hyZ5, hkZ6a, hkZ6b, hyZ7]
    refine call_s (by simp only [VS1, VS2, VS3, VS4, VS5, VS6, VT1, VT2, finM_ret, finM_nrm, decide_true, decide_false, List.nodup_nil, List.nodup_cons, oks_p, oks_m, Nat.reduceSub, Nat.reduceMul, ↓reduceIte, reduceCtorEq, Nat.reduceEqDiff, Nat.reduceAdd, Nat.reduceLeDiff, Int.reduceLE, cZ3, hkZ4a, hkZ4b, hyZ5, hkZ6a, hkZ6b, hyZ7]; exact w_impl_descending_c1 _ _ _ hrZ8 ) ?_
    simp only [VA, VF1, ↓reduceIte, Nat.reduceEqDiff, Nat.reduceAdd, Nat.reduceMul, Nat.reduceSub, Nat.reduceLeDiff]
    refine Or.elim (bt (decide (rZ8 < 0))) (fun cZ9 => ?_) (fun cZ9 => ?_)
    · replace h := cond_t cZ9 h
      cases h
      try simp only [VS1, VS2, VS3, VS4, VS5, VS6, VT1, VT2, finM_ret, finM_nrm, decide_true, decide_false, List.nodup_nil, List.nodup_cons, oks_p, oks_m, Nat.reduceSub, Nat.reduceMul, ↓reduceIte, reduceCtorEq, Nat.reduceEqDiff, Nat.reduceAdd, Nat.reduceLeDiff, Int.reduceLE, cZ3, hkZ4a, hkZ4b, hyZ5, hkZ6a, hkZ6b, hyZ7, cZ9]
      all_goals simp [qL, qJ, qJ0, qS, qX, qR, qM, Shp, sub, tupd, VS1, VS2, VS3, VS4, VS5, VS6, VT1, VT2, S_slices_symMergeCmpFunc_intM1L1, SX_slices_symMergeCmpFunc_intM1L1]
    · replace h := cond_f cZ9 h
      cases h
      try simp only [VS1, VS2, VS3, VS4, VS5, VS6, VT1, VT2, finM_ret, finM_nrm, decide_true, decide_false, List.nodup_nil, List.nodup_cons, oks_p, oks_m, Nat.reduceSub, Nat.reduceMul, ↓reduceIte, reduceCtorEq, Nat.reduceEqDiff, Nat.reduceAdd, Nat.reduceLeDiff, Int.reduceLE, cZ3, hkZ4a, hkZ4b, hyZ5, hkZ6a, hkZ6b, hyZ7, cZ9]
      all_goals simp [qL, qJ, qJ0, qS, qX, qR, qM, Shp, sub, tupd, VS1, VS2, VS3, VS4, VS5, VS6, VT1, VT2, S_slices_symMergeCmpFunc_intM1L1, SX_slices_symMergeCmpFunc_intM1L1]
  · replace h := cond_f cZ3 h
    cases h
    try simp only [VS1, VS2, VS3, VS4, VS5, VS6, VT1, VT2, finM_ret, finM_nrm, decide_true, decide_false, List.nodup_nil, List.nodup_cons, oks_p, oks_m, Nat.reduceSub, Nat.reduceMul, ↓reduceIte, reduceCtorEq, Nat.reduceEqDiff, Nat.reduceAdd, Nat.reduceLeDiff, Int.reduceLE, cZ3]
    all_goals simp [qL, qJ, qJ0, qS, qX, qR, qM, Shp, sub, tupd, VS1, VS2, VS3, VS4, VS5, VS6, VT1, VT2, S_slices_symMergeCmpFunc_intM1L1, SX_slices_symMergeCmpFunc_intM1L1]
def S_slices_symMergeCmpFunc_intM1L2 (aaZ0 : Nat) (abZ0 : Nat) (agZ0 : List Int) (oZ10 : Int) (v : Int × List Int) : St := ⟨[(0, .sl 1000000000 aaZ0 abZ0), (10, .i oZ10), (13, .i v.1)], [(1000000000, .arr 1 (v.2.map AV.i)), (1000000001, .var (.lst .o 1 (agZ0.map AV.i)))]⟩
def SX_slices_symMergeCmpFunc_intM1L2 (agZ0 : List Int) (v : List Int) : St := ⟨[], [(1000000000, .arr 1 (v.map AV.i)), (1000000001, .var (.lst .o 1 (agZ0.map AV.i)))]⟩
theorem w_slices_symMergeCmpFunc_intM1L2 (aaZ0 : Nat) (abZ0 : Nat) (acZ0 : Int) (adZ0 : Int) (aeZ0 : Int) (afZ0 : List Int) (agZ0 : List Int) (rcZ0 : Nat → Nat → Int → Int → Int → List Int → List Int → Option (List Int × List Int)) (oZ10 : Int) (ihZ0 : ∀ (aaZ0 : Nat) (abZ0 : Nat) (acZ0 : Int) (adZ0 : Int) (aeZ0 : Int) (afZ0 : List Int) (agZ0 : List Int) {r : List Int × List Int}, rcZ0 aaZ0 abZ0 acZ0 adZ0 aeZ0 afZ0 agZ0 = some r → OkM Try.prog 129 [.sl 1000000000 aaZ0 abZ0, .i acZ0, .i adZ0, .i aeZ0, .fn 105 [.pt 1000000001 0 0]] [(1000000000, .arr 1 (afZ0.map AV.i)), (1000000001, .var (.lst .o 1 (agZ0.map AV.i)))] ((fun (r : List Int × List Int) => .tup []) r) ((fun (r : List Int × List Int) => [(1000000000, .arr 1 (r.1.map AV.i)), (1000000001, .var (.lst .o 1 (r.2.map AV.i)))]) r)) (sZ11 : Int × List Int) (o : (Int × List Int) ⊕ (List Int)) (h : M_slices_symMergeCmpFunc_intM1L2 aaZ0 abZ0 oZ10 sZ11 = some o) : AWP (OkS Try.prog) A129M1L3 (qL [0, 10, 13] [1000000000, 1000000001] (S_slices_symMergeCmpFunc_intM1L2 aaZ0 abZ0 agZ0 oZ10) (qX 2 [] [1000000000, 1000000001] (SX_slices_symMergeCmpFunc_intM1L2 agZ0)) o) (S_slices_symMergeCmpFunc_intM1L2 aaZ0 abZ0 agZ0 oZ10 sZ11) := by
  unfold M_slices_symMergeCmpFunc_intM1L2 at h
  simp only [S_slices_symMergeCmpFunc_intM1L2, A129M1L3]
  refine Or.elim (bt (decide (sZ11.1 < (IntKind.wrap .i64 (oZ10 - 1))))) (fun cZ12 => ?_) (fun cZ12 => ?_)
  · replace h := cond_t cZ12 h
    obtain ⟨kZ13, hkZ13, h⟩ := bind_s h
    obtain ⟨hkZ13a, hkZ13b⟩ := grd_s hkZ13
    obtain ⟨yZ14, hyZ14, h⟩ := bind_s h
    obtain ⟨kZ15, hkZ15, h⟩ := bind_s h
    obtain ⟨hkZ15a, hkZ15b⟩ := grd_s hkZ15
    obtain ⟨yZ16, hyZ16, h⟩ := bind_s h
    obtain ⟨lZ17, hlZ17, h⟩ := bnd_s h
    have eZ18 : (sZ11.2.map AV.i).set (aaZ0 + (Int.toNat sZ11.1)) (.i yZ14) = lZ17.map AV.i := by rw [← hlZ17, List.map_set]
    obtain ⟨yZ19, hyZ19, h⟩ := bind_s h
    obtain ⟨lZ20, hlZ20, h⟩ := bnd_s h
    have eZ21 : (lZ17.map AV.i).set (aaZ0 + (Int.toNat (IntKind.wrap .i64 (sZ11.1 + 1)))) (.i yZ16) = lZ20.map AV.i := by rw [← hlZ20, List.map_set]
    cases h
    try simp only [VS1, VS2, VS3, VS4, VS5, VS6, VT1, VT2, finM_ret, finM_nrm, decide_true, decide_false, List.nodup_nil, List.nodup_cons, oks_p, oks_m, Nat.reduceSub, Nat.reduceMul, ↓reduceIte, reduceCtorEq, Nat.reduceEqDiff, Nat.reduceAdd, Nat.reduceLeDiff, Int.reduceLE, cZ12, hkZ13a, hkZ13b, hyZ14, hkZ15a, hkZ15b, hyZ16, eZ18, hyZ19, eZ21]
    all_goals simp [qL, qJ, qJ0, qS, qX, qR, qM, Shp, sub, tupd, VS1, VS2, VS3, VS4, VS5, VS6, VT1, VT2, S_slices_symMergeCmpFunc_intM1L2, SX_slices_symMergeCmpFunc_intM1L2, ← hlZ17, ← hlZ20]
  · replace h := cond_f cZ12 h
    cases h
    try simp only [VS1, VS2, VS3, VS4, VS5, VS6, VT1, VT2, finM_ret, finM_nrm, decide_true, decide_false, List.nodup_nil, List.nodup_cons, oks_p, oks_m, Nat.reduceSub, Nat.reduceMul, ↓reduceIte, reduceCtorEq, Nat.reduceEqDiff, Nat.reduceAdd, Nat.reduceLeDiff, Int.reduceLE, cZ12]
    all_goals simp [qL, qJ, qJ0, qS, qX, qR, qM, Shp, sub, tupd, VS1, VS2, VS3, VS4, VS5, VS6, VT1, VT2, S_slices_symMergeCmpFunc_intM1L2, SX_slices_symMergeCmpFunc_intM1L2]
def S_slices_symMergeCmpFunc_intM1L3 (aaZ0 : Nat) (abZ0 : Nat) (adZ0 : Int) (afZ0 : List Int) (agZ0 : List Int) (v : Int × Int) : St := ⟨[(0, .sl 1000000000 aaZ0 abZ0), (2, .i adZ0), (4, .fn 105 [.pt 1000000001 0 0]), (14, .i v.1), (15, .i v.2)], [(1000000000, .arr 1 (afZ0.map AV.i)), (1000000001, .var (.lst .o 1 (agZ0.map AV.i)))]⟩
def SX_slices_symMergeCmpFunc_intM1L3 (aaZ0 : Nat) (abZ0 : Nat) (adZ0 : Int) (afZ0 : List Int) (agZ0 : List Int) (v : Int) : St := ⟨[(0, .sl 1000000000 aaZ0 abZ0), (2, .i adZ0), (14, .i v)], [(1000000000, .arr 1 (afZ0.map AV.i)), (1000000001, .var (.lst .o 1 (agZ0.map AV.i)))]⟩
theorem w_slices_symMergeCmpFunc_intM1L3 (aaZ0 : Nat) (abZ0 : Nat) (acZ0 : Int) (adZ0 : Int) (aeZ0 : Int) (afZ0 : List Int) (agZ0 : List Int) (rcZ0 : Nat → Nat → Int → Int → Int → List Int → List Int → Option (List Int × List Int)) (ihZ0 : ∀ (aaZ0 : Nat) (abZ0 : Nat) (acZ0 : Int) (adZ0 : Int) (aeZ0 : Int) (afZ0 : List Int) (agZ0 : List Int) {r : List Int × List Int}, rcZ0 aaZ0 abZ0 acZ0 adZ0 aeZ0 afZ0 agZ0 = some r → OkM Try.prog 129 [.sl 1000000000 aaZ0 abZ0, .i acZ0, .i adZ0, .i aeZ0, .fn 105 [.pt 1000000001 0 0]] [(1000000000, .arr 1 (afZ0.map AV.i)), (1000000001, .var (.lst .o 1 (agZ0.map AV.i)))] ((fun (r : List Int × List Int) => .tup []) r) ((fun (r : List Int × List Int) => [(1000000000, .arr 1 (r.1.map AV.i)), (1000000001, .var (.lst .o 1 (r.2.map AV.i)))]) r)) (sZ24 : Int × Int) (o : (Int × Int) ⊕ Int) (h : M_slices_symMergeCmpFunc_intM1L3 aaZ0 abZ0 adZ0 afZ0 agZ0 sZ24 = some o) : AWP (OkS Try.prog) A129M1L5 (qL [0, 2, 4, 14, 15] [1000000000, 1000000001] (S_slices_symMergeCmpFunc_intM1L3 aaZ0 abZ0 adZ0 afZ0 agZ0) (qX 4 [0, 2, 14] [1000000000, 1000000001] (SX_slices_symMergeCmpFunc_intM1L3 aaZ0 abZ0 adZ0 afZ0 agZ0)) o) (S_slices_symMergeCmpFunc_intM1L3 aaZ0 abZ0 adZ0 afZ0 agZ0 sZ24) := by
  unfold M_slices_symMergeCmpFunc_intM1L3 at h
  simp only [S_slices_symMergeCmpFunc_intM1L3, A129M1L5]
  refine Or.elim (bt (decide (sZ24.1 < sZ24.2))) (fun cZ25 => ?_) (fun cZ25 => ?_)
  · replace h := cond_t cZ25 h
    obtain ⟨kZ26, hkZ26, h⟩ := bind_s h
    obtain ⟨hkZ26a, hkZ26b⟩ := grd_s hkZ26
    obtain ⟨yZ27, hyZ27, h⟩ := bind_s h
    obtain ⟨kZ28, hkZ28, h⟩ := bind_s h
    obtain ⟨hkZ28a, hkZ28b⟩ := grd_s hkZ28
    obtain ⟨yZ29, hyZ29, h⟩ := bind_s h
    obtain ⟨rZ30, hrZ30, h⟩ := bind_s h
    simp only [VS1, VS2, VS3, VS4, VS5, VS6, VT1, VT2, finM_ret, finM_nrm, decide_true, decide_false, List.nodup_nil, List.nodup_cons, oks_p, oks_m, Nat.reduceSub, Nat.reduceMul, ↓reduceIte, reduceCtorEq, Nat.reduceEqDiff, Nat.reduceAdd, Nat.reduceLeDiff, Int.reduceLE, cZ25, hkZ26a, hkZ26b, hyZ27, hkZ28a, hkZ28b, hyZ29]
    refine call_s (by simp only [VS1, VS2, VS3, VS4, VS5, VS6, VT1, VT2, finM_ret, finM_nrm, decide_true, decide_false, List.nodup_nil, List.nodup_cons, oks_p, oks_m, Nat.reduceSub, Nat.reduceMul, ↓reduceIte, reduceCtorEq, Nat.reduceEqDiff, Nat.reduceAdd, Nat.reduceLeDiff, Int.reduceLE, cZ25, hkZ26a, hkZ26b, hyZ27, hkZ28a, hkZ28b, hyZ29]; exact w_impl_descending_c1 _ _ _ hrZ30 ) ?_
    simp only [VA, VF1, ↓reduceIte, Nat.reduceEqDiff, Nat.reduceAdd, Nat.reduceMul, Nat.reduceSub, Nat.reduceLeDiff]
    refine Or.elim (bt (!(decide (rZ30 < 0)))) (fun cZ31 => ?_) (fun cZ31 => ?_)
    · replace h := cond_t cZ31 h
      cases h
      try simp only [VS1, VS2, VS3, VS4, VS5, VS6, VT1, VT2, finM_ret, finM_nrm, decide_true, decide_false, List.nodup_nil, List.nodup_cons, oks_p, oks_m, Nat.reduceSub, Nat.reduceMul, ↓reduceIte, reduceCtorEq, Nat.reduceEqDiff, Nat.reduceAdd, Nat.reduceLeDiff, Int.reduceLE, cZ25, hkZ26a, hkZ26b, hyZ27, hkZ28a, hkZ28b, hyZ29, cZ31]
      all_goals simp [qL, qJ, qJ0, qS, qX, qR, qM, Shp, sub, tupd, VS1, VS2, VS3, VS4, VS5, VS6, VT1, VT2, S_slices_symMergeCmpFunc_intM1L3, SX_slices_symMergeCmpFunc_intM1L3]
    · replace h := cond_f cZ31 h
      cases h
      try simp only [VS1, VS2, VS3, VS4, VS5, VS6, VT1, VT2, finM_ret, finM_nrm, decide_true, decide_false, List.nodup_nil, List.nodup_cons, oks_p, oks_m, Nat.reduceSub, Nat.reduceMul, ↓reduceIte, reduceCtorEq, Nat.reduceEqDiff, Nat.reduceAdd, Nat.reduceLeDiff, Int.reduceLE, cZ25, hkZ26a, hkZ26b, hyZ27, hkZ28a, hkZ28b, hyZ29, cZ31]
      all_goals simp [qL, qJ, qJ0, qS, qX, qR, qM, Shp, sub, tupd, VS1, VS2, VS3, VS4, VS5, VS6, VT1, VT2, S_slices_symMergeCmpFunc_intM1L3, SX_slices_symMergeCmpFunc_intM1L3]
  · replace h := cond_f cZ25 h
    cases h
    try simp only [VS1, VS2, VS3, VS4, VS5, VS6, VT1, VT2, finM_ret, finM_nrm, decide_true, decide_false, List.nodup_nil, List.nodup_cons, oks_p, oks_m, Nat.reduceSub, Nat.reduceMul, ↓reduceIte, reduceCtorEq, Nat.reduceEqDiff, Nat.reduceAdd, Nat.reduceLeDiff, Int.reduceLE, cZ25]
    all_goals simp [qL, qJ, qJ0, qS, qX, qR, qM, Shp, sub, tupd, VS1, VS2, VS3, VS4, VS5, VS6, VT1, VT2, S_slices_symMergeCmpFunc_intM1L3, SX_slices_symMergeCmpFunc_intM1L3]
def S_slices_symMergeCmpFunc_intM1L4 (aaZ0 : Nat) (abZ0 : Nat) (agZ0 : List Int) (oZ32 : Int) (v : Int × List Int) : St := ⟨[(0, .sl 1000000000 aaZ0 abZ0), (14, .i oZ32), (17, .i v.1)], [(1000000000, .arr 1 (v.2.map AV.i)), (1000000001, .var (.lst .o 1 (agZ0.map AV.i)))]⟩
def SX_slices_symMergeCmpFunc_intM1L4 (agZ0 : List Int) (v : List Int) : St := ⟨[], [(1000000000, .arr 1 (v.map AV.i)), (1000000001, .var (.lst .o 1 (agZ0.map AV.i)))]⟩
theorem w_slices_symMergeCmpFunc_intM1L4 (aaZ0 : Nat) (abZ0 : Nat) (acZ0 : Int) (adZ0 : Int) (aeZ0 : Int) (afZ0 : List Int) (agZ0 : List Int) (rcZ0 : Nat → Nat → Int → Int → Int → List Int → List Int → Option (List Int × List Int)) (oZ32 : Int) (ihZ0 : ∀ (aaZ0 : Nat) (abZ0 : Nat) (acZ0 : Int) (adZ0 : Int) (aeZ0 : Int) (afZ0 : List Int) (agZ0 : List Int) {r : List Int × List Int}, rcZ0 aaZ0 abZ0 acZ0 adZ0 aeZ0 afZ0 agZ0 = some r → OkM Try.prog 129 [.sl 1000000000 aaZ0 abZ0, .i acZ0, .i adZ0, .i aeZ0, .fn 105 [.pt 1000000001 0 0]] [(1000000000, .arr 1 (afZ0.map AV.i)), (1000000001, .var (.lst .o 1 (agZ0.map AV.i)))] ((fun (r : List Int × List Int) => .tup []) r) ((fun (r : List Int × List Int) => [(1000000000, .arr 1 (r.1.map AV.i)), (1000000001, .var (.lst .o 1 (r.2.map AV.i)))]) r)) (sZ33 : Int × List Int) (o : (Int × List Int) ⊕ (List Int)) (h : M_slices_symMergeCmpFunc_intM1L4 aaZ0 abZ0 oZ32 sZ33 = some o) : AWP (OkS Try.prog) A129M1L7 (qL [0, 14, 17] [1000000000, 1000000001] (S_slices_symMergeCmpFunc_intM1L4 aaZ0 abZ0 agZ0 oZ32) (qX 6 [] [1000000000, 1000000001] (SX_slices_symMergeCmpFunc_intM1L4 agZ0)) o) (S_slices_symMergeCmpFunc_intM1L4 aaZ0 abZ0 agZ0 oZ32 sZ33) := by
  unfold M_slices_symMergeCmpFunc_intM1L4 at h
  simp only [S_slices_symMergeCmpFunc_intM1L4, A129M1L7]
  refine Or.elim (bt (decide (oZ32 < sZ33.1))) (fun cZ34 => ?_) (fun cZ34 => ?_)
  · replace h := cond_t cZ34 h
    obtain ⟨kZ35, hkZ35, h⟩ := bind_s h
    obtain ⟨hkZ35a, hkZ35b⟩ := grd_s hkZ35
    obtain ⟨yZ36, hyZ36, h⟩ := bind_s h
    obtain ⟨kZ37, hkZ37, h⟩ := bind_s h
    obtain ⟨hkZ37a, hkZ37b⟩ := grd_s hkZ37
    obtain ⟨yZ38, hyZ38, h⟩ := bind_s h
    obtain ⟨lZ39, hlZ39, h⟩ := bnd_s h
    have eZ40 : (sZ33.2.map AV.i).set (aaZ0 + (Int.toNat sZ33.1)) (.i yZ36) = lZ39.map AV.i := by rw [← hlZ39, List.map_set]
    obtain ⟨yZ41, hyZ41, h⟩ := bind_s h
    obtain ⟨lZ42, hlZ42, h⟩ := bnd_s h
    have eZ43 : (lZ39.map AV.i).set (aaZ0 + (Int.toNat (IntKind.wrap .i64 (sZ33.1 - 1)))) (.i yZ38) = lZ42.map AV.i := by rw [← hlZ42, List.map_set]
    cases h
    try simp only [VS1, VS2, VS3, VS4, VS5, VS6, VT1, VT2, finM_ret, finM_nrm, decide_true, decide_false, List.nodup_nil, List.nodup_cons, oks_p, oks_m, Nat.reduceSub, Nat.reduceMul, ↓reduceIte, reduceCtorEq, Nat.reduceEqDiff, Nat.reduceAdd, Nat.reduceLeDiff, Int.reduceLE, cZ34, hkZ35a, hkZ35b, hyZ36, hkZ37a, hkZ37b, hyZ38, eZ40, hyZ41, eZ43]
    all_goals simp [qL, qJ, qJ0, qS, qX, qR, qM, Shp, sub, tupd, VS1, VS2, VS3, VS4, VS5, VS6, VT1, VT2, S_slices_symMergeCmpFunc_intM1L4, SX_slices_symMergeCmpFunc_intM1L4, ← hlZ39, ← hlZ42]
  · replace h := cond_f cZ34 h
    cases h
    try simp only [VS1, VS2, VS3, VS4, VS5, VS6, VT1, VT2, finM_ret, finM_nrm, decide_true, decide_false, List.nodup_nil, List.nodup_cons, oks_p, oks_m, Nat.reduceSub, Nat.reduceMul, ↓reduceIte, reduceCtorEq, Nat.reduceEqDiff, Nat.reduceAdd, Nat.reduceLeDiff, Int.reduceLE, cZ34]
    all_goals simp [qL, qJ, qJ0, qS, qX, qR, qM, Shp, sub, tupd, VS1, VS2, VS3, VS4, VS5, VS6, VT1, VT2, S_slices_symMergeCmpFunc_intM1L4, SX_slices_symMergeCmpFunc_intM1L4]
def S_slices_symMergeCmpFunc_intM1L5 (aaZ0 : Nat) (abZ0 : Nat) (acZ0 : Int) (adZ0 : Int) (aeZ0 : Int) (afZ0 : List Int) (agZ0 : List Int) (v : Int × Int) : St := ⟨[(0, .sl 1000000000 aaZ0 abZ0), (1, .i acZ0), (2, .i adZ0), (3, .i aeZ0), (4, .fn 105 [.pt 1000000001 0 0]), (18, .i (IntKind.wrap .i64 (Int.fdiv (IntKind.wrap .u64 (IntKind.wrap .i64 (acZ0 + aeZ0))) (2 ^ (min (Int.toNat 1) (IntKind.bits .u64)))))), (19, .i (IntKind.wrap .i64 ((IntKind.wrap .i64 (Int.fdiv (IntKind.wrap .u64 (IntKind.wrap .i64 (acZ0 + aeZ0))) (2 ^ (min (Int.toNat 1) (IntKind.bits .u64))))) + adZ0))), (20, .i v.1), (21, .i v.2), (22, .i (IntKind.wrap .i64 ((IntKind.wrap .i64 ((IntKind.wrap .i64 (Int.fdiv (IntKind.wrap .u64 (IntKind.wrap .i64 (acZ0 + aeZ0))) (2 ^ (min (Int.toNat 1) (IntKind.bits .u64))))) + adZ0)) - 1)))], [(1000000000, .arr 1 (afZ0.map AV.i)), (1000000001, .var (.lst .o 1 (agZ0.map AV.i)))]⟩
def SX_slices_symMergeCmpFunc_intM1L5 (aaZ0 : Nat) (abZ0 : Nat) (acZ0 : Int) (adZ0 : Int) (aeZ0 : Int) (afZ0 : List Int) (agZ0 : List Int) (v : Int) : St := ⟨[(0, .sl 1000000000 aaZ0 abZ0), (1, .i acZ0), (2, .i adZ0), (3, .i aeZ0), (4, .fn 105 [.pt 1000000001 0 0]), (18, .i (IntKind.wrap .i64 (Int.fdiv (IntKind.wrap .u64 (IntKind.wrap .i64 (acZ0 + aeZ0))) (2 ^ (min (Int.toNat 1) (IntKind.bits .u64)))))), (19, .i (IntKind.wrap .i64 ((IntKind.wrap .i64 (Int.fdiv (IntKind.wrap .u64 (IntKind.wrap .i64 (acZ0 + aeZ0))) (2 ^ (min (Int.toNat 1) (IntKind.bits .u64))))) + adZ0))), (20, .i v)], [(1000000000, .arr 1 (afZ0.map AV.i)), (1000000001, .var (.lst .o 1 (agZ0.map AV.i)))]⟩
theorem w_slices_symMergeCmpFunc_intM1L5 (aaZ0 : Nat) (abZ0 : Nat) (acZ0 : Int) (adZ0 : Int) (aeZ0 : Int) (afZ0 : List Int) (agZ0 : List Int) (rcZ0 : Nat → Nat → Int → Int → Int → List Int → List Int → Option (List Int × List Int)) (ihZ0 : ∀ (aaZ0 : Nat) (abZ0 : Nat) (acZ0 : Int) (adZ0 : Int) (aeZ0 : Int) (afZ0 : List Int) (agZ0 : List Int) {r : List Int × List Int}, rcZ0 aaZ0 abZ0 acZ0 adZ0 aeZ0 afZ0 agZ0 = some r → OkM Try.prog 129 [.sl 1000000000 aaZ0 abZ0, .i acZ0, .i adZ0, .i aeZ0, .fn 105 [.pt 1000000001 0 0]] [(1000000000, .arr 1 (afZ0.map AV.i)), (1000000001, .var (.lst .o 1 (agZ0.map AV.i)))] ((fun (r : List Int × List Int) => .tup []) r) ((fun (r : List Int × List Int) => [(1000000000, .arr 1 (r.1.map AV.i)), (1000000001, .var (.lst .o 1 (r.2.map AV.i)))]) r)) (sZ47 : Int × Int) (o : (Int × Int) ⊕ Int) (h : M_slices_symMergeCmpFunc_intM1L5 aaZ0 abZ0 acZ0 adZ0 aeZ0 afZ0 agZ0 sZ47 = some o) : AWP (OkS Try.prog) A129M1L10 (qL [0, 1, 2, 3, 4, 18, 19, 20, 21, 22] [1000000000, 1000000001] (S_slices_symMergeCmpFunc_intM1L5 aaZ0 abZ0 acZ0 adZ0 aeZ0 afZ0 agZ0) (qX 8 [0, 1, 2, 3, 4, 18, 19, 20] [1000000000, 1000000001] (SX_slices_symMergeCmpFunc_intM1L5 aaZ0 abZ0 acZ0 adZ0 aeZ0 afZ0 agZ0)) o) (S_slices_symMergeCmpFunc_intM1L5 aaZ0 abZ0 acZ0 adZ0 aeZ0 afZ0 agZ0 sZ47) := by
  unfold M_slices_symMergeCmpFunc_intM1L5 at h
  simp only [S_slices_symMergeCmpFunc_intM1L5, A129M1L10]
  refine Or.elim (bt (decide (sZ47.1 < sZ47.2))) (fun cZ48 => ?_) (fun cZ48 => ?_)
  · replace h := cond_t cZ48 h
    obtain ⟨kZ49, hkZ49, h⟩ := bind_s h
    obtain ⟨hkZ49a, hkZ49b⟩ := grd_s hkZ49
    obtain ⟨yZ50, hyZ50, h⟩ := bind_s h
    obtain ⟨kZ51, hkZ51, h⟩ := bind_s h
    obtain ⟨hkZ51a, hkZ51b⟩ := grd_s hkZ51
    obtain ⟨yZ52, hyZ52, h⟩ := bind_s h
    obtain ⟨rZ53, hrZ53, h⟩ := bind_s h
    simp only [VS1, VS2, VS3, VS4, VS5, VS6, VT1, VT2, finM_ret, finM_nrm, decide_true, decide_false, List.nodup_nil, List.nodup_cons, oks_p, oks_m, Nat.reduceSub, Nat.reduceMul, ↓reduceIte, reduceCtorEq, Nat.reduceEqDiff, Nat.reduceAdd, Nat.reduceLeDiff, Int.reduceLE, cZ48, hkZ49a, hkZ49b, hyZ50, hkZ51a, hkZ51b, hyZ52]
    refine call_s (by simp only [VS1, VS2, VS3, VS4, VS5, VS6, VT1, VT2, finM_ret, finM_nrm, decide_true, decide_false, List.nodup_nil, List.nodup_cons, oks_p, oks_m, Nat.reduceSub, Nat.reduceMul, ↓reduceIte, reduceCtorEq, Nat.reduceEqDiff, Nat.reduceAdd, Nat.reduceLeDiff, Int.reduceLE, cZ48, hkZ49a, hkZ49b, hyZ50, hkZ51a, hkZ51b, hyZ52]; exact w_impl_descending_c1 _ _ _ hrZ53 ) ?_
    simp only [VA, VF1, ↓reduceIte, Nat.reduceEqDiff, Nat.reduceAdd, Nat.reduceMul, Nat.reduceSub, Nat.reduceLeDiff]
    refine Or.elim (bt (!(decide (rZ53 < 0)))) (fun cZ54 => ?_) (fun cZ54 => ?_)
    · replace h := cond_t cZ54 h
      cases h
      try simp only [VS1, VS2, VS3, VS4, VS5, VS6, VT1, VT2, finM_ret, finM_nrm, decide_true, decide_false, List.nodup_nil, List.nodup_cons, oks_p, oks_m, Nat.reduceSub, Nat.reduceMul, ↓reduceIte, reduceCtorEq, Nat.reduceEqDiff, Nat.reduceAdd, Nat.reduceLeDiff, Int.reduceLE, cZ48, hkZ49a, hkZ49b, hyZ50, hkZ51a, hkZ51b, hyZ52, cZ54]
      all_goals simp [qL, qJ, qJ0, qS, qX, qR, qM, Shp, sub, tupd, VS1, VS2, VS3, VS4, VS5, VS6, VT1, VT2, S_slices_symMergeCmpFunc_intM1L5, SX_slices_symMergeCmpFunc_intM1L5]
    · replace h := cond_f cZ54 h
      cases h
      try simp only [VS1, VS2, VS3, VS4, VS5, VS6, VT1, VT2, finM_ret, finM_nrm, decide_true, decide_false, List.nodup_nil, List.nodup_cons, oks_p, oks_m, Nat.reduceSub, Nat.reduceMul, ↓reduceIte, reduceCtorEq, Nat.reduceEqDiff, Nat.reduceAdd, Nat.reduceLeDiff, Int.reduceLE, cZ48, hkZ49a, hkZ49b, hyZ50, hkZ51a, hkZ51b, hyZ52, cZ54]
      all_goals simp [qL, qJ, qJ0, qS, qX, qR, qM, Shp, sub, tupd, VS1, VS2, VS3, VS4, VS5, VS6, VT1, VT2, S_slices_symMergeCmpFunc_intM1L5, SX_slices_symMergeCmpFunc_intM1L5]
  · replace h := cond_f cZ48 h
    cases h
    try simp only [VS1, VS2, VS3, VS4, VS5, VS6, VT1, VT2, finM_ret, finM_nrm, decide_true, decide_false, List.nodup_nil, List.nodup_cons, oks_p, oks_m, Nat.reduceSub, Nat.reduceMul, ↓reduceIte, reduceCtorEq, Nat.reduceEqDiff, Nat.reduceAdd, Nat.reduceLeDiff, Int.reduceLE, cZ48]
    all_goals simp [qL, qJ, qJ0, qS, qX, qR, qM, Shp, sub, tupd, VS1, VS2, VS3, VS4, VS5, VS6, VT1, VT2, S_slices_symMergeCmpFunc_intM1L5, SX_slices_symMergeCmpFunc_intM1L5]
theorem wB_slices_symMergeCmpFunc_intM1 (rcZ0 : Nat → Nat → Int → Int → Int → List Int → List Int → Option (List Int × List Int)) (ihZ0 : ∀ (aaZ0 : Nat) (abZ0 : Nat) (acZ0 : Int) (adZ0 : Int) (aeZ0 : Int) (afZ0 : List Int) (agZ0 : List Int) {r : List Int × List Int}, rcZ0 aaZ0 abZ0 acZ0 adZ0 aeZ0 afZ0 agZ0 = some r → OkM Try.prog 129 [.sl 1000000000 aaZ0 abZ0, .i acZ0, .i adZ0, .i aeZ0, .fn 105 [.pt 1000000001 0 0]] [(1000000000, .arr 1 (afZ0.map AV.i)), (1000000001, .var (.lst .o 1 (agZ0.map AV.i)))] ((fun (r : List Int × List Int) => .tup []) r) ((fun (r : List Int × List Int) => [(1000000000, .arr 1 (r.1.map AV.i)), (1000000001, .var (.lst .o 1 (r.2.map AV.i)))]) r)) (aaZ0 : Nat) (abZ0 : Nat) (acZ0 : Int) (adZ0 : Int) (aeZ0 : Int) (afZ0 : List Int) (agZ0 : List Int) {r : List Int × List Int} (h : M_slices_symMergeCmpFunc_intM1_B rcZ0 aaZ0 abZ0 acZ0 adZ0 aeZ0 afZ0 agZ0 = some r) : OkM Try.prog 129 [.sl 1000000000 aaZ0 abZ0, .i acZ0, .i adZ0, .i aeZ0, .fn 105 [.pt 1000000001 0 0]] [(1000000000, .arr 1 (afZ0.map AV.i)), (1000000001, .var (.lst .o 1 (agZ0.map AV.i)))] ((fun (r : List Int × List Int) => .tup []) r) ((fun (r : List Int × List Int) => [(1000000000, .arr 1 (r.1.map AV.i)), (1000000001, .var (.lst .o 1 (r.2.map AV.i)))]) r) := by
  refine okM_of_body (lr := [1000000000, 1000000001]) hmix m129M1 rfl ?_
  unfold M_slices_symMergeCmpFunc_intM1_B at h
  simp only [A129M1, V129M1]
  refine Or.elim (bt ((IntKind.wrap .i64 (adZ0 - acZ0)) == 1)) (fun cZ1 => ?_) (fun cZ1 => ?_)
  · replace h := cond_t cZ1 h
    obtain ⟨oZ10, hoZ10, h⟩ := bind_s h
    try simp only [VS1, VS2, VS3, VS4, VS5, VS6, VT1, VT2, finM_ret, finM_nrm, decide_true, decide_false, List.nodup_nil, List.nodup_cons, oks_p, oks_m, Nat.reduceSub, Nat.reduceMul, ↓reduceIte, reduceCtorEq, Nat.reduceEqDiff, Nat.reduceAdd, Nat.reduceLeDiff, Int.reduceLE, cZ1]
    refine join_rule0 (blk_rule0 (loop_rule (w_slices_symMergeCmpFunc_intM1L1 aaZ0 abZ0 acZ0 adZ0 aeZ0 afZ0 agZ0 rcZ0 ihZ0) hoZ10 ?_)) ?_
    · all_goals simp [qL, qJ, qJ0, qS, qX, qR, qM, Shp, sub, tupd, VS1, VS2, VS3, VS4, VS5, VS6, VT1, VT2, S_slices_symMergeCmpFunc_intM1L1, SX_slices_symMergeCmpFunc_intM1L1]
    · simp only [SX_slices_symMergeCmpFunc_intM1L1, A129M1R2]
      obtain ⟨oZ22, hoZ22, h⟩ := bind_s h
      try simp only [VS1, VS2, VS3, VS4, VS5, VS6, VT1, VT2, finM_ret, finM_nrm, decide_true, decide_false, List.nodup_nil, List.nodup_cons, oks_p, oks_m, Nat.reduceSub, Nat.reduceMul, ↓reduceIte, reduceCtorEq, Nat.reduceEqDiff, Nat.reduceAdd, Nat.reduceLeDiff, Int.reduceLE, cZ1]
      refine join_rule0 (blk_rule0 (loop_rule (w_slices_symMergeCmpFunc_intM1L2 aaZ0 abZ0 acZ0 adZ0 aeZ0 afZ0 agZ0 rcZ0 oZ10 ihZ0) hoZ22 ?_)) ?_
      · all_goals simp [qL, qJ, qJ0, qS, qX, qR, qM, Shp, sub, tupd, VS1, VS2, VS3, VS4, VS5, VS6, VT1, VT2, S_slices_symMergeCmpFunc_intM1L2, SX_slices_symMergeCmpFunc_intM1L2]
      · simp only [SX_slices_symMergeCmpFunc_intM1L2, A129M1R4]
        cases h
        try simp only [VS1, VS2, VS3, VS4, VS5, VS6, VT1, VT2, finM_ret, finM_nrm, decide_true, decide_false, List.nodup_nil, List.nodup_cons, oks_p, oks_m, Nat.reduceSub, Nat.reduceMul, ↓reduceIte, reduceCtorEq, Nat.reduceEqDiff, Nat.reduceAdd, Nat.reduceLeDiff, Int.reduceLE, cZ1]
        all_goals simp [qL, qJ, qJ0, qS, qX, qR, qM, Shp, sub, tupd, VS1, VS2, VS3, VS4, VS5, VS6, VT1, VT2, V129M1]
  · replace h := cond_f cZ1 h
    refine Or.elim (bt ((IntKind.wrap .i64 (aeZ0 - adZ0)) == 1)) (fun cZ23 => ?_) (fun cZ23 => ?_)
    · replace h := cond_t cZ23 h
      obtain ⟨oZ32, hoZ32, h⟩ := bind_s h
      try simp only [VS1, VS2, VS3, VS4, VS5, VS6, VT1, VT2, finM_ret, finM_nrm, decide_true, decide_false, List.nodup_nil, List.nodup_cons, oks_p, oks_m, Nat.reduceSub, Nat.reduceMul, ↓reduceIte, reduceCtorEq, Nat.reduceEqDiff, Nat.reduceAdd, Nat.reduceLeDiff, Int.reduceLE, cZ1, cZ23]
      refine join_rule0 (blk_rule0 (loop_rule (w_slices_symMergeCmpFunc_intM1L3 aaZ0 abZ0 acZ0 adZ0 aeZ0 afZ0 agZ0 rcZ0 ihZ0) hoZ32 ?_)) ?_
      · all_goals simp [qL, qJ, qJ0, qS, qX, qR, qM, Shp, sub, tupd, VS1, VS2, VS3, VS4, VS5, VS6, VT1, VT2, S_slices_symMergeCmpFunc_intM1L3, SX_slices_symMergeCmpFunc_intM1L3]
      · simp only [SX_slices_symMergeCmpFunc_intM1L3, A129M1R6]
        obtain ⟨oZ44, hoZ44, h⟩ := bind_s h
        try simp only [VS1, VS2, VS3, VS4, VS5, VS6, VT1, VT2, finM_ret, finM_nrm, decide_true, decide_false, List.nodup_nil, List.nodup_cons, oks_p, oks_m, Nat.reduceSub, Nat.reduceMul, ↓reduceIte, reduceCtorEq, Nat.reduceEqDiff, Nat.reduceAdd, Nat.reduceLeDiff, Int.reduceLE, cZ1, cZ23]
        refine join_rule0 (blk_rule0 (loop_rule (w_slices_symMergeCmpFunc_intM1L4 aaZ0 abZ0 acZ0 adZ0 aeZ0 afZ0 agZ0 rcZ0 oZ32 ihZ0) hoZ44 ?_)) ?_
        · all_goals simp [qL, qJ, qJ0, qS, qX, qR, qM, Shp, sub, tupd, VS1, VS2, VS3, VS4, VS5, VS6, VT1, VT2, S_slices_symMergeCmpFunc_intM1L4, SX_slices_symMergeCmpFunc_intM1L4]
        · simp only [SX_slices_symMergeCmpFunc_intM1L4, A129M1R8]
          cases h
          try simp only [VS1, VS2, VS3, VS4, VS5, VS6, VT1, VT2, finM_ret, finM_nrm, decide_true, decide_false, List.nodup_nil, List.nodup_cons, oks_p, oks_m, Nat.reduceSub, Nat.reduceMul, ↓reduceIte, reduceCtorEq, Nat.reduceEqDiff, Nat.reduceAdd, Nat.reduceLeDiff, Int.reduceLE, cZ1, cZ23]
          all_goals simp [qL, qJ, qJ0, qS, qX, qR, qM, Shp, sub, tupd, VS1, VS2, VS3, VS4, VS5, VS6, VT1, VT2, V129M1]
    · replace h := cond_f cZ23 h
      obtain ⟨oZ46, hoZ46, h⟩ := bind_s h
      try simp only [VS1, VS2, VS3, VS4, VS5, VS6, VT1, VT2, finM_ret, finM_nrm, decide_true, decide_false, List.nodup_nil, List.nodup_cons, oks_p, oks_m, Nat.reduceSub, Nat.reduceMul, ↓reduceIte, reduceCtorEq, Nat.reduceEqDiff, Nat.reduceAdd, Nat.reduceLeDiff, Int.reduceLE, cZ1, cZ23]
      refine join_rule0 (sh := (fun v => ⟨[(0, .sl 1000000000 aaZ0 abZ0), (1, .i acZ0), (2, .i adZ0), (3, .i aeZ0), (4, .fn 105 [.pt 1000000001 0 0]), (18, .i (IntKind.wrap .i64 (Int.fdiv (IntKind.wrap .u64 (IntKind.wrap .i64 (acZ0 + aeZ0))) (2 ^ (min (Int.toNat 1) (IntKind.bits .u64)))))), (19, .i (IntKind.wrap .i64 ((IntKind.wrap .i64 (Int.fdiv (IntKind.wrap .u64 (IntKind.wrap .i64 (acZ0 + aeZ0))) (2 ^ (min (Int.toNat 1) (IntKind.bits .u64))))) + adZ0))), (20, .i v.1), (21, .i v.2)], [(1000000000, .arr 1 (afZ0.map AV.i)), (1000000001, .var (.lst .o 1 (agZ0.map AV.i)))]⟩)) (s := oZ46) ?_ ?_
      · replace h := hoZ46
        refine Or.elim (bt (decide ((IntKind.wrap .i64 (Int.fdiv (IntKind.wrap .u64 (IntKind.wrap .i64 (acZ0 + aeZ0))) (2 ^ (min (Int.toNat 1) (IntKind.bits .u64))))) < adZ0))) (fun cZ45 => ?_) (fun cZ45 => ?_)
        · replace h := cond_t cZ45 h
          cases h
          try simp only [VS1, VS2, VS3, VS4, VS5, VS6, VT1, VT2, finM_ret, finM_nrm, decide_true, decide_false, List.nodup_nil, List.nodup_cons, oks_p, oks_m, Nat.reduceSub, Nat.reduceMul, ↓reduceIte, reduceCtorEq, Nat.reduceEqDiff, Nat.reduceAdd, Nat.reduceLeDiff, Int.reduceLE, cZ1, cZ23, cZ45]
          all_goals simp [qL, qJ, qJ0, qS, qX, qR, qM, Shp, sub, tupd, VS1, VS2, VS3, VS4, VS5, VS6, VT1, VT2]
        · replace h := cond_f cZ45 h
          cases h
          try simp only [VS1, VS2, VS3, VS4, VS5, VS6, VT1, VT2, finM_ret, finM_nrm, decide_true, decide_false, List.nodup_nil, List.nodup_cons, oks_p, oks_m, Nat.reduceSub, Nat.reduceMul, ↓reduceIte, reduceCtorEq, Nat.reduceEqDiff, Nat.reduceAdd, Nat.reduceLeDiff, Int.reduceLE, cZ1, cZ23, cZ45]
          all_goals simp [qL, qJ, qJ0, qS, qX, qR, qM, Shp, sub, tupd, VS1, VS2, VS3, VS4, VS5, VS6, VT1, VT2]
      · simp only [A129M1R9]
        obtain ⟨oZ55, hoZ55, h⟩ := bind_s h
        try simp only [VS1, VS2, VS3, VS4, VS5, VS6, VT1, VT2, finM_ret, finM_nrm, decide_true, decide_false, List.nodup_nil, List.nodup_cons, oks_p, oks_m, Nat.reduceSub, Nat.reduceMul, ↓reduceIte, reduceCtorEq, Nat.reduceEqDiff, Nat.reduceAdd, Nat.reduceLeDiff, Int.reduceLE, cZ1, cZ23]
        refine join_rule0 (blk_rule0 (loop_rule (w_slices_symMergeCmpFunc_intM1L5 aaZ0 abZ0 acZ0 adZ0 aeZ0 afZ0 agZ0 rcZ0 ihZ0) hoZ55 ?_)) ?_
        · all_goals simp [qL, qJ, qJ0, qS, qX, qR, qM, Shp, sub, tupd, VS1, VS2, VS3, VS4, VS5, VS6, VT1, VT2, S_slices_symMergeCmpFunc_intM1L5, SX_slices_symMergeCmpFunc_intM1L5]
        · simp only [SX_slices_symMergeCmpFunc_intM1L5, A129M1R11]
          obtain ⟨oZ60, hoZ60, h⟩ := bind_s h
          try simp only [VS1, VS2, VS3, VS4, VS5, VS6, VT1, VT2, finM_ret, finM_nrm, decide_true, decide_false, List.nodup_nil, List.nodup_cons, oks_p, oks_m, Nat.reduceSub, Nat.reduceMul, ↓reduceIte, reduceCtorEq, Nat.reduceEqDiff, Nat.reduceAdd, Nat.reduceLeDiff, Int.reduceLE, cZ1, cZ23]
          refine join_rule0 (sh := (fun v => ⟨[(0, .sl 1000000000 aaZ0 abZ0), (1, .i acZ0), (3, .i aeZ0), (4, .fn 105 [.pt 1000000001 0 0]), (18, .i (IntKind.wrap .i64 (Int.fdiv (IntKind.wrap .u64 (IntKind.wrap .i64 (acZ0 + aeZ0))) (2 ^ (min (Int.toNat 1) (IntKind.bits .u64)))))), (20, .i oZ55), (24, .i (IntKind.wrap .i64 ((IntKind.wrap .i64 ((IntKind.wrap .i64 (Int.fdiv (IntKind.wrap .u64 (IntKind.wrap .i64 (acZ0 + aeZ0))) (2 ^ (min (Int.toNat 1) (IntKind.bits .u64))))) + adZ0)) - oZ55)))], [(1000000000, .arr 1 (v.1.map AV.i)), (1000000001, .var (.lst .o 1 (v.2.map AV.i)))]⟩)) (s := oZ60) ?_ ?_
          · replace h := hoZ60
            obtain ⟨oZ57, hoZ57, h⟩ := bind_s h
            try simp only [VS1, VS2, VS3, VS4, VS5, VS6, VT1, VT2, finM_ret, finM_nrm, decide_true, decide_false, List.nodup_nil, List.nodup_cons, oks_p, oks_m, Nat.reduceSub, Nat.reduceMul, ↓reduceIte, reduceCtorEq, Nat.reduceEqDiff, Nat.reduceAdd, Nat.reduceLeDiff, Int.reduceLE, cZ1, cZ23]
            refine join_rule0 (sh := (fun v => ⟨[(0, .sl 1000000000 aaZ0 abZ0), (1, .i acZ0), (2, .i adZ0), (3, .i aeZ0), (4, .fn 105 [.pt 1000000001 0 0]), (18, .i (IntKind.wrap .i64 (Int.fdiv (IntKind.wrap .u64 (IntKind.wrap .i64 (acZ0 + aeZ0))) (2 ^ (min (Int.toNat 1) (IntKind.bits .u64)))))), (20, .i oZ55), (24, .i (IntKind.wrap .i64 ((IntKind.wrap .i64 ((IntKind.wrap .i64 (Int.fdiv (IntKind.wrap .u64 (IntKind.wrap .i64 (acZ0 + aeZ0))) (2 ^ (min (Int.toNat 1) (IntKind.bits .u64))))) + adZ0)) - oZ55))), (185, .b v)], [(1000000000, .arr 1 (afZ0.map AV.i)), (1000000001, .var (.lst .o 1 (agZ0.map AV.i)))]⟩)) (s := oZ57) ?_ ?_
            · replace h := hoZ57
              refine Or.elim (bt (decide (oZ55 < adZ0))) (fun cZ56 => ?_) (fun cZ56 => ?_)
              · replace h := cond_t cZ56 h
                cases h
                try simp only [VS1, VS2, VS3, VS4, VS5, VS6, VT1, VT2, finM_ret, finM_nrm, decide_true, decide_false, List.nodup_nil, List.nodup_cons, oks_p, oks_m, Nat.reduceSub, Nat.reduceMul, ↓reduceIte, reduceCtorEq, Nat.reduceEqDiff, Nat.reduceAdd, Nat.reduceLeDiff, Int.reduceLE, cZ1, cZ23, cZ56]
                all_goals simp [qL, qJ, qJ0, qS, qX, qR, qM, Shp, sub, tupd, VS1, VS2, VS3, VS4, VS5, VS6, VT1, VT2]
              · replace h := cond_f cZ56 h
                cases h
                try simp only [VS1, VS2, VS3, VS4, VS5, VS6, VT1, VT2, finM_ret, finM_nrm, decide_true, decide_false, List.nodup_nil, List.nodup_cons, oks_p, oks_m, Nat.reduceSub, Nat.reduceMul, ↓reduceIte, reduceCtorEq, Nat.reduceEqDiff, Nat.reduceAdd, Nat.reduceLeDiff, Int.reduceLE, cZ1, cZ23, cZ56]
                all_goals simp [qL, qJ, qJ0, qS, qX, qR, qM, Shp, sub, tupd, VS1, VS2, VS3, VS4, VS5, VS6, VT1, VT2]
            · simp only [A129M1R12]
              refine Or.elim (bt (oZ57)) (fun cZ58 => ?_) (fun cZ58 => ?_)
              · replace h := cond_t cZ58 h
                obtain ⟨rZ59, hrZ59, h⟩ := bind_s h
                simp only [VS1, VS2, VS3, VS4, VS5, VS6, VT1, VT2, finM_ret, finM_nrm, decide_true, decide_false, List.nodup_nil, List.nodup_cons, oks_p, oks_m, Nat.reduceSub, Nat.reduceMul, ↓reduceIte, reduceCtorEq, Nat.reduceEqDiff, Nat.reduceAdd, Nat.reduceLeDiff, Int.reduceLE, cZ1, cZ23, cZ58]
                refine call_m (by simp only [VS1, VS2, VS3, VS4, VS5, VS6, VT1, VT2, finM_ret, finM_nrm, decide_true, decide_false, List.nodup_nil, List.nodup_cons, oks_p, oks_m, Nat.reduceSub, Nat.reduceMul, ↓reduceIte, reduceCtorEq, Nat.reduceEqDiff, Nat.reduceAdd, Nat.reduceLeDiff, Int.reduceLE, cZ1, cZ23, cZ58]; exact w_slices_rotateCmpFunc_intM1 _ _ _ _ _ _ _ hrZ59) (by simp [VS1, VS2, VS3, VS4, VS5, VS6, VT1, VT2]) (by first | exact nm_ok [1000000000, 1000000001] rfl (by decide +kernel) | simp [VS1, VS2, VS3, VS4, VS5, VS6, VT1, VT2]) ?_
                simp only [VA, VF1, ↓reduceIte, Nat.reduceEqDiff, Nat.reduceAdd, Nat.reduceMul, Nat.reduceSub, Nat.reduceLeDiff]
                cases h
                try simp only [VS1, VS2, VS3, VS4, VS5, VS6, VT1, VT2, finM_ret, finM_nrm, decide_true, decide_false, List.nodup_nil, List.nodup_cons, oks_p, oks_m, Nat.reduceSub, Nat.reduceMul, ↓reduceIte, reduceCtorEq, Nat.reduceEqDiff, Nat.reduceAdd, Nat.reduceLeDiff, Int.reduceLE, cZ1, cZ23, cZ58]
                all_goals simp [qL, qJ, qJ0, qS, qX, qR, qM, Shp, sub, tupd, VS1, VS2, VS3, VS4, VS5, VS6, VT1, VT2]
              · replace h := cond_f cZ58 h
                cases h
                try simp only [VS1, VS2, VS3, VS4, VS5, VS6, VT1, VT2, finM_ret, finM_nrm, decide_true, decide_false, List.nodup_nil, List.nodup_cons, oks_p, oks_m, Nat.reduceSub, Nat.reduceMul, ↓reduceIte, reduceCtorEq, Nat.reduceEqDiff, Nat.reduceAdd, Nat.reduceLeDiff, Int.reduceLE, cZ1, cZ23, cZ58]
                all_goals simp [qL, qJ, qJ0, qS, qX, qR, qM, Shp, sub, tupd, VS1, VS2, VS3, VS4, VS5, VS6, VT1, VT2]
          · simp only [A129M1R13]
            obtain ⟨oZ65, hoZ65, h⟩ := bind_s h
            try simp only [VS1, VS2, VS3, VS4, VS5, VS6, VT1, VT2, finM_ret, finM_nrm, decide_true, decide_false, List.nodup_nil, List.nodup_cons, oks_p, oks_m, Nat.reduceSub, Nat.reduceMul, ↓reduceIte, reduceCtorEq, Nat.reduceEqDiff, Nat.reduceAdd, Nat.reduceLeDiff, Int.reduceLE, cZ1, cZ23]
            refine join_rule0 (sh := (fun v => ⟨[(0, .sl 1000000000 aaZ0 abZ0), (3, .i aeZ0), (4, .fn 105 [.pt 1000000001 0 0]), (18, .i (IntKind.wrap .i64 (Int.fdiv (IntKind.wrap .u64 (IntKind.wrap .i64 (acZ0 + aeZ0))) (2 ^ (min (Int.toNat 1) (IntKind.bits .u64)))))), (24, .i (IntKind.wrap .i64 ((IntKind.wrap .i64 ((IntKind.wrap .i64 (Int.fdiv (IntKind.wrap .u64 (IntKind.wrap .i64 (acZ0 + aeZ0))) (2 ^ (min (Int.toNat 1) (IntKind.bits .u64))))) + adZ0)) - oZ55)))], [(1000000000, .arr 1 (v.1.map AV.i)), (1000000001, .var (.lst .o 1 (v.2.map AV.i)))]⟩)) (s := oZ65) ?_ ?_
            · replace h := hoZ65
              obtain ⟨oZ62, hoZ62, h⟩ := bind_s h
              try simp only [VS1, VS2, VS3, VS4, VS5, VS6, VT1, VT2, finM_ret, finM_nrm, decide_true, decide_false, List.nodup_nil, List.nodup_cons, oks_p, oks_m, Nat.reduceSub, Nat.reduceMul, ↓reduceIte, reduceCtorEq, Nat.reduceEqDiff, Nat.reduceAdd, Nat.reduceLeDiff, Int.reduceLE, cZ1, cZ23]
              refine join_rule0 (sh := (fun v => ⟨[(0, .sl 1000000000 aaZ0 abZ0), (1, .i acZ0), (3, .i aeZ0), (4, .fn 105 [.pt 1000000001 0 0]), (18, .i (IntKind.wrap .i64 (Int.fdiv (IntKind.wrap .u64 (IntKind.wrap .i64 (acZ0 + aeZ0))) (2 ^ (min (Int.toNat 1) (IntKind.bits .u64)))))), (20, .i oZ55), (24, .i (IntKind.wrap .i64 ((IntKind.wrap .i64 ((IntKind.wrap .i64 (Int.fdiv (IntKind.wrap .u64 (IntKind.wrap .i64 (acZ0 + aeZ0))) (2 ^ (min (Int.toNat 1) (IntKind.bits .u64))))) + adZ0)) - oZ55))), (199, .b v)], [(1000000000, .arr 1 (oZ60.1.map AV.i)), (1000000001, .var (.lst .o 1 (oZ60.2.map AV.i)))]⟩)) (s := oZ62) ?_ ?_
              · replace h := hoZ62
                refine Or.elim (bt (decide (acZ0 < oZ55))) (fun cZ61 => ?_) (fun cZ61 => ?_)
                · replace h := cond_t cZ61 h
                  cases h
                  try simp only [VS1, VS2, VS3, VS4, VS5, VS6, VT1, VT2, finM_ret, finM_nrm, decide_true, decide_false, List.nodup_nil, List.nodup_cons, oks_p, oks_m, Nat.reduceSub, Nat.reduceMul, ↓reduceIte, reduceCtorEq, Nat.reduceEqDiff, Nat.reduceAdd, Nat.reduceLeDiff, Int.reduceLE, cZ1, cZ23, cZ61]
                  all_goals simp [qL, qJ, qJ0, qS, qX, qR, qM, Shp, sub, tupd, VS1, VS2, VS3, VS4, VS5, VS6, VT1, VT2]
                · replace h := cond_f cZ61 h
                  cases h
                  try simp only [VS1, VS2, VS3, VS4, VS5, VS6, VT1, VT2, finM_ret, finM_nrm, decide_true, decide_false, List.nodup_nil, List.nodup_cons, oks_p, oks_m, Nat.reduceSub, Nat.reduceMul, ↓reduceIte, reduceCtorEq, Nat.reduceEqDiff, Nat.reduceAdd, Nat.reduceLeDiff, Int.reduceLE, cZ1, cZ23, cZ61]
                  all_goals simp [qL, qJ, qJ0, qS, qX, qR, qM, Shp, sub, tupd, VS1, VS2, VS3, VS4, VS5, VS6, VT1, VT2]
              · simp only [A129M1R14]
                refine Or.elim (bt (oZ62)) (fun cZ63 => ?_) (fun cZ63 => ?_)
                · replace h := cond_t cZ63 h
                  obtain ⟨rZ64, hrZ64, h⟩ := bind_s h
                  simp only [VS1, VS2, VS3, VS4, VS5, VS6, VT1, VT2, finM_ret, finM_nrm, decide_true, decide_false, List.nodup_nil, List.nodup_cons, oks_p, oks_m, Nat.reduceSub, Nat.reduceMul, ↓reduceIte, reduceCtorEq, Nat.reduceEqDiff, Nat.reduceAdd, Nat.reduceLeDiff, Int.reduceLE, cZ1, cZ23, cZ63]
                  refine call_m (by simp only [VS1, VS2, VS3, VS4, VS5, VS6, VT1, VT2, finM_ret, finM_nrm, decide_true, decide_false, List.nodup_nil, List.nodup_cons, oks_p, oks_m, Nat.reduceSub, Nat.reduceMul, ↓reduceIte, reduceCtorEq, Nat.reduceEqDiff, Nat.reduceAdd, Nat.reduceLeDiff, Int.reduceLE, cZ1, cZ23, cZ63]; exact ihZ0 _ _ _ _ _ _ _ hrZ64) (by simp [VS1, VS2, VS3, VS4, VS5, VS6, VT1, VT2]) (by first | exact nm_ok [1000000000, 1000000001] rfl (by decide +kernel) | simp [VS1, VS2, VS3, VS4, VS5, VS6, VT1, VT2]) ?_
                  simp only [VA, VF1, ↓reduceIte, Nat.reduceEqDiff, Nat.reduceAdd, Nat.reduceMul, Nat.reduceSub, Nat.reduceLeDiff]
                  cases h
                  try simp only [VS1, VS2, VS3, VS4, VS5, VS6, VT1, VT2, finM_ret, finM_nrm, decide_true, decide_false, List.nodup_nil, List.nodup_cons, oks_p, oks_m, Nat.reduceSub, Nat.reduceMul, ↓reduceIte, reduceCtorEq, Nat.reduceEqDiff, Nat.reduceAdd, Nat.reduceLeDiff, Int.reduceLE, cZ1, cZ23, cZ63]
                  all_goals simp [qL, qJ, qJ0, qS, qX, qR, qM, Shp, sub, tupd, VS1, VS2, VS3, VS4, VS5, VS6, VT1, VT2]
                · replace h := cond_f cZ63 h
                  cases h
                  try simp only [VS1, VS2, VS3, VS4, VS5, VS6, VT1, VT2, finM_ret, finM_nrm, decide_true, decide_false, List.nodup_nil, List.nodup_cons, oks_p, oks_m, Nat.reduceSub, Nat.reduceMul, ↓reduceIte, reduceCtorEq, Nat.reduceEqDiff, Nat.reduceAdd, Nat.reduceLeDiff, Int.reduceLE, cZ1, cZ23, cZ63]
                  all_goals simp [qL, qJ, qJ0, qS, qX, qR, qM, Shp, sub, tupd, VS1, VS2, VS3, VS4, VS5, VS6, VT1, VT2]
            · simp only [A129M1R15]
              obtain ⟨oZ67, hoZ67, h⟩ := bind_s h
              try simp only [VS1, VS2, VS3, VS4, VS5, VS6, VT1, VT2, finM_ret, finM_nrm, decide_true, decide_false, List.nodup_nil, List.nodup_cons, oks_p, oks_m, Nat.reduceSub, Nat.reduceMul, ↓reduceIte, reduceCtorEq, Nat.reduceEqDiff, Nat.reduceAdd, Nat.reduceLeDiff, Int.reduceLE, cZ1, cZ23]
              refine join_rule0 (sh := (fun v => ⟨[(0, .sl 1000000000 aaZ0 abZ0), (3, .i aeZ0), (4, .fn 105 [.pt 1000000001 0 0]), (18, .i (IntKind.wrap .i64 (Int.fdiv (IntKind.wrap .u64 (IntKind.wrap .i64 (acZ0 + aeZ0))) (2 ^ (min (Int.toNat 1) (IntKind.bits .u64)))))), (24, .i (IntKind.wrap .i64 ((IntKind.wrap .i64 ((IntKind.wrap .i64 (Int.fdiv (IntKind.wrap .u64 (IntKind.wrap .i64 (acZ0 + aeZ0))) (2 ^ (min (Int.toNat 1) (IntKind.bits .u64))))) + adZ0)) - oZ55))), (213, .b v)], [(1000000000, .arr 1 (oZ65.1.map AV.i)), (1000000001, .var (.lst .o 1 (oZ65.2.map AV.i)))]⟩)) (s := oZ67) ?_ ?_
              · replace h := hoZ67
                refine Or.elim (bt (decide ((IntKind.wrap .i64 (Int.fdiv (IntKind.wrap .u64 (IntKind.wrap .i64 (acZ0 + aeZ0))) (2 ^ (min (Int.toNat 1) (IntKind.bits .u64))))) < (IntKind.wrap .i64 ((IntKind.wrap .i64 ((IntKind.wrap .i64 (Int.fdiv (IntKind.wrap .u64 (IntKind.wrap .i64 (acZ0 + aeZ0))) (2 ^ (min (Int.toNat 1) (IntKind.bits .u64))))) + adZ0)) - oZ55))))) (fun cZ66 => ?_) (fun cZ66 => ?_)
                · replace h := cond_t cZ66 h
                  cases h
                  try simp only [VS1, VS2, VS3, VS4, VS5, VS6, VT1, VT2, finM_ret, finM_nrm, decide_true, decide_false, List.nodup_nil, List.nodup_cons, oks_p, oks_m, Nat.reduceSub, Nat.reduceMul, ↓reduceIte, reduceCtorEq, Nat.reduceEqDiff, Nat.reduceAdd, Nat.reduceLeDiff, Int.reduceLE, cZ1, cZ23, cZ66]
                  all_goals simp [qL, qJ, qJ0, qS, qX, qR, qM, Shp, sub, tupd, VS1, VS2, VS3, VS4, VS5, VS6, VT1, VT2]
                · replace h := cond_f cZ66 h
                  cases h
                  try simp only [VS1, VS2, VS3, VS4, VS5, VS6, VT1, VT2, finM_ret, finM_nrm, decide_true, decide_false, List.nodup_nil, List.nodup_cons, oks_p, oks_m, Nat.reduceSub, Nat.reduceMul, ↓reduceIte, reduceCtorEq, Nat.reduceEqDiff, Nat.reduceAdd, Nat.reduceLeDiff, Int.reduceLE, cZ1, cZ23, cZ66]
                  all_goals simp [qL, qJ, qJ0, qS, qX, qR, qM, Shp, sub, tupd, VS1, VS2, VS3, VS4, VS5, VS6, VT1, VT2]
              · simp only [A129M1R16]
                refine Or.elim (bt (oZ67)) (fun cZ68 => ?_) (fun cZ68 => ?_)
                · replace h := cond_t cZ68 h
                  obtain ⟨rZ69, hrZ69, h⟩ := bind_s h
                  simp only [VS1, VS2, VS3, VS4, VS5, VS6, VT1, VT2, finM_ret, finM_nrm, decide_true, decide_false, List.nodup_nil, List.nodup_cons, oks_p, oks_m, Nat.reduceSub, Nat.reduceMul, ↓reduceIte, reduceCtorEq, Nat.reduceEqDiff, Nat.reduceAdd, Nat.reduceLeDiff, Int.reduceLE, cZ1, cZ23, cZ68]
                  refine call_m (by simp only [VS1, VS2, VS3, VS4, VS5, VS6, VT1, VT2, finM_ret, finM_nrm, decide_true, decide_false, List.nodup_nil, List.nodup_cons, oks_p, oks_m, Nat.reduceSub, Nat.reduceMul, ↓reduceIte, reduceCtorEq, Nat.reduceEqDiff, Nat.reduceAdd, Nat.reduceLeDiff, Int.reduceLE, cZ1, cZ23, cZ68]; exact ihZ0 _ _ _ _ _ _ _ hrZ69) (by simp [VS1, VS2, VS3, VS4, VS5, VS6, VT1, VT2]) (by first | exact nm_ok [1000000000, 1000000001] rfl (by decide +kernel) | simp [VS1, VS2, VS3, VS4, VS5, VS6, VT1, VT2]) ?_
                  simp only [VA, VF1, ↓reduceIte, Nat.reduceEqDiff, Nat.reduceAdd, Nat.reduceMul, Nat.reduceSub, Nat.reduceLeDiff]
                  cases h
                  try simp only [VS1, VS2, VS3, VS4, VS5, VS6, VT1, VT2, finM_ret, finM_nrm, decide_true, decide_false, List.nodup_nil, List.nodup_cons, oks_p, oks_m, Nat.reduceSub, Nat.reduceMul, ↓reduceIte, reduceCtorEq, Nat.reduceEqDiff, Nat.reduceAdd, Nat.reduceLeDiff, Int.reduceLE, cZ1, cZ23, cZ68]
                  all_goals simp [qL, qJ, qJ0, qS, qX, qR, qM, Shp, sub, tupd, VS1, VS2, VS3, VS4, VS5, VS6, VT1, VT2, V129M1]
                · replace h := cond_f cZ68 h
                  cases h
                  try simp only [VS1, VS2, VS3, VS4, VS5, VS6, VT1, VT2, finM_ret, finM_nrm, decide_true, decide_false, List.nodup_nil, List.nodup_cons, oks_p, oks_m, Nat.reduceSub, Nat.reduceMul, ↓reduceIte, reduceCtorEq, Nat.reduceEqDiff, Nat.reduceAdd, Nat.reduceLeDiff, Int.reduceLE, cZ1, cZ23, cZ68]
                  all_goals simp [qL, qJ, qJ0, qS, qX, qR, qM, Shp, sub, tupd, VS1, VS2, VS3, VS4, VS5, VS6, VT1, VT2, V129M1]
theorem w_slices_symMergeCmpFunc_intM1 : ∀ (n : Nat) (aaZ0 : Nat) (abZ0 : Nat) (acZ0 : Int) (adZ0 : Int) (aeZ0 : Int) (afZ0 : List Int) (agZ0 : List Int) {r : List Int × List Int} (_ : M_slices_symMergeCmpFunc_intM1 n aaZ0 abZ0 acZ0 adZ0 aeZ0 afZ0 agZ0 = some r), OkM Try.prog 129 [.sl 1000000000 aaZ0 abZ0, .i acZ0, .i adZ0, .i aeZ0, .fn 105 [.pt 1000000001 0 0]] [(1000000000, .arr 1 (afZ0.map AV.i)), (1000000001, .var (.lst .o 1 (agZ0.map AV.i)))] ((fun (r : List Int × List Int) => .tup []) r) ((fun (r : List Int × List Int) => [(1000000000, .arr 1 (r.1.map AV.i)), (1000000001, .var (.lst .o 1 (r.2.map AV.i)))]) r)
  | 0, aaZ0, abZ0, acZ0, adZ0, aeZ0, afZ0, agZ0, _, h => by cases h
  | n + 1, aaZ0, abZ0, acZ0, adZ0, aeZ0, afZ0, agZ0, _, h => wB_slices_symMergeCmpFunc_intM1 (M_slices_symMergeCmpFunc_intM1 n) (w_slices_symMergeCmpFunc_intM1 n) aaZ0 abZ0 acZ0 adZ0 aeZ0 afZ0 agZ0 h
def S_slices_stableCmpFunc_intM1L1 (aaZ0 : Int) (v : Nat × Int × Int × List Int × List Int) : St := ⟨[(0, .sl 1000000000 0 v.1), (1, .i aaZ0), (2, .fn 105 [.pt 1000000001 0 0]), (6, .i 20), (7, .i v.2.1), (8, .i v.2.2.1)], [(1000000000, .arr 1 (v.2.2.2.1.map AV.i)), (1000000001, .var (.lst .o 1 (v.2.2.2.2.map AV.i)))]⟩
def SX_slices_stableCmpFunc_intM1L1 (aaZ0 : Int) (v : Nat × Int × List Int × List Int) : St := ⟨[(0, .sl 1000000000 0 v.1), (1, .i aaZ0), (2, .fn 105 [.pt 1000000001 0 0]), (6, .i 20), (7, .i v.2.1)], [(1000000000, .arr 1 (v.2.2.1.map AV.i)), (1000000001, .var (.lst .o 1 (v.2.2.2.map AV.i)))]⟩
theorem w_slices_stableCmpFunc_intM1L1 (aaZ0 : Int) (sZ1 : Nat × Int × Int × List Int × List Int) (o : (Nat × Int × Int × List Int × List Int) ⊕ (Nat × Int × List Int × List Int)) (h : M_slices_stableCmpFunc_intM1L1 aaZ0 sZ1 = some o) : AWP (OkS Try.prog) A115M1L1 (qL [0, 1, 2, 6, 7, 8] [1000000000, 1000000001] (S_slices_stableCmpFunc_intM1L1 aaZ0) (qX 0 [0, 1, 2, 6, 7] [1000000000, 1000000001] (SX_slices_stableCmpFunc_intM1L1 aaZ0)) o) (S_slices_stableCmpFunc_intM1L1 aaZ0 sZ1) := by
  unfold M_slices_stableCmpFunc_intM1L1 at h
  simp only [S_slices_stableCmpFunc_intM1L1, A115M1L1]
  refine Or.elim (bt (decide (sZ1.2.2.1 ≤ aaZ0))) (fun cZ2 => ?_) (fun cZ2 => ?_)
  · replace h := cond_t cZ2 h
    obtain ⟨rZ3, hrZ3, h⟩ := bind_s h
    simp only [VS1, VS2, VS3, VS4, VS5, VS6, VT1, VT2, finM_ret, finM_nrm, decide_true, decide_false, List.nodup_nil, List.nodup_cons, oks_p, oks_m, Nat.reduceSub, Nat.reduceMul, ↓reduceIte, reduceCtorEq, Nat.reduceEqDiff, Nat.reduceAdd, Nat.reduceLeDiff, Int.reduceLE, cZ2]
    refine call_m (by simp only [VS1, VS2, VS3, VS4, VS5, VS6, VT1, VT2, finM_ret, finM_nrm, decide_true, decide_false, List.nodup_nil, List.nodup_cons, oks_p, oks_m, Nat.reduceSub, Nat.reduceMul, ↓reduceIte, reduceCtorEq, Nat.reduceEqDiff, Nat.reduceAdd, Nat.reduceLeDiff, Int.reduceLE, cZ2]; exact w_slices_insertionSortCmpFunc_intM2 _ _ _ _ _ _ hrZ3) (by simp [VS1, VS2, VS3, VS4, VS5, VS6, VT1, VT2]) (by first | exact nm_ok [1000000000, 1000000001] rfl (by decide +kernel) | simp [VS1, VS2, VS3, VS4, VS5, VS6, VT1, VT2]) ?_
    simp only [VA, VF1, ↓reduceIte, Nat.reduceEqDiff, Nat.reduceAdd, Nat.reduceMul, Nat.reduceSub, Nat.reduceLeDiff]
    cases h
    try simp only [VS1, VS2, VS3, VS4, VS5, VS6, VT1, VT2, finM_ret, finM_nrm, decide_true, decide_false, List.nodup_nil, List.nodup_cons, oks_p, oks_m, Nat.reduceSub, Nat.reduceMul, ↓reduceIte, reduceCtorEq, Nat.reduceEqDiff, Nat.reduceAdd, Nat.reduceLeDiff, Int.reduceLE, cZ2]
    all_goals simp [qL, qJ, qJ0, qS, qX, qR, qM, Shp, sub, tupd, VS1, VS2, VS3, VS4, VS5, VS6, VT1, VT2, S_slices_stableCmpFunc_intM1L1, SX_slices_stableCmpFunc_intM1L1]
  · replace h := cond_f cZ2 h
    cases h
    try simp only [VS1, VS2, VS3, VS4, VS5, VS6, VT1, VT2, finM_ret, finM_nrm, decide_true, decide_false, List.nodup_nil, List.nodup_cons, oks_p, oks_m, Nat.reduceSub, Nat.reduceMul, ↓reduceIte, reduceCtorEq, Nat.reduceEqDiff, Nat.reduceAdd, Nat.reduceLeDiff, Int.reduceLE, cZ2]
    all_goals simp [qL, qJ, qJ0, qS, qX, qR, qM, Shp, sub, tupd, VS1, VS2, VS3, VS4, VS5, VS6, VT1, VT2, S_slices_stableCmpFunc_intM1L1, SX_slices_stableCmpFunc_intM1L1]
def S_slices_stableCmpFunc_intM1L3 (aaZ0 : Int) (oZ4 : Nat × Int × List Int × List Int) (sZ6 : Int × List Int × List Int) (v : Int × Int × List Int × List Int) : St := ⟨[(0, .sl 1000000000 0 oZ4.1), (1, .i aaZ0), (2, .fn 105 [.pt 1000000001 0 0]), (6, .i sZ6.1), (7, .i v.1), (8, .i v.2.1)], [(1000000000, .arr 1 (v.2.2.1.map AV.i)), (1000000001, .var (.lst .o 1 (v.2.2.2.map AV.i)))]⟩
def SX_slices_stableCmpFunc_intM1L3 (aaZ0 : Int) (oZ4 : Nat × Int × List Int × List Int) (sZ6 : Int × List Int × List Int) (v : Int × List Int × List Int) : St := ⟨[(0, .sl 1000000000 0 oZ4.1), (1, .i aaZ0), (2, .fn 105 [.pt 1000000001 0 0]), (6, .i sZ6.1), (7, .i v.1)], [(1000000000, .arr 1 (v.2.1.map AV.i)), (1000000001, .var (.lst .o 1 (v.2.2.map AV.i)))]⟩
theorem w_slices_stableCmpFunc_intM1L3 (aaZ0 : Int) (oZ4 : Nat × Int × List Int × List Int) (sZ6 : Int × List Int × List Int) (sZ8 : Int × Int × List Int × List Int) (o : (Int × Int × List Int × List Int) ⊕ (Int × List Int × List Int)) (h : M_slices_stableCmpFunc_intM1L3 aaZ0 oZ4 sZ6 sZ8 = some o) : AWP (OkS Try.prog) A115M1L3 (qL [0, 1, 2, 6, 7, 8] [1000000000, 1000000001] (S_slices_stableCmpFunc_intM1L3 aaZ0 oZ4 sZ6) (qX 4 [0, 1, 2, 6, 7] [1000000000, 1000000001] (SX_slices_stableCmpFunc_intM1L3 aaZ0 oZ4 sZ6)) o) (S_slices_stableCmpFunc_intM1L3 aaZ0 oZ4 sZ6 sZ8) := by
  unfold M_slices_stableCmpFunc_intM1L3 at h
  simp only [S_slices_stableCmpFunc_intM1L3, A115M1L3]
  refine Or.elim (bt (decide (sZ8.2.1 ≤ aaZ0))) (fun cZ9 => ?_) (fun cZ9 => ?_)
  · replace h := cond_t cZ9 h
    obtain ⟨rZ10, hrZ10, h⟩ := bind_s h
    simp only [VS1, VS2, VS3, VS4, VS5, VS6, VT1, VT2, finM_ret, finM_nrm, decide_true, decide_false, List.nodup_nil, List.nodup_cons, oks_p, oks_m, Nat.reduceSub, Nat.reduceMul, ↓reduceIte, reduceCtorEq, Nat.reduceEqDiff, Nat.reduceAdd, Nat.reduceLeDiff, Int.reduceLE, cZ9]
    refine call_m (by simp only [VS1, VS2, VS3, VS4, VS5, VS6, VT1, VT2, finM_ret, finM_nrm, decide_true, decide_false, List.nodup_nil, List.nodup_cons, oks_p, oks_m, Nat.reduceSub, Nat.reduceMul, ↓reduceIte, reduceCtorEq, Nat.reduceEqDiff, Nat.reduceAdd, Nat.reduceLeDiff, Int.reduceLE, cZ9]; exact w_slices_symMergeCmpFunc_intM1 N0 _ _ _ _ _ _ _ hrZ10) (by simp [VS1, VS2, VS3, VS4, VS5, VS6, VT1, VT2]) (by first | exact nm_ok [1000000000, 1000000001] rfl (by decide +kernel) | simp [VS1, VS2, VS3, VS4, VS5, VS6, VT1, VT2]) ?_
    simp only [VA, VF1, ↓reduceIte, Nat.reduceEqDiff, Nat.reduceAdd, Nat.reduceMul, Nat.reduceSub, Nat.reduceLeDiff]
    cases h
    try simp only [VS1, VS2, VS3, VS4, VS5, VS6, VT1, VT2, finM_ret, finM_nrm, decide_true, decide_false, List.nodup_nil, List.nodup_cons, oks_p, oks_m, Nat.reduceSub, Nat.reduceMul, ↓reduceIte, reduceCtorEq, Nat.reduceEqDiff, Nat.reduceAdd, Nat.reduceLeDiff, Int.reduceLE, cZ9]
    all_goals simp [qL, qJ, qJ0, qS, qX, qR, qM, Shp, sub, tupd, VS1, VS2, VS3, VS4, VS5, VS6, VT1, VT2, S_slices_stableCmpFunc_intM1L3, SX_slices_stableCmpFunc_intM1L3]
  · replace h := cond_f cZ9 h
    cases h
    try simp only [VS1, VS2, VS3, VS4, VS5, VS6, VT1, VT2, finM_ret, finM_nrm, decide_true, decide_false, List.nodup_nil, List.nodup_cons, oks_p, oks_m, Nat.reduceSub, Nat.reduceMul, ↓reduceIte, reduceCtorEq, Nat.reduceEqDiff, Nat.reduceAdd, Nat.reduceLeDiff, Int.reduceLE, cZ9]
    all_goals simp [qL, qJ, qJ0, qS, qX, qR, qM, Shp, sub, tupd, VS1, VS2, VS3, VS4, VS5, VS6, VT1, VT2, S_slices_stableCmpFunc_intM1L3, SX_slices_stableCmpFunc_intM1L3]
def S_slices_stableCmpFunc_intM1L2 (aaZ0 : Int) (oZ4 : Nat × Int × List Int × List Int) (v : Int × List Int × List Int) : St := ⟨[(0, .sl 1000000000 0 oZ4.1), (1, .i aaZ0), (2, .fn 105 [.pt 1000000001 0 0]), (6, .i v.1)], [(1000000000, .arr 1 (v.2.1.map AV.i)), (1000000001, .var (.lst .o 1 (v.2.2.map AV.i)))]⟩
def SX_slices_stableCmpFunc_intM1L2 (v : List Int × List Int) : St := ⟨[], [(1000000000, .arr 1 (v.1.map AV.i)), (1000000001, .var (.lst .o 1 (v.2.map AV.i)))]⟩
theorem w_slices_stableCmpFunc_intM1L2 (aaZ0 : Int) (oZ4 : Nat × Int × List Int × List Int) (sZ6 : Int × List Int × List Int) (o : (Int × List Int × List Int) ⊕ (List Int × List Int)) (h : M_slices_stableCmpFunc_intM1L2 aaZ0 oZ4 sZ6 = some o) : AWP (OkS Try.prog) A115M1L5 (qL [0, 1, 2, 6] [1000000000, 1000000001] (S_slices_stableCmpFunc_intM1L2 aaZ0 oZ4) (qX 2 [] [1000000000, 1000000001] (SX_slices_stableCmpFunc_intM1L2)) o) (S_slices_stableCmpFunc_intM1L2 aaZ0 oZ4 sZ6) := by
  unfold M_slices_stableCmpFunc_intM1L2 at h
  simp only [S_slices_stableCmpFunc_intM1L2, A115M1L5]
  refine Or.elim (bt (decide (sZ6.1 < aaZ0))) (fun cZ7 => ?_) (fun cZ7 => ?_)
  · replace h := cond_t cZ7 h
    obtain ⟨oZ11, hoZ11, h⟩ := bind_s h
    try simp only [VS1, VS2, VS3, VS4, VS5, VS6, VT1, VT2, finM_ret, finM_nrm, decide_true, decide_false, List.nodup_nil, List.nodup_cons, oks_p, oks_m, Nat.reduceSub, Nat.reduceMul, ↓reduceIte, reduceCtorEq, Nat.reduceEqDiff, Nat.reduceAdd, Nat.reduceLeDiff, Int.reduceLE, cZ7]
    refine join_rule0 (blk_rule0 (loop_rule (w_slices_stableCmpFunc_intM1L3 aaZ0 oZ4 sZ6) hoZ11 ?_)) ?_
    · all_goals simp [qL, qJ, qJ0, qS, qX, qR, qM, Shp, sub, tupd, VS1, VS2, VS3, VS4, VS5, VS6, VT1, VT2, S_slices_stableCmpFunc_intM1L3, SX_slices_stableCmpFunc_intM1L3]
    · simp only [SX_slices_stableCmpFunc_intM1L3, A115M1R4]
      refine Or.elim (bt (decide ((IntKind.wrap .i64 (oZ11.1 + sZ6.1)) < aaZ0))) (fun cZ12 => ?_) (fun cZ12 => ?_)
      · replace h := cond_t cZ12 h
        obtain ⟨rZ13, hrZ13, h⟩ := bind_s h
        simp only [VS1, VS2, VS3, VS4, VS5, VS6, VT1, VT2, finM_ret, finM_nrm, decide_true, decide_false, List.nodup_nil, List.nodup_cons, oks_p, oks_m, Nat.reduceSub, Nat.reduceMul, ↓reduceIte, reduceCtorEq, Nat.reduceEqDiff, Nat.reduceAdd, Nat.reduceLeDiff, Int.reduceLE, cZ7, cZ12]
        refine call_m (by simp only [VS1, VS2, VS3, VS4, VS5, VS6, VT1, VT2, finM_ret, finM_nrm, decide_true, decide_false, List.nodup_nil, List.nodup_cons, oks_p, oks_m, Nat.reduceSub, Nat.reduceMul, ↓reduceIte, reduceCtorEq, Nat.reduceEqDiff, Nat.reduceAdd, Nat.reduceLeDiff, Int.reduceLE, cZ7, cZ12]; exact w_slices_symMergeCmpFunc_intM1 N0 _ _ _ _ _ _ _ hrZ13) (by simp [VS1, VS2, VS3, VS4, VS5, VS6, VT1, VT2]) (by first | exact nm_ok [1000000000, 1000000001] rfl (by decide +kernel) | simp [VS1, VS2, VS3, VS4, VS5, VS6, VT1, VT2]) ?_
        simp only [VA, VF1, ↓reduceIte, Nat.reduceEqDiff, Nat.reduceAdd, Nat.reduceMul, Nat.reduceSub, Nat.reduceLeDiff]
        cases h
        try simp only [VS1, VS2, VS3, VS4, VS5, VS6, VT1, VT2, finM_ret, finM_nrm, decide_true, decide_false, List.nodup_nil, List.nodup_cons, oks_p, oks_m, Nat.reduceSub, Nat.reduceMul, ↓reduceIte, reduceCtorEq, Nat.reduceEqDiff, Nat.reduceAdd, Nat.reduceLeDiff, Int.reduceLE, cZ7, cZ12]
        all_goals simp [qL, qJ, qJ0, qS, qX, qR, qM, Shp, sub, tupd, VS1, VS2, VS3, VS4, VS5, VS6, VT1, VT2, S_slices_stableCmpFunc_intM1L2, SX_slices_stableCmpFunc_intM1L2]
      · replace h := cond_f cZ12 h
        cases h
        try simp only [VS1, VS2, VS3, VS4, VS5, VS6, VT1, VT2, finM_ret, finM_nrm, decide_true, decide_false, List.nodup_nil, List.nodup_cons, oks_p, oks_m, Nat.reduceSub, Nat.reduceMul, ↓reduceIte, reduceCtorEq, Nat.reduceEqDiff, Nat.reduceAdd, Nat.reduceLeDiff, Int.reduceLE, cZ7, cZ12]
        all_goals simp [qL, qJ, qJ0, qS, qX, qR, qM, Shp, sub, tupd, VS1, VS2, VS3, VS4, VS5, VS6, VT1, VT2, S_slices_stableCmpFunc_intM1L2, SX_slices_stableCmpFunc_intM1L2]
  · replace h := cond_f cZ7 h
    cases h
    try simp only [VS1, VS2, VS3, VS4, VS5, VS6, VT1, VT2, finM_ret, finM_nrm, decide_true, decide_false, List.nodup_nil, List.nodup_cons, oks_p, oks_m, Nat.reduceSub, Nat.reduceMul, ↓reduceIte, reduceCtorEq, Nat.reduceEqDiff, Nat.reduceAdd, Nat.reduceLeDiff, Int.reduceLE, cZ7]
    all_goals simp [qL, qJ, qJ0, qS, qX, qR, qM, Shp, sub, tupd, VS1, VS2, VS3, VS4, VS5, VS6, VT1, VT2, S_slices_stableCmpFunc_intM1L2, SX_slices_stableCmpFunc_intM1L2]
theorem w_slices_stableCmpFunc_intM1 (aaZ0 : Int) (abZ0 : List Int) (acZ0 : List Int) {r : List Int × List Int} (h : M_slices_stableCmpFunc_intM1 aaZ0 abZ0 acZ0 = some r) : OkM Try.prog 115 [.sl 1000000000 0 abZ0.length, .i aaZ0, .fn 105 [.pt 1000000001 0 0]] [(1000000000, .arr 1 (abZ0.map AV.i)), (1000000001, .var (.lst .o 1 (acZ0.map AV.i)))] ((fun (r : List Int × List Int) => .tup []) r) ((fun (r : List Int × List Int) => [(1000000000, .arr 1 (r.1.map AV.i)), (1000000001, .var (.lst .o 1 (r.2.map AV.i)))]) r) := by
  refine okM_of_body (lr := [1000000000, 1000000001]) hmix m115M1 rfl ?_
  unfold M_slices_stableCmpFunc_intM1 at h
  simp only [A115M1, V115M1]
  obtain ⟨oZ4, hoZ4, h⟩ := bind_s h
  try simp only [VS1, VS2, VS3, VS4, VS5, VS6, VT1, VT2, finM_ret, finM_nrm, decide_true, decide_false, List.nodup_nil, List.nodup_cons, oks_p, oks_m, Nat.reduceSub, Nat.reduceMul, ↓reduceIte, reduceCtorEq, Nat.reduceEqDiff, Nat.reduceAdd, Nat.reduceLeDiff, Int.reduceLE]
  refine join_rule0 (blk_rule0 (loop_rule (w_slices_stableCmpFunc_intM1L1 aaZ0) hoZ4 ?_)) ?_
  · all_goals simp [qL, qJ, qJ0, qS, qX, qR, qM, Shp, sub, tupd, VS1, VS2, VS3, VS4, VS5, VS6, VT1, VT2, S_slices_stableCmpFunc_intM1L1, SX_slices_stableCmpFunc_intM1L1]
  · simp only [SX_slices_stableCmpFunc_intM1L1, A115M1R2]
    obtain ⟨rZ5, hrZ5, h⟩ := bind_s h
    simp only [VS1, VS2, VS3, VS4, VS5, VS6, VT1, VT2, finM_ret, finM_nrm, decide_true, decide_false, List.nodup_nil, List.nodup_cons, oks_p, oks_m, Nat.reduceSub, Nat.reduceMul, ↓reduceIte, reduceCtorEq, Nat.reduceEqDiff, Nat.reduceAdd, Nat.reduceLeDiff, Int.reduceLE]
    refine call_m (by simp only [VS1, VS2, VS3, VS4, VS5, VS6, VT1, VT2, finM_ret, finM_nrm, decide_true, decide_false, List.nodup_nil, List.nodup_cons, oks_p, oks_m, Nat.reduceSub, Nat.reduceMul, ↓reduceIte, reduceCtorEq, Nat.reduceEqDiff, Nat.reduceAdd, Nat.reduceLeDiff, Int.reduceLE]; exact w_slices_insertionSortCmpFunc_intM2 _ _ _ _ _ _ hrZ5) (by simp [VS1, VS2, VS3, VS4, VS5, VS6, VT1, VT2]) (by first | exact nm_ok [1000000000, 1000000001] rfl (by decide +kernel) | simp [VS1, VS2, VS3, VS4, VS5, VS6, VT1, VT2]) ?_
    simp only [VA, VF1, ↓reduceIte, Nat.reduceEqDiff, Nat.reduceAdd, Nat.reduceMul, Nat.reduceSub, Nat.reduceLeDiff]
    obtain ⟨oZ14, hoZ14, h⟩ := bind_s h
    try simp only [VS1, VS2, VS3, VS4, VS5, VS6, VT1, VT2, finM_ret, finM_nrm, decide_true, decide_false, List.nodup_nil, List.nodup_cons, oks_p, oks_m, Nat.reduceSub, Nat.reduceMul, ↓reduceIte, reduceCtorEq, Nat.reduceEqDiff, Nat.reduceAdd, Nat.reduceLeDiff, Int.reduceLE]
    first | refine tail_rule0 (blk_rule0 (loop_rule (w_slices_stableCmpFunc_intM1L2 aaZ0 oZ4) hoZ14 ?_)) (fun τ qZ15 => ?_) | refine tail_blk0 (loop_rule (w_slices_stableCmpFunc_intM1L2 aaZ0 oZ4) hoZ14 ?_) (fun τ qZ15 => ?_)
    · all_goals simp [qL, qJ, qJ0, qS, qX, qR, qM, Shp, sub, tupd, VS1, VS2, VS3, VS4, VS5, VS6, VT1, VT2, S_slices_stableCmpFunc_intM1L2, SX_slices_stableCmpFunc_intM1L2]
    · cases h
      refine finM_shp qZ15 (by decide) ?_ rfl
      all_goals simp [qL, qJ, qJ0, qS, qX, qR, qM, Shp, sub, tupd, VS1, VS2, VS3, VS4, VS5, VS6, VT1, VT2, V115M1, SX_slices_stableCmpFunc_intM1L2]
theorem w_slices_SortStableFunc_Lint_intM1 (aaZ0 : List Int) (abZ0 : List Int) {r : List Int × List Int} (h : M_slices_SortStableFunc_Lint_intM1 aaZ0 abZ0 = some r) : OkM Try.prog 104 [.sl 1000000000 0 aaZ0.length, .fn 105 [.pt 1000000001 0 0]] [(1000000000, .arr 1 (aaZ0.map AV.i)), (1000000001, .var (.lst .o 1 (abZ0.map AV.i)))] ((fun (r : List Int × List Int) => .tup []) r) ((fun (r : List Int × List Int) => [(1000000000, .arr 1 (r.1.map AV.i)), (1000000001, .var (.lst .o 1 (r.2.map AV.i)))]) r) := by
  refine okM_of_body (lr := [1000000000, 1000000001]) hmix m104M1 rfl ?_
  unfold M_slices_SortStableFunc_Lint_intM1 at h
  simp only [A104M1, V104M1]
  obtain ⟨rZ1, hrZ1, h⟩ := bind_s h
  simp only [VS1, VS2, VS3, VS4, VS5, VS6, VT1, VT2, finM_ret, finM_nrm, decide_true, decide_false, List.nodup_nil, List.nodup_cons, oks_p, oks_m, Nat.reduceSub, Nat.reduceMul, ↓reduceIte, reduceCtorEq, Nat.reduceEqDiff, Nat.reduceAdd, Nat.reduceLeDiff, Int.reduceLE]
  refine call_m (by simp only [VS1, VS2, VS3, VS4, VS5, VS6, VT1, VT2, finM_ret, finM_nrm, decide_true, decide_false, List.nodup_nil, List.nodup_cons, oks_p, oks_m, Nat.reduceSub, Nat.reduceMul, ↓reduceIte, reduceCtorEq, Nat.reduceEqDiff, Nat.reduceAdd, Nat.reduceLeDiff, Int.reduceLE]; exact w_slices_stableCmpFunc_intM1 _ _ _ hrZ1) (by simp [VS1, VS2, VS3, VS4, VS5, VS6, VT1, VT2]) (by first | exact nm_ok [1000000000, 1000000001] rfl (by decide +kernel) | simp [VS1, VS2, VS3, VS4, VS5, VS6, VT1, VT2]) ?_
  simp only [VA, VF1, ↓reduceIte, Nat.reduceEqDiff, Nat.reduceAdd, Nat.reduceMul, Nat.reduceSub, Nat.reduceLeDiff]
  cases h
  try simp only [VS1, VS2, VS3, VS4, VS5, VS6, VT1, VT2, finM_ret, finM_nrm, decide_true, decide_false, List.nodup_nil, List.nodup_cons, oks_p, oks_m, Nat.reduceSub, Nat.reduceMul, ↓reduceIte, reduceCtorEq, Nat.reduceEqDiff, Nat.reduceAdd, Nat.reduceLeDiff, Int.reduceLE]
  all_goals simp [qL, qJ, qJ0, qS, qX, qR, qM, Shp, sub, tupd, VS1, VS2, VS3, VS4, VS5, VS6, VT1, VT2, V104M1]
theorem w_impl_packed_c1 (roomZ0 : Int) (p1Z0 : List Int) (p2Z0 : Int) {r : Bool} (h : M_impl_packed_c1 roomZ0 p1Z0 p2Z0 = some r) : Ok Try.prog 99 [.i roomZ0, .bp (.lst .o 1 (p1Z0.map AV.i)) 0, .bp (.i p2Z0) 0] ((fun r => .b r) r) := by
  refine ok_of_body hmix m99 rfl ?_
  unfold M_impl_packed_c1 at h
  simp only [A99, V99, body_eq]
  obtain ⟨yZ1, hyZ1, h⟩ := bind_s h
  obtain ⟨hyZ1a, hyZ1b⟩ := geti_s hyZ1
  cases h
  try simp only [VS1, VS2, VS3, VS4, VS5, VS6, VT1, VT2, finM_ret, finM_nrm, decide_true, decide_false, List.nodup_nil, List.nodup_cons, oks_p, oks_m, Nat.reduceSub, Nat.reduceMul, ↓reduceIte, reduceCtorEq, Nat.reduceEqDiff, Nat.reduceAdd, Nat.reduceLeDiff, Int.reduceLE, hyZ1a, hyZ1b]
  all_goals simp [qL, qJ, qJ0, qS, qX, qR, qM, Shp, sub, tupd, VS1, VS2, VS3, VS4, VS5, VS6, VT1, VT2, V99]
def S_impl_packedL1 (ratesZ0 : List Int) (capacityZ0 : Int) (orderZ0 : List Int) (v : Int × List Int × List Int) : St := ⟨[(1, .i capacityZ0), (3, .pt 3 0 0), (7, .sl 7 0 v.2.1.length), (8, .sl 8 0 v.2.2.length), (16, .lst .o 1 (orderZ0.map AV.i)), (17, .i (orderZ0.length : Int)), (18, .i v.1)], [(3, .var (.lst .o 1 (ratesZ0.map AV.i))), (7, .arr 1 (v.2.1.map AV.i)), (8, .arr 1 (v.2.2.map AV.i))]⟩
def SX_impl_packedL1 (v : List Int) : St := ⟨[(7, .sl 7 0 v.length)], [(7, .arr 1 (v.map AV.i))]⟩
theorem w_impl_packedL1 (ratesZ0 : List Int) (capacityZ0 : Int) (orderZ0 : List Int) (sZ4 : Int × List Int × List Int) (o : (Int × List Int × List Int) ⊕ (List Int)) (h : M_impl_packedL1 ratesZ0 capacityZ0 orderZ0 sZ4 = some o) : AWP (OkS Try.prog) A64L2 (qL [1, 3, 7, 8, 16, 17, 18] [3, 7, 8] (S_impl_packedL1 ratesZ0 capacityZ0 orderZ0) (qX 0 [7] [7] (SX_impl_packedL1)) o) (S_impl_packedL1 ratesZ0 capacityZ0 orderZ0 sZ4) := by
  unfold M_impl_packedL1 at h
  simp only [S_impl_packedL1, A64L2]
  refine Or.elim (bt (decide (sZ4.1 < (orderZ0.length : Int)))) (fun cZ5 => ?_) (fun cZ5 => ?_)
  · replace h := cond_t cZ5 h
    obtain ⟨yZ6, hyZ6, h⟩ := bind_s h
    obtain ⟨hyZ6a, hyZ6b⟩ := geti_s hyZ6
    obtain ⟨rZ7, hrZ7, h⟩ := bind_s h
    simp only [VS1, VS2, VS3, VS4, VS5, VS6, VT1, VT2, finM_ret, finM_nrm, decide_true, decide_false, List.nodup_nil, List.nodup_cons, oks_p, oks_m, Nat.reduceSub, Nat.reduceMul, ↓reduceIte, reduceCtorEq, Nat.reduceEqDiff, Nat.reduceAdd, Nat.reduceLeDiff, Int.reduceLE, cZ5, hyZ6a, hyZ6b]
    refine call_s (by simp only [VS1, VS2, VS3, VS4, VS5, VS6, VT1, VT2, finM_ret, finM_nrm, decide_true, decide_false, List.nodup_nil, List.nodup_cons, oks_p, oks_m, Nat.reduceSub, Nat.reduceMul, ↓reduceIte, reduceCtorEq, Nat.reduceEqDiff, Nat.reduceAdd, Nat.reduceLeDiff, Int.reduceLE, cZ5, hyZ6a, hyZ6b]; exact w_slices_IndexFunc_Lint_int _ _ hrZ7 99 [.bp (.lst .o 1 (ratesZ0.map AV.i)) 0, .bp (.i yZ6) 0] ⟨fun ρ k => by simp only [VS1, VS2, VS3, VS4, VS5, VS6, VT1, VT2, finM_ret, finM_nrm, decide_true, decide_false, List.nodup_nil, List.nodup_cons, oks_p, oks_m, Nat.reduceSub, Nat.reduceMul, ↓reduceIte, reduceCtorEq, Nat.reduceEqDiff, Nat.reduceAdd, Nat.reduceLeDiff, Int.reduceLE], by simp [mentsL, AV.ments]⟩ (fun _ _ h => w_impl_packed_c1 _ _ _ h)) ?_
    simp only [VA, VF1, ↓reduceIte, Nat.reduceEqDiff, Nat.reduceAdd, Nat.reduceMul, Nat.reduceSub, Nat.reduceLeDiff]
    obtain ⟨oZ16, hoZ16, h⟩ := bind_s h
    try simp only [VS1, VS2, VS3, VS4, VS5, VS6, VT1, VT2, finM_ret, finM_nrm, decide_true, decide_false, List.nodup_nil, List.nodup_cons, oks_p, oks_m, Nat.reduceSub, Nat.reduceMul, ↓reduceIte, reduceCtorEq, Nat.reduceEqDiff, Nat.reduceAdd, Nat.reduceLeDiff, Int.reduceLE, cZ5, hyZ6a, hyZ6b]
    refine join_rule0 (sh := (fun v => ⟨[(1, .i capacityZ0), (3, .pt 3 0 0), (7, .sl 7 0 sZ4.2.1.length), (8, .sl 8 0 v.2.length), (10, .pt 10 0 0), (11, .i v.1), (16, .lst .o 1 (orderZ0.map AV.i)), (17, .i (orderZ0.length : Int)), (18, .i sZ4.1)], [(3, .var (.lst .o 1 (ratesZ0.map AV.i))), (7, .arr 1 (sZ4.2.1.map AV.i)), (8, .arr 1 (v.2.map AV.i)), (10, .var (.i yZ6))]⟩)) (s := oZ16) ?_ ?_
    · replace h := hoZ16
      refine Or.elim (bt (decide (rZ7 < 0))) (fun cZ8 => ?_) (fun cZ8 => ?_)
      · replace h := cond_t cZ8 h
        obtain ⟨lZ9, hlZ9, h⟩ := bnd_s h
        have eZ10 : Row.arr 1 [(.i capacityZ0 : AV)] = Row.arr 1 (lZ9.map AV.i) := by rw [← hlZ9]; rfl
        have eZ11 : lZ9.length = 1 := by rw [← hlZ9]; rfl
        obtain ⟨uZ12, huZ12, h⟩ := bind_s h
        have huZ12g := grd_s huZ12
        obtain ⟨lZ13, hlZ13, h⟩ := bnd_s h
        have eZ14 : sZ4.2.2.map AV.i ++ lZ9.map AV.i = lZ13.map AV.i := by rw [← hlZ13, List.map_append]
        have eZ15 : sZ4.2.2.length + 1 = lZ13.length := by simp [← hlZ9, ← hlZ13] <;> omega
        rw [eZ15] at huZ12g
        cases h
        try simp only [VS1, VS2, VS3, VS4, VS5, VS6, VT1, VT2, finM_ret, finM_nrm, decide_true, decide_false, List.nodup_nil, List.nodup_cons, oks_p, oks_m, Nat.reduceSub, Nat.reduceMul, ↓reduceIte, reduceCtorEq, Nat.reduceEqDiff, Nat.reduceAdd, Nat.reduceLeDiff, Int.reduceLE, cZ5, hyZ6a, hyZ6b, cZ8, eZ10, eZ11, huZ12g, eZ14, eZ15]
        all_goals simp [qL, qJ, qJ0, qS, qX, qR, qM, Shp, sub, tupd, VS1, VS2, VS3, VS4, VS5, VS6, VT1, VT2, ← hlZ9, ← hlZ13]
      · replace h := cond_f cZ8 h
        cases h
        try simp only [VS1, VS2, VS3, VS4, VS5, VS6, VT1, VT2, finM_ret, finM_nrm, decide_true, decide_false, List.nodup_nil, List.nodup_cons, oks_p, oks_m, Nat.reduceSub, Nat.reduceMul, ↓reduceIte, reduceCtorEq, Nat.reduceEqDiff, Nat.reduceAdd, Nat.reduceLeDiff, Int.reduceLE, cZ5, hyZ6a, hyZ6b, cZ8]
        all_goals simp [qL, qJ, qJ0, qS, qX, qR, qM, Shp, sub, tupd, VS1, VS2, VS3, VS4, VS5, VS6, VT1, VT2]
    · simp only [A64R1]
      obtain ⟨kZ17, hkZ17, h⟩ := bind_s h
      obtain ⟨hkZ17a, hkZ17b⟩ := grd_s hkZ17
      obtain ⟨yZ18, hyZ18, h⟩ := bind_s h
      obtain ⟨yZ19, hyZ19, h⟩ := bind_s h
      obtain ⟨hyZ19a, hyZ19b⟩ := geti_s hyZ19
      obtain ⟨lZ20, hlZ20, h⟩ := bnd_s h
      have eZ21 : (oZ16.2.map AV.i).set (Int.toNat oZ16.1) (.i (IntKind.wrap .i64 (yZ18 - yZ19))) = lZ20.map AV.i := by rw [← hlZ20, List.map_set]
      obtain ⟨kZ22, hkZ22, h⟩ := bind_s h
      obtain ⟨hkZ22a, hkZ22b⟩ := grd_s hkZ22
      obtain ⟨yZ23, hyZ23, h⟩ := bind_s h
      obtain ⟨lZ24, hlZ24, h⟩ := bnd_s h
      have eZ25 : (sZ4.2.1.map AV.i).set (Int.toNat yZ6) (.i oZ16.1) = lZ24.map AV.i := by rw [← hlZ24, List.map_set]
      cases h
      try simp only [VS1, VS2, VS3, VS4, VS5, VS6, VT1, VT2, finM_ret, finM_nrm, decide_true, decide_false, List.nodup_nil, List.nodup_cons, oks_p, oks_m, Nat.reduceSub, Nat.reduceMul, ↓reduceIte, reduceCtorEq, Nat.reduceEqDiff, Nat.reduceAdd, Nat.reduceLeDiff, Int.reduceLE, cZ5, hyZ6a, hyZ6b, hkZ17a, hkZ17b, hyZ18, hyZ19a, hyZ19b, eZ21, hkZ22a, hkZ22b, hyZ23, eZ25]
      all_goals simp [qL, qJ, qJ0, qS, qX, qR, qM, Shp, sub, tupd, VS1, VS2, VS3, VS4, VS5, VS6, VT1, VT2, S_impl_packedL1, SX_impl_packedL1, ← hlZ20, ← hlZ24]
  · replace h := cond_f cZ5 h
    cases h
    try simp only [VS1, VS2, VS3, VS4, VS5, VS6, VT1, VT2, finM_ret, finM_nrm, decide_true, decide_false, List.nodup_nil, List.nodup_cons, oks_p, oks_m, Nat.reduceSub, Nat.reduceMul, ↓reduceIte, reduceCtorEq, Nat.reduceEqDiff, Nat.reduceAdd, Nat.reduceLeDiff, Int.reduceLE, cZ5]
    all_goals simp [qL, qJ, qJ0, qS, qX, qR, qM, Shp, sub, tupd, VS1, VS2, VS3, VS4, VS5, VS6, VT1, VT2, S_impl_packedL1, SX_impl_packedL1]
theorem w_impl_packed (ratesZ0 : List Int) (capacityZ0 : Int) (orderZ0 : List Int) {r : List Int} (h : M_impl_packed ratesZ0 capacityZ0 orderZ0 = some r) : Ok Try.prog 64 [.lst .o 1 (ratesZ0.map AV.i), .i capacityZ0, .lst .o 1 (orderZ0.map AV.i)] ((fun r => .lst .u 1 (r.map AV.i)) r) := by
  refine ok_of_body hmix m64 rfl ?_
  unfold M_impl_packed at h
  simp only [A64, V64, body_eq]
  obtain ⟨uZ1, huZ1, h⟩ := bind_s h
  obtain ⟨huZ11, huZ12, huZ13, huZ14⟩ := grd_s huZ1
  obtain ⟨lZ2, hlZ2, h⟩ := bnd_s h
  have eZ3 : List.replicate (Int.toNat (ratesZ0.length : Int)) (.i 0 : AV) = lZ2.map AV.i := by rw [← hlZ2, List.map_replicate]
  obtain ⟨oZ26, hoZ26, h⟩ := bind_s h
  try simp only [VS1, VS2, VS3, VS4, VS5, VS6, VT1, VT2, finM_ret, finM_nrm, decide_true, decide_false, List.nodup_nil, List.nodup_cons, oks_p, oks_m, Nat.reduceSub, Nat.reduceMul, ↓reduceIte, reduceCtorEq, Nat.reduceEqDiff, Nat.reduceAdd, Nat.reduceLeDiff, Int.reduceLE, huZ11, huZ12, huZ13, huZ14, eZ3]
  refine join_rule0 (blk_rule0 (loop_rule (w_impl_packedL1 ratesZ0 capacityZ0 orderZ0) hoZ26 ?_)) ?_
  · all_goals simp [qL, qJ, qJ0, qS, qX, qR, qM, Shp, sub, tupd, VS1, VS2, VS3, VS4, VS5, VS6, VT1, VT2, S_impl_packedL1, SX_impl_packedL1, ← hlZ2, List.length_replicate]
  · simp only [SX_impl_packedL1, A64R3]
    cases h
    try simp only [VS1, VS2, VS3, VS4, VS5, VS6, VT1, VT2, finM_ret, finM_nrm, decide_true, decide_false, List.nodup_nil, List.nodup_cons, oks_p, oks_m, Nat.reduceSub, Nat.reduceMul, ↓reduceIte, reduceCtorEq, Nat.reduceEqDiff, Nat.reduceAdd, Nat.reduceLeDiff, Int.reduceLE, huZ11, huZ12, huZ13, huZ14, eZ3]
    all_goals simp [qL, qJ, qJ0, qS, qX, qR, qM, Shp, sub, tupd, VS1, VS2, VS3, VS4, VS5, VS6, VT1, VT2, V64]
theorem w_impl_descending (ratesZ0 : List Int) (capacityZ0 : Int) {r : List Int} (h : M_impl_descending ratesZ0 capacityZ0 = some r) : Ok Try.prog 77 [.lst .o 1 (ratesZ0.map AV.i), .i capacityZ0] ((fun r => .lst .u 1 (r.map AV.i)) r) := by
  refine ok_of_body hmix m77 rfl ?_
  unfold M_impl_descending at h
  simp only [A77, V77, body_eq]
  obtain ⟨rZ1, hrZ1, h⟩ := bind_s h
  simp only [VS1, VS2, VS3, VS4, VS5, VS6, VT1, VT2, finM_ret, finM_nrm, decide_true, decide_false, List.nodup_nil, List.nodup_cons, oks_p, oks_m, Nat.reduceSub, Nat.reduceMul, ↓reduceIte, reduceCtorEq, Nat.reduceEqDiff, Nat.reduceAdd, Nat.reduceLeDiff, Int.reduceLE]
  refine call_u (by simp only [VS1, VS2, VS3, VS4, VS5, VS6, VT1, VT2, finM_ret, finM_nrm, decide_true, decide_false, List.nodup_nil, List.nodup_cons, oks_p, oks_m, Nat.reduceSub, Nat.reduceMul, ↓reduceIte, reduceCtorEq, Nat.reduceEqDiff, Nat.reduceAdd, Nat.reduceLeDiff, Int.reduceLE]; exact w_impl_numbered _ hrZ1 ) (by simp [AV.allU, allUL, allUL_iff, VT1, VT2]) (by simp only [VS1, VS2, VS3, VS4, VS5, VS6, VT1, VT2, finM_ret, finM_nrm, decide_true, decide_false, List.nodup_nil, List.nodup_cons, oks_p, oks_m, Nat.reduceSub, Nat.reduceMul, ↓reduceIte, reduceCtorEq, Nat.reduceEqDiff, Nat.reduceAdd, Nat.reduceLeDiff, Int.reduceLE, Nat.reduceLT]) ?_
  simp only [VA, VF1, ↓reduceIte, Nat.reduceEqDiff, Nat.reduceAdd, Nat.reduceMul, Nat.reduceSub, Nat.reduceLeDiff]
  obtain ⟨rZ2, hrZ2, h⟩ := bind_s h
  simp only [VS1, VS2, VS3, VS4, VS5, VS6, VT1, VT2, finM_ret, finM_nrm, decide_true, decide_false, List.nodup_nil, List.nodup_cons, oks_p, oks_m, Nat.reduceSub, Nat.reduceMul, ↓reduceIte, reduceCtorEq, Nat.reduceEqDiff, Nat.reduceAdd, Nat.reduceLeDiff, Int.reduceLE]
  refine call_m (by simp only [VS1, VS2, VS3, VS4, VS5, VS6, VT1, VT2, finM_ret, finM_nrm, decide_true, decide_false, List.nodup_nil, List.nodup_cons, oks_p, oks_m, Nat.reduceSub, Nat.reduceMul, ↓reduceIte, reduceCtorEq, Nat.reduceEqDiff, Nat.reduceAdd, Nat.reduceLeDiff, Int.reduceLE]; exact w_slices_SortStableFunc_Lint_intM1 _ _ hrZ2) (by simp [VS1, VS2, VS3, VS4, VS5, VS6, VT1, VT2]) (by first | exact nm_ok [1000000000, 1000000001] rfl (by decide +kernel) | simp [VS1, VS2, VS3, VS4, VS5, VS6, VT1, VT2]) ?_
  simp only [VA, VF1, ↓reduceIte, Nat.reduceEqDiff, Nat.reduceAdd, Nat.reduceMul, Nat.reduceSub, Nat.reduceLeDiff]
  obtain ⟨lZ3, hlZ3, h⟩ := bnd_s h
  have eZ4 : sub (rZ2.1.map AV.i) 0 rZ1.length = lZ3.map AV.i := by rw [sub_mapT, hlZ3]
  obtain ⟨rZ5, hrZ5, h⟩ := bind_s h
  simp only [VS1, VS2, VS3, VS4, VS5, VS6, VT1, VT2, finM_ret, finM_nrm, decide_true, decide_false, List.nodup_nil, List.nodup_cons, oks_p, oks_m, Nat.reduceSub, Nat.reduceMul, ↓reduceIte, reduceCtorEq, Nat.reduceEqDiff, Nat.reduceAdd, Nat.reduceLeDiff, Int.reduceLE, eZ4]
  refine call_u (by simp only [VS1, VS2, VS3, VS4, VS5, VS6, VT1, VT2, finM_ret, finM_nrm, decide_true, decide_false, List.nodup_nil, List.nodup_cons, oks_p, oks_m, Nat.reduceSub, Nat.reduceMul, ↓reduceIte, reduceCtorEq, Nat.reduceEqDiff, Nat.reduceAdd, Nat.reduceLeDiff, Int.reduceLE, eZ4]; exact w_impl_packed _ _ _ hrZ5 ) (by simp [AV.allU, allUL, allUL_iff, VT1, VT2]) (by simp only [VS1, VS2, VS3, VS4, VS5, VS6, VT1, VT2, finM_ret, finM_nrm, decide_true, decide_false, List.nodup_nil, List.nodup_cons, oks_p, oks_m, Nat.reduceSub, Nat.reduceMul, ↓reduceIte, reduceCtorEq, Nat.reduceEqDiff, Nat.reduceAdd, Nat.reduceLeDiff, Int.reduceLE, Nat.reduceLT]) ?_
  simp only [VA, VF1, ↓reduceIte, Nat.reduceEqDiff, Nat.reduceAdd, Nat.reduceMul, Nat.reduceSub, Nat.reduceLeDiff]
  cases h
  try simp only [VS1, VS2, VS3, VS4, VS5, VS6, VT1, VT2, finM_ret, finM_nrm, decide_true, decide_false, List.nodup_nil, List.nodup_cons, oks_p, oks_m, Nat.reduceSub, Nat.reduceMul, ↓reduceIte, reduceCtorEq, Nat.reduceEqDiff, Nat.reduceAdd, Nat.reduceLeDiff, Int.reduceLE, eZ4]
  all_goals simp [qL, qJ, qJ0, qS, qX, qR, qM, Shp, sub, tupd, VS1, VS2, VS3, VS4, VS5, VS6, VT1, VT2, V77]
theorem w_impl_PackDescending (ratesZ0 : List Int) (capacityZ0 : Int) {r : List Int × Bool} (h : M_impl_PackDescending ratesZ0 capacityZ0 = some r) : Ok Try.prog 35 [.lst .o 1 (ratesZ0.map AV.i), .i capacityZ0] ((fun r => .tup [.lst .u 1 (r.1.map AV.i), .b r.2]) r) := by
  refine ok_of_body hmix m35 rfl ?_
  unfold M_impl_PackDescending at h
  simp only [A35, V35, body_eq]
  obtain ⟨rZ1, hrZ1, h⟩ := bind_s h
  simp only [VS1, VS2, VS3, VS4, VS5, VS6, VT1, VT2, finM_ret, finM_nrm, decide_true, decide_false, List.nodup_nil, List.nodup_cons, oks_p, oks_m, Nat.reduceSub, Nat.reduceMul, ↓reduceIte, reduceCtorEq, Nat.reduceEqDiff, Nat.reduceAdd, Nat.reduceLeDiff, Int.reduceLE]
  refine call_s (by simp only [VS1, VS2, VS3, VS4, VS5, VS6, VT1, VT2, finM_ret, finM_nrm, decide_true, decide_false, List.nodup_nil, List.nodup_cons, oks_p, oks_m, Nat.reduceSub, Nat.reduceMul, ↓reduceIte, reduceCtorEq, Nat.reduceEqDiff, Nat.reduceAdd, Nat.reduceLeDiff, Int.reduceLE]; exact w_impl_isPacking _ _ _ hrZ1 ) ?_
  simp only [VA, VF1, ↓reduceIte, Nat.reduceEqDiff, Nat.reduceAdd, Nat.reduceMul, Nat.reduceSub, Nat.reduceLeDiff]
  refine Or.elim (bt (!rZ1)) (fun cZ2 => ?_) (fun cZ2 => ?_)
  · replace h := cond_t cZ2 h
    cases h
    try simp only [VS1, VS2, VS3, VS4, VS5, VS6, VT1, VT2, finM_ret, finM_nrm, decide_true, decide_false, List.nodup_nil, List.nodup_cons, oks_p, oks_m, Nat.reduceSub, Nat.reduceMul, ↓reduceIte, reduceCtorEq, Nat.reduceEqDiff, Nat.reduceAdd, Nat.reduceLeDiff, Int.reduceLE, cZ2]
    all_goals simp [qL, qJ, qJ0, qS, qX, qR, qM, Shp, sub, tupd, VS1, VS2, VS3, VS4, VS5, VS6, VT1, VT2, V35]
  · replace h := cond_f cZ2 h
    obtain ⟨rZ3, hrZ3, h⟩ := bind_s h
    simp only [VS1, VS2, VS3, VS4, VS5, VS6, VT1, VT2, finM_ret, finM_nrm, decide_true, decide_false, List.nodup_nil, List.nodup_cons, oks_p, oks_m, Nat.reduceSub, Nat.reduceMul, ↓reduceIte, reduceCtorEq, Nat.reduceEqDiff, Nat.reduceAdd, Nat.reduceLeDiff, Int.reduceLE, cZ2]
    refine call_u (by simp only [VS1, VS2, VS3, VS4, VS5, VS6, VT1, VT2, finM_ret, finM_nrm, decide_true, decide_false, List.nodup_nil, List.nodup_cons, oks_p, oks_m, Nat.reduceSub, Nat.reduceMul, ↓reduceIte, reduceCtorEq, Nat.reduceEqDiff, Nat.reduceAdd, Nat.reduceLeDiff, Int.reduceLE, cZ2]; exact w_impl_descending _ _ hrZ3 ) (by simp [AV.allU, allUL, allUL_iff, VT1, VT2]) (by simp only [VS1, VS2, VS3, VS4, VS5, VS6, VT1, VT2, finM_ret, finM_nrm, decide_true, decide_false, List.nodup_nil, List.nodup_cons, oks_p, oks_m, Nat.reduceSub, Nat.reduceMul, ↓reduceIte, reduceCtorEq, Nat.reduceEqDiff, Nat.reduceAdd, Nat.reduceLeDiff, Int.reduceLE, Nat.reduceLT]) ?_
    simp only [VA, VF1, ↓reduceIte, Nat.reduceEqDiff, Nat.reduceAdd, Nat.reduceMul, Nat.reduceSub, Nat.reduceLeDiff]
    cases h
    try simp only [VS1, VS2, VS3, VS4, VS5, VS6, VT1, VT2, finM_ret, finM_nrm, decide_true, decide_false, List.nodup_nil, List.nodup_cons, oks_p, oks_m, Nat.reduceSub, Nat.reduceMul, ↓reduceIte, reduceCtorEq, Nat.reduceEqDiff, Nat.reduceAdd, Nat.reduceLeDiff, Int.reduceLE, cZ2]
    all_goals simp [qL, qJ, qJ0, qS, qX, qR, qM, Shp, sub, tupd, VS1, VS2, VS3, VS4, VS5, VS6, VT1, VT2, V35]
def S_laws_eqIntSL1 (aZ0 : List Int) (bZ0 : List Int) (v : Int) : St := ⟨[(0, .lst .o 1 (aZ0.map AV.i)), (1, .lst .o 1 (bZ0.map AV.i)), (5, .i v)], []⟩
def SX_laws_eqIntSL1 (v : Unit) : St := ⟨[], []⟩
theorem w_laws_eqIntSL1 (aZ0 : List Int) (bZ0 : List Int) (sZ2 : Int) (o : Int ⊕ (Unit ⊕ Bool)) (h : M_laws_eqIntSL1 aZ0 bZ0 sZ2 = some o) : AWP (OkS Try.prog) A22L1 (qL [0, 1, 5] [] (S_laws_eqIntSL1 aZ0 bZ0) (qS (qX 0 [] [] (SX_laws_eqIntSL1)) (qR V22 (fun r => .b r))) o) (S_laws_eqIntSL1 aZ0 bZ0 sZ2) := by
  unfold M_laws_eqIntSL1 at h
  simp only [S_laws_eqIntSL1, A22L1]
  refine Or.elim (bt (decide (sZ2 < (aZ0.length : Int)))) (fun cZ3 => ?_) (fun cZ3 => ?_)
  · replace h := cond_t cZ3 h
    obtain ⟨yZ4, hyZ4, h⟩ := bind_s h
    obtain ⟨hyZ4a, hyZ4b⟩ := geti_s hyZ4
    obtain ⟨yZ5, hyZ5, h⟩ := bind_s h
    obtain ⟨hyZ5a, hyZ5b⟩ := geti_s hyZ5
    refine Or.elim (bt (yZ4 != yZ5)) (fun cZ6 => ?_) (fun cZ6 => ?_)
    · replace h := cond_t cZ6 h
      cases h
      try simp only [VS1, VS2, VS3, VS4, VS5, VS6, VT1, VT2, finM_ret, finM_nrm, decide_true, decide_false, List.nodup_nil, List.nodup_cons, oks_p, oks_m, Nat.reduceSub, Nat.reduceMul, ↓reduceIte, reduceCtorEq, Nat.reduceEqDiff, Nat.reduceAdd, Nat.reduceLeDiff, Int.reduceLE, cZ3, hyZ4a, hyZ4b, hyZ5a, hyZ5b, cZ6]
      all_goals simp [qL, qJ, qJ0, qS, qX, qR, qM, Shp, sub, tupd, VS1, VS2, VS3, VS4, VS5, VS6, VT1, VT2, V22]
    · replace h := cond_f cZ6 h
      cases h
      try simp only [VS1, VS2, VS3, VS4, VS5, VS6, VT1, VT2, finM_ret, finM_nrm, decide_true, decide_false, List.nodup_nil, List.nodup_cons, oks_p, oks_m, Nat.reduceSub, Nat.reduceMul, ↓reduceIte, reduceCtorEq, Nat.reduceEqDiff, Nat.reduceAdd, Nat.reduceLeDiff, Int.reduceLE, cZ3, hyZ4a, hyZ4b, hyZ5a, hyZ5b, cZ6]
      all_goals simp [qL, qJ, qJ0, qS, qX, qR, qM, Shp, sub, tupd, VS1, VS2, VS3, VS4, VS5, VS6, VT1, VT2, S_laws_eqIntSL1, SX_laws_eqIntSL1]
  · replace h := cond_f cZ3 h
    cases h
    try simp only [VS1, VS2, VS3, VS4, VS5, VS6, VT1, VT2, finM_ret, finM_nrm, decide_true, decide_false, List.nodup_nil, List.nodup_cons, oks_p, oks_m, Nat.reduceSub, Nat.reduceMul, ↓reduceIte, reduceCtorEq, Nat.reduceEqDiff, Nat.reduceAdd, Nat.reduceLeDiff, Int.reduceLE, cZ3]
    all_goals simp [qL, qJ, qJ0, qS, qX, qR, qM, Shp, sub, tupd, VS1, VS2, VS3, VS4, VS5, VS6, VT1, VT2, S_laws_eqIntSL1, SX_laws_eqIntSL1]
theorem w_laws_eqIntS (aZ0 : List Int) (bZ0 : List Int) {r : Bool} (h : M_laws_eqIntS aZ0 bZ0 = some r) : Ok Try.prog 22 [.lst .o 1 (aZ0.map AV.i), .lst .o 1 (bZ0.map AV.i)] ((fun r => .b r) r) := by
  refine ok_of_body hmix m22 rfl ?_
  unfold M_laws_eqIntS at h
  simp only [A22, V22, body_eq]
  refine Or.elim (bt ((aZ0.length : Int) != (bZ0.length : Int))) (fun cZ1 => ?_) (fun cZ1 => ?_)
  · replace h := cond_t cZ1 h
    cases h
    try simp only [VS1, VS2, VS3, VS4, VS5, VS6, VT1, VT2, finM_ret, finM_nrm, decide_true, decide_false, List.nodup_nil, List.nodup_cons, oks_p, oks_m, Nat.reduceSub, Nat.reduceMul, ↓reduceIte, reduceCtorEq, Nat.reduceEqDiff, Nat.reduceAdd, Nat.reduceLeDiff, Int.reduceLE, cZ1]
    all_goals simp [qL, qJ, qJ0, qS, qX, qR, qM, Shp, sub, tupd, VS1, VS2, VS3, VS4, VS5, VS6, VT1, VT2, V22]
  · replace h := cond_f cZ1 h
    obtain ⟨oZ7, hoZ7, h⟩ := bind_s h
    try simp only [VS1, VS2, VS3, VS4, VS5, VS6, VT1, VT2, finM_ret, finM_nrm, decide_true, decide_false, List.nodup_nil, List.nodup_cons, oks_p, oks_m, Nat.reduceSub, Nat.reduceMul, ↓reduceIte, reduceCtorEq, Nat.reduceEqDiff, Nat.reduceAdd, Nat.reduceLeDiff, Int.reduceLE, cZ1]
    refine join_rule (o := oZ7) (blk_rule sideR (loop_rule (w_laws_eqIntSL1 aZ0 bZ0) hoZ7 ?_)) (fun vZ8 hv => ?_) (fun xZ9 hv e τ hne hq => ?_)
    · all_goals simp [qL, qJ, qJ0, qS, qX, qR, qM, Shp, sub, tupd, VS1, VS2, VS3, VS4, VS5, VS6, VT1, VT2, S_laws_eqIntSL1, SX_laws_eqIntSL1]
    · subst hv
      simp only [] at h
      simp only [SX_laws_eqIntSL1, A22R2]
      cases h
      try simp only [VS1, VS2, VS3, VS4, VS5, VS6, VT1, VT2, finM_ret, finM_nrm, decide_true, decide_false, List.nodup_nil, List.nodup_cons, oks_p, oks_m, Nat.reduceSub, Nat.reduceMul, ↓reduceIte, reduceCtorEq, Nat.reduceEqDiff, Nat.reduceAdd, Nat.reduceLeDiff, Int.reduceLE, cZ1]
      all_goals simp [qL, qJ, qJ0, qS, qX, qR, qM, Shp, sub, tupd, VS1, VS2, VS3, VS4, VS5, VS6, VT1, VT2, V22]
    · subst hv
      simp only [] at h
      obtain ⟨rfl, qZ10⟩ := hq
      cases h
      exact qZ10
def S_laws_markIntSM1L1 (v : Int × Int × List Int) : St := ⟨[(0, .sl 1000000000 0 v.2.2.length), (1, .i v.1), (5, .i v.2.1)], [(1000000000, .arr 1 (v.2.2.map AV.i))]⟩
def SX_laws_markIntSM1L1 (v : Int × List Int) : St := ⟨[(1, .i v.1)], [(1000000000, .arr 1 (v.2.map AV.i))]⟩
theorem w_laws_markIntSM1L1 (sZ1 : Int × Int × List Int) (o : (Int × Int × List Int) ⊕ (Int × List Int)) (h : M_laws_markIntSM1L1 sZ1 = some o) : AWP (OkS Try.prog) A23M1L1 (qL [0, 1, 5] [1000000000] (S_laws_markIntSM1L1) (qX 0 [1] [1000000000] (SX_laws_markIntSM1L1)) o) (S_laws_markIntSM1L1 sZ1) := by
  unfold M_laws_markIntSM1L1 at h
  simp only [S_laws_markIntSM1L1, A23M1L1]
  refine Or.elim (bt (decide (sZ1.2.1 < (sZ1.2.2.length : Int)))) (fun cZ2 => ?_) (fun cZ2 => ?_)
  · replace h := cond_t cZ2 h
    obtain ⟨kZ3, hkZ3, h⟩ := bind_s h
    obtain ⟨hkZ3a, hkZ3b⟩ := grd_s hkZ3
    obtain ⟨yZ4, hyZ4, h⟩ := bind_s h
    obtain ⟨lZ5, hlZ5, h⟩ := bnd_s h
    have eZ6 : (sZ1.2.2.map AV.i).set (Int.toNat sZ1.2.1) (.i sZ1.1) = lZ5.map AV.i := by rw [← hlZ5, List.map_set]
    cases h
    try simp only [VS1, VS2, VS3, VS4, VS5, VS6, VT1, VT2, finM_ret, finM_nrm, decide_true, decide_false, List.nodup_nil, List.nodup_cons, oks_p, oks_m, Nat.reduceSub, Nat.reduceMul, ↓reduceIte, reduceCtorEq, Nat.reduceEqDiff, Nat.reduceAdd, Nat.reduceLeDiff, Int.reduceLE, cZ2, hkZ3a, hkZ3b, hyZ4, eZ6]
    all_goals simp [qL, qJ, qJ0, qS, qX, qR, qM, Shp, sub, tupd, VS1, VS2, VS3, VS4, VS5, VS6, VT1, VT2, S_laws_markIntSM1L1, SX_laws_markIntSM1L1, ← hlZ5]
  · replace h := cond_f cZ2 h
    cases h
    try simp only [VS1, VS2, VS3, VS4, VS5, VS6, VT1, VT2, finM_ret, finM_nrm, decide_true, decide_false, List.nodup_nil, List.nodup_cons, oks_p, oks_m, Nat.reduceSub, Nat.reduceMul, ↓reduceIte, reduceCtorEq, Nat.reduceEqDiff, Nat.reduceAdd, Nat.reduceLeDiff, Int.reduceLE, cZ2]
    all_goals simp [qL, qJ, qJ0, qS, qX, qR, qM, Shp, sub, tupd, VS1, VS2, VS3, VS4, VS5, VS6, VT1, VT2, S_laws_markIntSM1L1, SX_laws_markIntSM1L1]
theorem w_laws_markIntSM1 (aaZ0 : Int) (abZ0 : List Int) {r : Int × List Int} (h : M_laws_markIntSM1 aaZ0 abZ0 = some r) : OkM Try.prog 23 [.sl 1000000000 0 abZ0.length, .i aaZ0] [(1000000000, .arr 1 (abZ0.map AV.i))] ((fun (r : Int × List Int) => .i r.1) r) ((fun (r : Int × List Int) => [(1000000000, .arr 1 (r.2.map AV.i))]) r) := by
  refine okM_of_body (lr := [1000000000]) hmix m23M1 rfl ?_
  unfold M_laws_markIntSM1 at h
  simp only [A23M1, V23M1]
  obtain ⟨oZ7, hoZ7, h⟩ := bind_s h
  try simp only [VS1, VS2, VS3, VS4, VS5, VS6, VT1, VT2, finM_ret, finM_nrm, decide_true, decide_false, List.nodup_nil, List.nodup_cons, oks_p, oks_m, Nat.reduceSub, Nat.reduceMul, ↓reduceIte, reduceCtorEq, Nat.reduceEqDiff, Nat.reduceAdd, Nat.reduceLeDiff, Int.reduceLE]
  refine join_rule0 (blk_rule0 (loop_rule (w_laws_markIntSM1L1) hoZ7 ?_)) ?_
  · all_goals simp [qL, qJ, qJ0, qS, qX, qR, qM, Shp, sub, tupd, VS1, VS2, VS3, VS4, VS5, VS6, VT1, VT2, S_laws_markIntSM1L1, SX_laws_markIntSM1L1]
  · simp only [SX_laws_markIntSM1L1, A23M1R2]
    cases h
    try simp only [VS1, VS2, VS3, VS4, VS5, VS6, VT1, VT2, finM_ret, finM_nrm, decide_true, decide_false, List.nodup_nil, List.nodup_cons, oks_p, oks_m, Nat.reduceSub, Nat.reduceMul, ↓reduceIte, reduceCtorEq, Nat.reduceEqDiff, Nat.reduceAdd, Nat.reduceLeDiff, Int.reduceLE]
    all_goals simp [qL, qJ, qJ0, qS, qX, qR, qM, Shp, sub, tupd, VS1, VS2, VS3, VS4, VS5, VS6, VT1, VT2, V23M1]
def S_laws_heldIntSL1 (aZ0 : List Int) (v : Int × Int) : St := ⟨[(0, .lst .o 1 (aZ0.map AV.i)), (1, .i v.1), (5, .i v.2)], []⟩
def SX_laws_heldIntSL1 (v : Int) : St := ⟨[(1, .i v)], []⟩
theorem w_laws_heldIntSL1 (aZ0 : List Int) (sZ1 : Int × Int) (o : (Int × Int) ⊕ (Int ⊕ Int)) (h : M_laws_heldIntSL1 aZ0 sZ1 = some o) : AWP (OkS Try.prog) A24L1 (qL [0, 1, 5] [] (S_laws_heldIntSL1 aZ0) (qS (qX 0 [1] [] (SX_laws_heldIntSL1)) (qR V24 (fun r => .i r))) o) (S_laws_heldIntSL1 aZ0 sZ1) := by
  unfold M_laws_heldIntSL1 at h
  simp only [S_laws_heldIntSL1, A24L1]
  refine Or.elim (bt (decide (sZ1.2 < (aZ0.length : Int)))) (fun cZ2 => ?_) (fun cZ2 => ?_)
  · replace h := cond_t cZ2 h
    obtain ⟨yZ3, hyZ3, h⟩ := bind_s h
    obtain ⟨hyZ3a, hyZ3b⟩ := geti_s hyZ3
    refine Or.elim (bt (yZ3 != sZ1.1)) (fun cZ4 => ?_) (fun cZ4 => ?_)
    · replace h := cond_t cZ4 h
      cases h
      try simp only [VS1, VS2, VS3, VS4, VS5, VS6, VT1, VT2, finM_ret, finM_nrm, decide_true, decide_false, List.nodup_nil, List.nodup_cons, oks_p, oks_m, Nat.reduceSub, Nat.reduceMul, ↓reduceIte, reduceCtorEq, Nat.reduceEqDiff, Nat.reduceAdd, Nat.reduceLeDiff, Int.reduceLE, cZ2, hyZ3a, hyZ3b, cZ4]
      all_goals simp [qL, qJ, qJ0, qS, qX, qR, qM, Shp, sub, tupd, VS1, VS2, VS3, VS4, VS5, VS6, VT1, VT2, V24]
    · replace h := cond_f cZ4 h
      cases h
      try simp only [VS1, VS2, VS3, VS4, VS5, VS6, VT1, VT2, finM_ret, finM_nrm, decide_true, decide_false, List.nodup_nil, List.nodup_cons, oks_p, oks_m, Nat.reduceSub, Nat.reduceMul, ↓reduceIte, reduceCtorEq, Nat.reduceEqDiff, Nat.reduceAdd, Nat.reduceLeDiff, Int.reduceLE, cZ2, hyZ3a, hyZ3b, cZ4]
      all_goals simp [qL, qJ, qJ0, qS, qX, qR, qM, Shp, sub, tupd, VS1, VS2, VS3, VS4, VS5, VS6, VT1, VT2, S_laws_heldIntSL1, SX_laws_heldIntSL1]
  · replace h := cond_f cZ2 h
    cases h
    try simp only [VS1, VS2, VS3, VS4, VS5, VS6, VT1, VT2, finM_ret, finM_nrm, decide_true, decide_false, List.nodup_nil, List.nodup_cons, oks_p, oks_m, Nat.reduceSub, Nat.reduceMul, ↓reduceIte, reduceCtorEq, Nat.reduceEqDiff, Nat.reduceAdd, Nat.reduceLeDiff, Int.reduceLE, cZ2]
    all_goals simp [qL, qJ, qJ0, qS, qX, qR, qM, Shp, sub, tupd, VS1, VS2, VS3, VS4, VS5, VS6, VT1, VT2, S_laws_heldIntSL1, SX_laws_heldIntSL1]
theorem w_laws_heldIntS (aZ0 : List Int) (kZ0 : Int) {r : Int} (h : M_laws_heldIntS aZ0 kZ0 = some r) : Ok Try.prog 24 [.lst .o 1 (aZ0.map AV.i), .i kZ0] ((fun r => .i r) r) := by
  refine ok_of_body hmix m24 rfl ?_
  unfold M_laws_heldIntS at h
  simp only [A24, V24, body_eq]
  obtain ⟨oZ5, hoZ5, h⟩ := bind_s h
  try simp only [VS1, VS2, VS3, VS4, VS5, VS6, VT1, VT2, finM_ret, finM_nrm, decide_true, decide_false, List.nodup_nil, List.nodup_cons, oks_p, oks_m, Nat.reduceSub, Nat.reduceMul, ↓reduceIte, reduceCtorEq, Nat.reduceEqDiff, Nat.reduceAdd, Nat.reduceLeDiff, Int.reduceLE]
  refine join_rule (o := oZ5) (blk_rule sideR (loop_rule (w_laws_heldIntSL1 aZ0) hoZ5 ?_)) (fun vZ6 hv => ?_) (fun xZ7 hv e τ hne hq => ?_)
  · all_goals simp [qL, qJ, qJ0, qS, qX, qR, qM, Shp, sub, tupd, VS1, VS2, VS3, VS4, VS5, VS6, VT1, VT2, S_laws_heldIntSL1, SX_laws_heldIntSL1]
  · subst hv
    simp only [] at h
    simp only [SX_laws_heldIntSL1, A24R2]
    cases h
    try simp only [VS1, VS2, VS3, VS4, VS5, VS6, VT1, VT2, finM_ret, finM_nrm, decide_true, decide_false, List.nodup_nil, List.nodup_cons, oks_p, oks_m, Nat.reduceSub, Nat.reduceMul, ↓reduceIte, reduceCtorEq, Nat.reduceEqDiff, Nat.reduceAdd, Nat.reduceLeDiff, Int.reduceLE]
    all_goals simp [qL, qJ, qJ0, qS, qX, qR, qM, Shp, sub, tupd, VS1, VS2, VS3, VS4, VS5, VS6, VT1, VT2, V24]
  · subst hv
    simp only [] at h
    obtain ⟨rfl, qZ8⟩ := hq
    cases h
    exact qZ8
theorem w_laws_FnExactPackDescending (aRatesZ0 : List Int) (aCapacityZ0 : Int) {r : Bool} (h : M_laws_FnExactPackDescending aRatesZ0 aCapacityZ0 = some r) : Ok Try.prog 7 [.lst .o 1 (aRatesZ0.map AV.i), .i aCapacityZ0] ((fun r => .b r) r) := by
  refine ok_of_body hmix m7 rfl ?_
  unfold M_laws_FnExactPackDescending at h
  simp only [A7, V7, body_eq]
  refine Or.elim (bt (decide (1048576 < (aRatesZ0.length : Int)))) (fun cZ1 => ?_) (fun cZ1 => ?_)
  · replace h := cond_t cZ1 h
    cases h
    try simp only [VS1, VS2, VS3, VS4, VS5, VS6, VT1, VT2, finM_ret, finM_nrm, decide_true, decide_false, List.nodup_nil, List.nodup_cons, oks_p, oks_m, Nat.reduceSub, Nat.reduceMul, ↓reduceIte, reduceCtorEq, Nat.reduceEqDiff, Nat.reduceAdd, Nat.reduceLeDiff, Int.reduceLE, cZ1]
    all_goals simp [qL, qJ, qJ0, qS, qX, qR, qM, Shp, sub, tupd, VS1, VS2, VS3, VS4, VS5, VS6, VT1, VT2, V7]
  · replace h := cond_f cZ1 h
    obtain ⟨rZ2, hrZ2, h⟩ := bind_s h
    simp only [VS1, VS2, VS3, VS4, VS5, VS6, VT1, VT2, finM_ret, finM_nrm, decide_true, decide_false, List.nodup_nil, List.nodup_cons, oks_p, oks_m, Nat.reduceSub, Nat.reduceMul, ↓reduceIte, reduceCtorEq, Nat.reduceEqDiff, Nat.reduceAdd, Nat.reduceLeDiff, Int.reduceLE, cZ1]
    refine call_u (by simp only [VS1, VS2, VS3, VS4, VS5, VS6, VT1, VT2, finM_ret, finM_nrm, decide_true, decide_false, List.nodup_nil, List.nodup_cons, oks_p, oks_m, Nat.reduceSub, Nat.reduceMul, ↓reduceIte, reduceCtorEq, Nat.reduceEqDiff, Nat.reduceAdd, Nat.reduceLeDiff, Int.reduceLE, cZ1]; exact w_laws_toIntS _ hrZ2 ) (by simp [AV.allU, allUL, allUL_iff, VT1, VT2]) (by simp only [VS1, VS2, VS3, VS4, VS5, VS6, VT1, VT2, finM_ret, finM_nrm, decide_true, decide_false, List.nodup_nil, List.nodup_cons, oks_p, oks_m, Nat.reduceSub, Nat.reduceMul, ↓reduceIte, reduceCtorEq, Nat.reduceEqDiff, Nat.reduceAdd, Nat.reduceLeDiff, Int.reduceLE, Nat.reduceLT]) ?_
    simp only [VA, VF1, ↓reduceIte, Nat.reduceEqDiff, Nat.reduceAdd, Nat.reduceMul, Nat.reduceSub, Nat.reduceLeDiff]
    obtain ⟨rZ3, hrZ3, h⟩ := bind_s h
    simp only [VS1, VS2, VS3, VS4, VS5, VS6, VT1, VT2, finM_ret, finM_nrm, decide_true, decide_false, List.nodup_nil, List.nodup_cons, oks_p, oks_m, Nat.reduceSub, Nat.reduceMul, ↓reduceIte, reduceCtorEq, Nat.reduceEqDiff, Nat.reduceAdd, Nat.reduceLeDiff, Int.reduceLE, cZ1]
    refine call_u (by simp only [VS1, VS2, VS3, VS4, VS5, VS6, VT1, VT2, finM_ret, finM_nrm, decide_true, decide_false, List.nodup_nil, List.nodup_cons, oks_p, oks_m, Nat.reduceSub, Nat.reduceMul, ↓reduceIte, reduceCtorEq, Nat.reduceEqDiff, Nat.reduceAdd, Nat.reduceLeDiff, Int.reduceLE, cZ1]; exact w_spec_PackDescending _ _ hrZ3 ) (by simp [AV.allU, allUL, allUL_iff, VT1, VT2]) (by simp only [VS1, VS2, VS3, VS4, VS5, VS6, VT1, VT2, finM_ret, finM_nrm, decide_true, decide_false, List.nodup_nil, List.nodup_cons, oks_p, oks_m, Nat.reduceSub, Nat.reduceMul, ↓reduceIte, reduceCtorEq, Nat.reduceEqDiff, Nat.reduceAdd, Nat.reduceLeDiff, Int.reduceLE, Nat.reduceLT]) ?_
    simp only [VA, VF1, ↓reduceIte, Nat.reduceEqDiff, Nat.reduceAdd, Nat.reduceMul, Nat.reduceSub, Nat.reduceLeDiff]
    obtain ⟨rZ4, hrZ4, h⟩ := bind_s h
    simp only [VS1, VS2, VS3, VS4, VS5, VS6, VT1, VT2, finM_ret, finM_nrm, decide_true, decide_false, List.nodup_nil, List.nodup_cons, oks_p, oks_m, Nat.reduceSub, Nat.reduceMul, ↓reduceIte, reduceCtorEq, Nat.reduceEqDiff, Nat.reduceAdd, Nat.reduceLeDiff, Int.reduceLE, cZ1]
    refine call_u (by simp only [VS1, VS2, VS3, VS4, VS5, VS6, VT1, VT2, finM_ret, finM_nrm, decide_true, decide_false, List.nodup_nil, List.nodup_cons, oks_p, oks_m, Nat.reduceSub, Nat.reduceMul, ↓reduceIte, reduceCtorEq, Nat.reduceEqDiff, Nat.reduceAdd, Nat.reduceLeDiff, Int.reduceLE, cZ1]; exact w_laws_toIntS _ hrZ4 ) (by simp [AV.allU, allUL, allUL_iff, VT1, VT2]) (by simp only [VS1, VS2, VS3, VS4, VS5, VS6, VT1, VT2, finM_ret, finM_nrm, decide_true, decide_false, List.nodup_nil, List.nodup_cons, oks_p, oks_m, Nat.reduceSub, Nat.reduceMul, ↓reduceIte, reduceCtorEq, Nat.reduceEqDiff, Nat.reduceAdd, Nat.reduceLeDiff, Int.reduceLE, Nat.reduceLT]) ?_
    simp only [VA, VF1, ↓reduceIte, Nat.reduceEqDiff, Nat.reduceAdd, Nat.reduceMul, Nat.reduceSub, Nat.reduceLeDiff]
    obtain ⟨rZ5, hrZ5, h⟩ := bind_s h
    simp only [VS1, VS2, VS3, VS4, VS5, VS6, VT1, VT2, finM_ret, finM_nrm, decide_true, decide_false, List.nodup_nil, List.nodup_cons, oks_p, oks_m, Nat.reduceSub, Nat.reduceMul, ↓reduceIte, reduceCtorEq, Nat.reduceEqDiff, Nat.reduceAdd, Nat.reduceLeDiff, Int.reduceLE, cZ1]
    refine call_u (by simp only [VS1, VS2, VS3, VS4, VS5, VS6, VT1, VT2, finM_ret, finM_nrm, decide_true, decide_false, List.nodup_nil, List.nodup_cons, oks_p, oks_m, Nat.reduceSub, Nat.reduceMul, ↓reduceIte, reduceCtorEq, Nat.reduceEqDiff, Nat.reduceAdd, Nat.reduceLeDiff, Int.reduceLE, cZ1]; exact w_impl_PackDescending _ _ hrZ5 ) (by simp [AV.allU, allUL, allUL_iff, VT1, VT2]) (by simp only [VS1, VS2, VS3, VS4, VS5, VS6, VT1, VT2, finM_ret, finM_nrm, decide_true, decide_false, List.nodup_nil, List.nodup_cons, oks_p, oks_m, Nat.reduceSub, Nat.reduceMul, ↓reduceIte, reduceCtorEq, Nat.reduceEqDiff, Nat.reduceAdd, Nat.reduceLeDiff, Int.reduceLE, Nat.reduceLT]) ?_
    simp only [VA, VF1, ↓reduceIte, Nat.reduceEqDiff, Nat.reduceAdd, Nat.reduceMul, Nat.reduceSub, Nat.reduceLeDiff]
    obtain ⟨oZ8, hoZ8, h⟩ := bind_s h
    try simp only [VS1, VS2, VS3, VS4, VS5, VS6, VT1, VT2, finM_ret, finM_nrm, decide_true, decide_false, List.nodup_nil, List.nodup_cons, oks_p, oks_m, Nat.reduceSub, Nat.reduceMul, ↓reduceIte, reduceCtorEq, Nat.reduceEqDiff, Nat.reduceAdd, Nat.reduceLeDiff, Int.reduceLE, cZ1]
    refine join_rule0 (sh := (fun v => ⟨[(0, .lst .o 1 (aRatesZ0.map AV.i)), (1, .i aCapacityZ0), (5, .sl 5 0 rZ3.1.length), (6, .b rZ3.2), (7, .sl 7 0 rZ4.length), (8, .sl 8 0 rZ5.1.length), (9, .b rZ5.2), (41, .b v)], [(5, .arr 1 (rZ3.1.map AV.i)), (7, .arr 1 (rZ4.map AV.i)), (8, .arr 1 (rZ5.1.map AV.i))]⟩)) (s := oZ8) ?_ ?_
    · replace h := hoZ8
      obtain ⟨rZ6, hrZ6, h⟩ := bind_s h
      simp only [VS1, VS2, VS3, VS4, VS5, VS6, VT1, VT2, finM_ret, finM_nrm, decide_true, decide_false, List.nodup_nil, List.nodup_cons, oks_p, oks_m, Nat.reduceSub, Nat.reduceMul, ↓reduceIte, reduceCtorEq, Nat.reduceEqDiff, Nat.reduceAdd, Nat.reduceLeDiff, Int.reduceLE, cZ1]
      refine call_s (by simp only [VS1, VS2, VS3, VS4, VS5, VS6, VT1, VT2, finM_ret, finM_nrm, decide_true, decide_false, List.nodup_nil, List.nodup_cons, oks_p, oks_m, Nat.reduceSub, Nat.reduceMul, ↓reduceIte, reduceCtorEq, Nat.reduceEqDiff, Nat.reduceAdd, Nat.reduceLeDiff, Int.reduceLE, cZ1]; exact w_laws_eqIntS _ _ hrZ6 ) ?_
      simp only [VA, VF1, ↓reduceIte, Nat.reduceEqDiff, Nat.reduceAdd, Nat.reduceMul, Nat.reduceSub, Nat.reduceLeDiff]
      refine Or.elim (bt (!rZ6)) (fun cZ7 => ?_) (fun cZ7 => ?_)
      · replace h := cond_t cZ7 h
        cases h
        try simp only [VS1, VS2, VS3, VS4, VS5, VS6, VT1, VT2, finM_ret, finM_nrm, decide_true, decide_false, List.nodup_nil, List.nodup_cons, oks_p, oks_m, Nat.reduceSub, Nat.reduceMul, ↓reduceIte, reduceCtorEq, Nat.reduceEqDiff, Nat.reduceAdd, Nat.reduceLeDiff, Int.reduceLE, cZ1, cZ7]
        all_goals simp [qL, qJ, qJ0, qS, qX, qR, qM, Shp, sub, tupd, VS1, VS2, VS3, VS4, VS5, VS6, VT1, VT2]
      · replace h := cond_f cZ7 h
        cases h
        try simp only [VS1, VS2, VS3, VS4, VS5, VS6, VT1, VT2, finM_ret, finM_nrm, decide_true, decide_false, List.nodup_nil, List.nodup_cons, oks_p, oks_m, Nat.reduceSub, Nat.reduceMul, ↓reduceIte, reduceCtorEq, Nat.reduceEqDiff, Nat.reduceAdd, Nat.reduceLeDiff, Int.reduceLE, cZ1, cZ7]
        all_goals simp [qL, qJ, qJ0, qS, qX, qR, qM, Shp, sub, tupd, VS1, VS2, VS3, VS4, VS5, VS6, VT1, VT2]
    · simp only [A7R1]
      refine Or.elim (bt (oZ8)) (fun cZ9 => ?_) (fun cZ9 => ?_)
      · replace h := cond_t cZ9 h
        cases h
        try simp only [VS1, VS2, VS3, VS4, VS5, VS6, VT1, VT2, finM_ret, finM_nrm, decide_true, decide_false, List.nodup_nil, List.nodup_cons, oks_p, oks_m, Nat.reduceSub, Nat.reduceMul, ↓reduceIte, reduceCtorEq, Nat.reduceEqDiff, Nat.reduceAdd, Nat.reduceLeDiff, Int.reduceLE, cZ1, cZ9]
        all_goals simp [qL, qJ, qJ0, qS, qX, qR, qM, Shp, sub, tupd, VS1, VS2, VS3, VS4, VS5, VS6, VT1, VT2, V7]
      · replace h := cond_f cZ9 h
        obtain ⟨rZ10, hrZ10, h⟩ := bind_s h
        simp only [VS1, VS2, VS3, VS4, VS5, VS6, VT1, VT2, finM_ret, finM_nrm, decide_true, decide_false, List.nodup_nil, List.nodup_cons, oks_p, oks_m, Nat.reduceSub, Nat.reduceMul, ↓reduceIte, reduceCtorEq, Nat.reduceEqDiff, Nat.reduceAdd, Nat.reduceLeDiff, Int.reduceLE, cZ1, cZ9]
        refine call_u (by simp only [VS1, VS2, VS3, VS4, VS5, VS6, VT1, VT2, finM_ret, finM_nrm, decide_true, decide_false, List.nodup_nil, List.nodup_cons, oks_p, oks_m, Nat.reduceSub, Nat.reduceMul, ↓reduceIte, reduceCtorEq, Nat.reduceEqDiff, Nat.reduceAdd, Nat.reduceLeDiff, Int.reduceLE, cZ1, cZ9]; exact w_laws_toIntS _ hrZ10 ) (by simp [AV.allU, allUL, allUL_iff, VT1, VT2]) (by simp only [VS1, VS2, VS3, VS4, VS5, VS6, VT1, VT2, finM_ret, finM_nrm, decide_true, decide_false, List.nodup_nil, List.nodup_cons, oks_p, oks_m, Nat.reduceSub, Nat.reduceMul, ↓reduceIte, reduceCtorEq, Nat.reduceEqDiff, Nat.reduceAdd, Nat.reduceLeDiff, Int.reduceLE, Nat.reduceLT]) ?_
        simp only [VA, VF1, ↓reduceIte, Nat.reduceEqDiff, Nat.reduceAdd, Nat.reduceMul, Nat.reduceSub, Nat.reduceLeDiff]
        obtain ⟨rZ11, hrZ11, h⟩ := bind_s h
        simp only [VS1, VS2, VS3, VS4, VS5, VS6, VT1, VT2, finM_ret, finM_nrm, decide_true, decide_false, List.nodup_nil, List.nodup_cons, oks_p, oks_m, Nat.reduceSub, Nat.reduceMul, ↓reduceIte, reduceCtorEq, Nat.reduceEqDiff, Nat.reduceAdd, Nat.reduceLeDiff, Int.reduceLE, cZ1, cZ9]
        refine call_s (by simp only [VS1, VS2, VS3, VS4, VS5, VS6, VT1, VT2, finM_ret, finM_nrm, decide_true, decide_false, List.nodup_nil, List.nodup_cons, oks_p, oks_m, Nat.reduceSub, Nat.reduceMul, ↓reduceIte, reduceCtorEq, Nat.reduceEqDiff, Nat.reduceAdd, Nat.reduceLeDiff, Int.reduceLE, cZ1, cZ9]; exact w_laws_eqIntS _ _ hrZ11 ) ?_
        simp only [VA, VF1, ↓reduceIte, Nat.reduceEqDiff, Nat.reduceAdd, Nat.reduceMul, Nat.reduceSub, Nat.reduceLeDiff]
        refine Or.elim (bt (!rZ11)) (fun cZ12 => ?_) (fun cZ12 => ?_)
        · replace h := cond_t cZ12 h
          cases h
          try simp only [VS1, VS2, VS3, VS4, VS5, VS6, VT1, VT2, finM_ret, finM_nrm, decide_true, decide_false, List.nodup_nil, List.nodup_cons, oks_p, oks_m, Nat.reduceSub, Nat.reduceMul, ↓reduceIte, reduceCtorEq, Nat.reduceEqDiff, Nat.reduceAdd, Nat.reduceLeDiff, Int.reduceLE, cZ1, cZ9, cZ12]
          all_goals simp [qL, qJ, qJ0, qS, qX, qR, qM, Shp, sub, tupd, VS1, VS2, VS3, VS4, VS5, VS6, VT1, VT2, V7]
        · replace h := cond_f cZ12 h
          obtain ⟨rZ13, hrZ13, h⟩ := bind_s h
          simp only [VS1, VS2, VS3, VS4, VS5, VS6, VT1, VT2, finM_ret, finM_nrm, decide_true, decide_false, List.nodup_nil, List.nodup_cons, oks_p, oks_m, Nat.reduceSub, Nat.reduceMul, ↓reduceIte, reduceCtorEq, Nat.reduceEqDiff, Nat.reduceAdd, Nat.reduceLeDiff, Int.reduceLE, cZ1, cZ9, cZ12]
          refine call_m (by simp only [VS1, VS2, VS3, VS4, VS5, VS6, VT1, VT2, finM_ret, finM_nrm, decide_true, decide_false, List.nodup_nil, List.nodup_cons, oks_p, oks_m, Nat.reduceSub, Nat.reduceMul, ↓reduceIte, reduceCtorEq, Nat.reduceEqDiff, Nat.reduceAdd, Nat.reduceLeDiff, Int.reduceLE, cZ1, cZ9, cZ12]; exact w_laws_markIntSM1 _ _ hrZ13) (by simp [VS1, VS2, VS3, VS4, VS5, VS6, VT1, VT2]) (by first | exact nm_ok [1000000000] rfl (by decide +kernel) | simp [VS1, VS2, VS3, VS4, VS5, VS6, VT1, VT2]) ?_
          simp only [VA, VF1, ↓reduceIte, Nat.reduceEqDiff, Nat.reduceAdd, Nat.reduceMul, Nat.reduceSub, Nat.reduceLeDiff]
          obtain ⟨oZ17, hoZ17, h⟩ := bind_s h
          try simp only [VS1, VS2, VS3, VS4, VS5, VS6, VT1, VT2, finM_ret, finM_nrm, decide_true, decide_false, List.nodup_nil, List.nodup_cons, oks_p, oks_m, Nat.reduceSub, Nat.reduceMul, ↓reduceIte, reduceCtorEq, Nat.reduceEqDiff, Nat.reduceAdd, Nat.reduceLeDiff, Int.reduceLE, cZ1, cZ9, cZ12]
          refine join_rule0 (sh := (fun v => ⟨[(0, .lst .o 1 (aRatesZ0.map AV.i)), (1, .i aCapacityZ0), (5, .sl 5 0 rZ3.1.length), (6, .b rZ3.2), (8, .sl 8 0 rZ5.1.length), (62, .b v)], [(5, .arr 1 (rZ3.1.map AV.i)), (8, .arr 1 (rZ5.1.map AV.i))]⟩)) (s := oZ17) ?_ ?_
          · replace h := hoZ17
            refine Or.elim (bt (decide (rZ13.1 < 0))) (fun cZ14 => ?_) (fun cZ14 => ?_)
            · replace h := cond_t cZ14 h
              cases h
              try simp only [VS1, VS2, VS3, VS4, VS5, VS6, VT1, VT2, finM_ret, finM_nrm, decide_true, decide_false, List.nodup_nil, List.nodup_cons, oks_p, oks_m, Nat.reduceSub, Nat.reduceMul, ↓reduceIte, reduceCtorEq, Nat.reduceEqDiff, Nat.reduceAdd, Nat.reduceLeDiff, Int.reduceLE, cZ1, cZ9, cZ12, cZ14]
              all_goals simp [qL, qJ, qJ0, qS, qX, qR, qM, Shp, sub, tupd, VS1, VS2, VS3, VS4, VS5, VS6, VT1, VT2]
            · replace h := cond_f cZ14 h
              obtain ⟨rZ15, hrZ15, h⟩ := bind_s h
              simp only [VS1, VS2, VS3, VS4, VS5, VS6, VT1, VT2, finM_ret, finM_nrm, decide_true, decide_false, List.nodup_nil, List.nodup_cons, oks_p, oks_m, Nat.reduceSub, Nat.reduceMul, ↓reduceIte, reduceCtorEq, Nat.reduceEqDiff, Nat.reduceAdd, Nat.reduceLeDiff, Int.reduceLE, cZ1, cZ9, cZ12, cZ14]
              refine call_s (by simp only [VS1, VS2, VS3, VS4, VS5, VS6, VT1, VT2, finM_ret, finM_nrm, decide_true, decide_false, List.nodup_nil, List.nodup_cons, oks_p, oks_m, Nat.reduceSub, Nat.reduceMul, ↓reduceIte, reduceCtorEq, Nat.reduceEqDiff, Nat.reduceAdd, Nat.reduceLeDiff, Int.reduceLE, cZ1, cZ9, cZ12, cZ14]; exact w_laws_eqIntS _ _ hrZ15 ) ?_
              simp only [VA, VF1, ↓reduceIte, Nat.reduceEqDiff, Nat.reduceAdd, Nat.reduceMul, Nat.reduceSub, Nat.reduceLeDiff]
              refine Or.elim (bt (!rZ15)) (fun cZ16 => ?_) (fun cZ16 => ?_)
              · replace h := cond_t cZ16 h
                cases h
                try simp only [VS1, VS2, VS3, VS4, VS5, VS6, VT1, VT2, finM_ret, finM_nrm, decide_true, decide_false, List.nodup_nil, List.nodup_cons, oks_p, oks_m, Nat.reduceSub, Nat.reduceMul, ↓reduceIte, reduceCtorEq, Nat.reduceEqDiff, Nat.reduceAdd, Nat.reduceLeDiff, Int.reduceLE, cZ1, cZ9, cZ12, cZ14, cZ16]
                all_goals simp [qL, qJ, qJ0, qS, qX, qR, qM, Shp, sub, tupd, VS1, VS2, VS3, VS4, VS5, VS6, VT1, VT2]
              · replace h := cond_f cZ16 h
                cases h
                try simp only [VS1, VS2, VS3, VS4, VS5, VS6, VT1, VT2, finM_ret, finM_nrm, decide_true, decide_false, List.nodup_nil, List.nodup_cons, oks_p, oks_m, Nat.reduceSub, Nat.reduceMul, ↓reduceIte, reduceCtorEq, Nat.reduceEqDiff, Nat.reduceAdd, Nat.reduceLeDiff, Int.reduceLE, cZ1, cZ9, cZ12, cZ14, cZ16]
                all_goals simp [qL, qJ, qJ0, qS, qX, qR, qM, Shp, sub, tupd, VS1, VS2, VS3, VS4, VS5, VS6, VT1, VT2]
          · simp only [A7R2]
            refine Or.elim (bt (oZ17)) (fun cZ18 => ?_) (fun cZ18 => ?_)
            · replace h := cond_t cZ18 h
              cases h
              try simp only [VS1, VS2, VS3, VS4, VS5, VS6, VT1, VT2, finM_ret, finM_nrm, decide_true, decide_false, List.nodup_nil, List.nodup_cons, oks_p, oks_m, Nat.reduceSub, Nat.reduceMul, ↓reduceIte, reduceCtorEq, Nat.reduceEqDiff, Nat.reduceAdd, Nat.reduceLeDiff, Int.reduceLE, cZ1, cZ9, cZ12, cZ18]
              all_goals simp [qL, qJ, qJ0, qS, qX, qR, qM, Shp, sub, tupd, VS1, VS2, VS3, VS4, VS5, VS6, VT1, VT2, V7]
            · replace h := cond_f cZ18 h
              obtain ⟨rZ19, hrZ19, h⟩ := bind_s h
              simp only [VS1, VS2, VS3, VS4, VS5, VS6, VT1, VT2, finM_ret, finM_nrm, decide_true, decide_false, List.nodup_nil, List.nodup_cons, oks_p, oks_m, Nat.reduceSub, Nat.reduceMul, ↓reduceIte, reduceCtorEq, Nat.reduceEqDiff, Nat.reduceAdd, Nat.reduceLeDiff, Int.reduceLE, cZ1, cZ9, cZ12, cZ18]
              refine call_m (by simp only [VS1, VS2, VS3, VS4, VS5, VS6, VT1, VT2, finM_ret, finM_nrm, decide_true, decide_false, List.nodup_nil, List.nodup_cons, oks_p, oks_m, Nat.reduceSub, Nat.reduceMul, ↓reduceIte, reduceCtorEq, Nat.reduceEqDiff, Nat.reduceAdd, Nat.reduceLeDiff, Int.reduceLE, cZ1, cZ9, cZ12, cZ18]; exact w_laws_markIntSM1 _ _ hrZ19) (by simp [VS1, VS2, VS3, VS4, VS5, VS6, VT1, VT2]) (by first | exact nm_ok [1000000000] rfl (by decide +kernel) | simp [VS1, VS2, VS3, VS4, VS5, VS6, VT1, VT2]) ?_
              simp only [VA, VF1, ↓reduceIte, Nat.reduceEqDiff, Nat.reduceAdd, Nat.reduceMul, Nat.reduceSub, Nat.reduceLeDiff]
              obtain ⟨lZ20, hlZ20, h⟩ := bnd_s h
              have eZ21 : sub (rZ19.2.map AV.i) 0 rZ5.1.length = lZ20.map AV.i := by rw [sub_mapT, hlZ20]
              obtain ⟨rZ22, hrZ22, h⟩ := bind_s h
              simp only [VS1, VS2, VS3, VS4, VS5, VS6, VT1, VT2, finM_ret, finM_nrm, decide_true, decide_false, List.nodup_nil, List.nodup_cons, oks_p, oks_m, Nat.reduceSub, Nat.reduceMul, ↓reduceIte, reduceCtorEq, Nat.reduceEqDiff, Nat.reduceAdd, Nat.reduceLeDiff, Int.reduceLE, cZ1, cZ9, cZ12, cZ18, eZ21]
              refine call_s (by simp only [VS1, VS2, VS3, VS4, VS5, VS6, VT1, VT2, finM_ret, finM_nrm, decide_true, decide_false, List.nodup_nil, List.nodup_cons, oks_p, oks_m, Nat.reduceSub, Nat.reduceMul, ↓reduceIte, reduceCtorEq, Nat.reduceEqDiff, Nat.reduceAdd, Nat.reduceLeDiff, Int.reduceLE, cZ1, cZ9, cZ12, cZ18, eZ21]; exact w_laws_heldIntS _ _ hrZ22 ) ?_
              simp only [VA, VF1, ↓reduceIte, Nat.reduceEqDiff, Nat.reduceAdd, Nat.reduceMul, Nat.reduceSub, Nat.reduceLeDiff]
              refine Or.elim (bt (decide (rZ22 < 0))) (fun cZ23 => ?_) (fun cZ23 => ?_)
              · replace h := cond_t cZ23 h
                cases h
                try simp only [VS1, VS2, VS3, VS4, VS5, VS6, VT1, VT2, finM_ret, finM_nrm, decide_true, decide_false, List.nodup_nil, List.nodup_cons, oks_p, oks_m, Nat.reduceSub, Nat.reduceMul, ↓reduceIte, reduceCtorEq, Nat.reduceEqDiff, Nat.reduceAdd, Nat.reduceLeDiff, Int.reduceLE, cZ1, cZ9, cZ12, cZ18, eZ21, cZ23]
                all_goals simp [qL, qJ, qJ0, qS, qX, qR, qM, Shp, sub, tupd, VS1, VS2, VS3, VS4, VS5, VS6, VT1, VT2, V7]
              · replace h := cond_f cZ23 h
                refine Or.elim (bt (rZ22 != rZ19.1)) (fun cZ24 => ?_) (fun cZ24 => ?_)
                · replace h := cond_t cZ24 h
                  cases h
                  try simp only [VS1, VS2, VS3, VS4, VS5, VS6, VT1, VT2, finM_ret, finM_nrm, decide_true, decide_false, List.nodup_nil, List.nodup_cons, oks_p, oks_m, Nat.reduceSub, Nat.reduceMul, ↓reduceIte, reduceCtorEq, Nat.reduceEqDiff, Nat.reduceAdd, Nat.reduceLeDiff, Int.reduceLE, cZ1, cZ9, cZ12, cZ18, eZ21, cZ23, cZ24]
                  all_goals simp [qL, qJ, qJ0, qS, qX, qR, qM, Shp, sub, tupd, VS1, VS2, VS3, VS4, VS5, VS6, VT1, VT2, V7]
                · replace h := cond_f cZ24 h
                  obtain ⟨rZ25, hrZ25, h⟩ := bind_s h
                  simp only [VS1, VS2, VS3, VS4, VS5, VS6, VT1, VT2, finM_ret, finM_nrm, decide_true, decide_false, List.nodup_nil, List.nodup_cons, oks_p, oks_m, Nat.reduceSub, Nat.reduceMul, ↓reduceIte, reduceCtorEq, Nat.reduceEqDiff, Nat.reduceAdd, Nat.reduceLeDiff, Int.reduceLE, cZ1, cZ9, cZ12, cZ18, eZ21, cZ23, cZ24]
                  refine call_u (by simp only [VS1, VS2, VS3, VS4, VS5, VS6, VT1, VT2, finM_ret, finM_nrm, decide_true, decide_false, List.nodup_nil, List.nodup_cons, oks_p, oks_m, Nat.reduceSub, Nat.reduceMul, ↓reduceIte, reduceCtorEq, Nat.reduceEqDiff, Nat.reduceAdd, Nat.reduceLeDiff, Int.reduceLE, cZ1, cZ9, cZ12, cZ18, eZ21, cZ23, cZ24]; exact w_laws_toIntS _ hrZ25 ) (by simp [AV.allU, allUL, allUL_iff, VT1, VT2]) (by simp only [VS1, VS2, VS3, VS4, VS5, VS6, VT1, VT2, finM_ret, finM_nrm, decide_true, decide_false, List.nodup_nil, List.nodup_cons, oks_p, oks_m, Nat.reduceSub, Nat.reduceMul, ↓reduceIte, reduceCtorEq, Nat.reduceEqDiff, Nat.reduceAdd, Nat.reduceLeDiff, Int.reduceLE, Nat.reduceLT]) ?_
                  simp only [VA, VF1, ↓reduceIte, Nat.reduceEqDiff, Nat.reduceAdd, Nat.reduceMul, Nat.reduceSub, Nat.reduceLeDiff]
                  obtain ⟨rZ26, hrZ26, h⟩ := bind_s h
                  simp only [VS1, VS2, VS3, VS4, VS5, VS6, VT1, VT2, finM_ret, finM_nrm, decide_true, decide_false, List.nodup_nil, List.nodup_cons, oks_p, oks_m, Nat.reduceSub, Nat.reduceMul, ↓reduceIte, reduceCtorEq, Nat.reduceEqDiff, Nat.reduceAdd, Nat.reduceLeDiff, Int.reduceLE, cZ1, cZ9, cZ12, cZ18, eZ21, cZ23, cZ24]
                  refine call_u (by simp only [VS1, VS2, VS3, VS4, VS5, VS6, VT1, VT2, finM_ret, finM_nrm, decide_true, decide_false, List.nodup_nil, List.nodup_cons, oks_p, oks_m, Nat.reduceSub, Nat.reduceMul, ↓reduceIte, reduceCtorEq, Nat.reduceEqDiff, Nat.reduceAdd, Nat.reduceLeDiff, Int.reduceLE, cZ1, cZ9, cZ12, cZ18, eZ21, cZ23, cZ24]; exact w_impl_PackDescending _ _ hrZ26 ) (by simp [AV.allU, allUL, allUL_iff, VT1, VT2]) (by simp only [VS1, VS2, VS3, VS4, VS5, VS6, VT1, VT2, finM_ret, finM_nrm, decide_true, decide_false, List.nodup_nil, List.nodup_cons, oks_p, oks_m, Nat.reduceSub, Nat.reduceMul, ↓reduceIte, reduceCtorEq, Nat.reduceEqDiff, Nat.reduceAdd, Nat.reduceLeDiff, Int.reduceLE, Nat.reduceLT]) ?_
                  simp only [VA, VF1, ↓reduceIte, Nat.reduceEqDiff, Nat.reduceAdd, Nat.reduceMul, Nat.reduceSub, Nat.reduceLeDiff]
                  obtain ⟨oZ29, hoZ29, h⟩ := bind_s h
                  try simp only [VS1, VS2, VS3, VS4, VS5, VS6, VT1, VT2, finM_ret, finM_nrm, decide_true, decide_false, List.nodup_nil, List.nodup_cons, oks_p, oks_m, Nat.reduceSub, Nat.reduceMul, ↓reduceIte, reduceCtorEq, Nat.reduceEqDiff, Nat.reduceAdd, Nat.reduceLeDiff, Int.reduceLE, cZ1, cZ9, cZ12, cZ18, eZ21, cZ23, cZ24]
                  refine join_rule0 (sh := (fun v => ⟨[(8, .sl 8 0 rZ5.1.length), (11, .i rZ19.1), (89, .b v)], [(8, .arr 1 (rZ19.2.map AV.i))]⟩)) (s := oZ29) ?_ ?_
                  · replace h := hoZ29
                    obtain ⟨rZ27, hrZ27, h⟩ := bind_s h
                    simp only [VS1, VS2, VS3, VS4, VS5, VS6, VT1, VT2, finM_ret, finM_nrm, decide_true, decide_false, List.nodup_nil, List.nodup_cons, oks_p, oks_m, Nat.reduceSub, Nat.reduceMul, ↓reduceIte, reduceCtorEq, Nat.reduceEqDiff, Nat.reduceAdd, Nat.reduceLeDiff, Int.reduceLE, cZ1, cZ9, cZ12, cZ18, eZ21, cZ23, cZ24]
                    refine call_s (by simp only [VS1, VS2, VS3, VS4, VS5, VS6, VT1, VT2, finM_ret, finM_nrm, decide_true, decide_false, List.nodup_nil, List.nodup_cons, oks_p, oks_m, Nat.reduceSub, Nat.reduceMul, ↓reduceIte, reduceCtorEq, Nat.reduceEqDiff, Nat.reduceAdd, Nat.reduceLeDiff, Int.reduceLE, cZ1, cZ9, cZ12, cZ18, eZ21, cZ23, cZ24]; exact w_laws_eqIntS _ _ hrZ27 ) ?_
                    simp only [VA, VF1, ↓reduceIte, Nat.reduceEqDiff, Nat.reduceAdd, Nat.reduceMul, Nat.reduceSub, Nat.reduceLeDiff]
                    refine Or.elim (bt (!rZ27)) (fun cZ28 => ?_) (fun cZ28 => ?_)
                    · replace h := cond_t cZ28 h
                      cases h
                      try simp only [VS1, VS2, VS3, VS4, VS5, VS6, VT1, VT2, finM_ret, finM_nrm, decide_true, decide_false, List.nodup_nil, List.nodup_cons, oks_p, oks_m, Nat.reduceSub, Nat.reduceMul, ↓reduceIte, reduceCtorEq, Nat.reduceEqDiff, Nat.reduceAdd, Nat.reduceLeDiff, Int.reduceLE, cZ1, cZ9, cZ12, cZ18, eZ21, cZ23, cZ24, cZ28]
                      all_goals simp [qL, qJ, qJ0, qS, qX, qR, qM, Shp, sub, tupd, VS1, VS2, VS3, VS4, VS5, VS6, VT1, VT2]
                    · replace h := cond_f cZ28 h
                      cases h
                      try simp only [VS1, VS2, VS3, VS4, VS5, VS6, VT1, VT2, finM_ret, finM_nrm, decide_true, decide_false, List.nodup_nil, List.nodup_cons, oks_p, oks_m, Nat.reduceSub, Nat.reduceMul, ↓reduceIte, reduceCtorEq, Nat.reduceEqDiff, Nat.reduceAdd, Nat.reduceLeDiff, Int.reduceLE, cZ1, cZ9, cZ12, cZ18, eZ21, cZ23, cZ24, cZ28]
                      all_goals simp [qL, qJ, qJ0, qS, qX, qR, qM, Shp, sub, tupd, VS1, VS2, VS3, VS4, VS5, VS6, VT1, VT2]
                  · simp only [A7R3]
                    refine Or.elim (bt (oZ29)) (fun cZ30 => ?_) (fun cZ30 => ?_)
                    · replace h := cond_t cZ30 h
                      cases h
                      try simp only [VS1, VS2, VS3, VS4, VS5, VS6, VT1, VT2, finM_ret, finM_nrm, decide_true, decide_false, List.nodup_nil, List.nodup_cons, oks_p, oks_m, Nat.reduceSub, Nat.reduceMul, ↓reduceIte, reduceCtorEq, Nat.reduceEqDiff, Nat.reduceAdd, Nat.reduceLeDiff, Int.reduceLE, cZ1, cZ9, cZ12, cZ18, eZ21, cZ23, cZ24, cZ30]
                      all_goals simp [qL, qJ, qJ0, qS, qX, qR, qM, Shp, sub, tupd, VS1, VS2, VS3, VS4, VS5, VS6, VT1, VT2, V7]
                    · replace h := cond_f cZ30 h
                      obtain ⟨rZ31, hrZ31, h⟩ := bind_s h
                      simp only [VS1, VS2, VS3, VS4, VS5, VS6, VT1, VT2, finM_ret, finM_nrm, decide_true, decide_false, List.nodup_nil, List.nodup_cons, oks_p, oks_m, Nat.reduceSub, Nat.reduceMul, ↓reduceIte, reduceCtorEq, Nat.reduceEqDiff, Nat.reduceAdd, Nat.reduceLeDiff, Int.reduceLE, cZ1, cZ9, cZ12, cZ18, eZ21, cZ23, cZ24, cZ30]
                      refine call_s (by simp only [VS1, VS2, VS3, VS4, VS5, VS6, VT1, VT2, finM_ret, finM_nrm, decide_true, decide_false, List.nodup_nil, List.nodup_cons, oks_p, oks_m, Nat.reduceSub, Nat.reduceMul, ↓reduceIte, reduceCtorEq, Nat.reduceEqDiff, Nat.reduceAdd, Nat.reduceLeDiff, Int.reduceLE, cZ1, cZ9, cZ12, cZ18, eZ21, cZ23, cZ24, cZ30]; exact w_laws_heldIntS _ _ hrZ31 ) ?_
                      simp only [VA, VF1, ↓reduceIte, Nat.reduceEqDiff, Nat.reduceAdd, Nat.reduceMul, Nat.reduceSub, Nat.reduceLeDiff]
                      refine Or.elim (bt (decide (rZ31 < 0))) (fun cZ32 => ?_) (fun cZ32 => ?_)
                      · replace h := cond_t cZ32 h
                        cases h
                        try simp only [VS1, VS2, VS3, VS4, VS5, VS6, VT1, VT2, finM_ret, finM_nrm, decide_true, decide_false, List.nodup_nil, List.nodup_cons, oks_p, oks_m, Nat.reduceSub, Nat.reduceMul, ↓reduceIte, reduceCtorEq, Nat.reduceEqDiff, Nat.reduceAdd, Nat.reduceLeDiff, Int.reduceLE, cZ1, cZ9, cZ12, cZ18, eZ21, cZ23, cZ24, cZ30, cZ32]
                        all_goals simp [qL, qJ, qJ0, qS, qX, qR, qM, Shp, sub, tupd, VS1, VS2, VS3, VS4, VS5, VS6, VT1, VT2, V7]
                      · replace h := cond_f cZ32 h
                        refine Or.elim (bt (rZ31 != rZ19.1)) (fun cZ33 => ?_) (fun cZ33 => ?_)
                        · replace h := cond_t cZ33 h
                          cases h
                          try simp only [VS1, VS2, VS3, VS4, VS5, VS6, VT1, VT2, finM_ret, finM_nrm, decide_true, decide_false, List.nodup_nil, List.nodup_cons, oks_p, oks_m, Nat.reduceSub, Nat.reduceMul, ↓reduceIte, reduceCtorEq, Nat.reduceEqDiff, Nat.reduceAdd, Nat.reduceLeDiff, Int.reduceLE, cZ1, cZ9, cZ12, cZ18, eZ21, cZ23, cZ24, cZ30, cZ32, cZ33]
                          all_goals simp [qL, qJ, qJ0, qS, qX, qR, qM, Shp, sub, tupd, VS1, VS2, VS3, VS4, VS5, VS6, VT1, VT2, V7]
                        · replace h := cond_f cZ33 h
                          cases h
                          try simp only [VS1, VS2, VS3, VS4, VS5, VS6, VT1, VT2, finM_ret, finM_nrm, decide_true, decide_false, List.nodup_nil, List.nodup_cons, oks_p, oks_m, Nat.reduceSub, Nat.reduceMul, ↓reduceIte, reduceCtorEq, Nat.reduceEqDiff, Nat.reduceAdd, Nat.reduceLeDiff, Int.reduceLE, cZ1, cZ9, cZ12, cZ18, eZ21, cZ23, cZ24, cZ30, cZ32, cZ33]
                          all_goals simp [qL, qJ, qJ0, qS, qX, qR, qM, Shp, sub, tupd, VS1, VS2, VS3, VS4, VS5, VS6, VT1, VT2, V7]
end Vs

