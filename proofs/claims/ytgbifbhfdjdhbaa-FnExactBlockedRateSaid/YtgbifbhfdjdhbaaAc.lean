/-
  Part of the proof that the law FnExactBlockedRate returns true at every input; no condition beside the row's own.
-/
import Derived.Test.YtgbifbhfdjdhbaaAb
set_option linter.unusedSimpArgs false
set_option linter.unusedVariables false
set_option maxHeartbeats 1000000
namespace Vs
open Go Go.Proofs
attribute [local irreducible] AWP stOps eff awpC callA callM
theorem w_impl_leadsL1 (linksZ0 : List TLink) (freeZ0 : List Int) (atZ0 : Int) (toZ0 : Int) (rateZ0 : Int) (countZ0 : Int) (seenZ0 : Int) (rcZ0 : List TLink → List Int → Int → Int → Int → Int → Int → Option (List Int × Bool)) (ihZ0 : ∀ (linksZ0 : List TLink) (freeZ0 : List Int) (atZ0 : Int) (toZ0 : Int) (rateZ0 : Int) (countZ0 : Int) (seenZ0 : Int) {r : List Int × Bool}, rcZ0 linksZ0 freeZ0 atZ0 toZ0 rateZ0 countZ0 seenZ0 = some r → Ok Try.prog 103 [.lst .o 3 (linksZ0.map (e_TLink .o)), .lst .o 1 (freeZ0.map AV.i), .i atZ0, .i toZ0, .i rateZ0, .i countZ0, .i seenZ0] ((fun r => .tup [.lst .u 1 (r.1.map AV.i), .b r.2]) r)) (sZ3 : Int) (o : Int ⊕ (Unit ⊕ (List Int × Bool))) (h : M_impl_leadsL1 linksZ0 freeZ0 atZ0 toZ0 rateZ0 countZ0 seenZ0 rcZ0 sZ3 = some o) : AWP (OkS Try.prog) A103L2 (qL [0, 1, 2, 3, 4, 5, 6, 27, 28, 29] [] (S_impl_leadsL1 linksZ0 freeZ0 atZ0 toZ0 rateZ0 countZ0 seenZ0) (qS (qX 0 [] [] (SX_impl_leadsL1)) (qR V103 (fun r => .tup [.lst .u 1 (r.1.map AV.i), .b r.2]))) o) (S_impl_leadsL1 linksZ0 freeZ0 atZ0 toZ0 rateZ0 countZ0 seenZ0 sZ3) := by
  unfold M_impl_leadsL1 at h
  simp only [S_impl_leadsL1, A103L2]
  refine Or.elim (bt (decide (sZ3 < (linksZ0.length : Int)))) (fun cZ4 => ?_) (fun cZ4 => ?_)
  · replace h := cond_t cZ4 h
    obtain ⟨yZ5, hyZ5, h⟩ := bind_s h
    obtain ⟨hyZ5a, hyZ5b⟩ := geti_s hyZ5
    obtain ⟨rZ6, hrZ6, h⟩ := bind_s h
    simp only [VS1, VS2, VS3, VS4, VS5, VS6, VT1, VT2, finM_ret, finM_nrm, decide_true, decide_false, List.nodup_nil, List.nodup_cons, oks_p, oks_m, Nat.reduceSub, Nat.reduceMul, ↓reduceIte, reduceCtorEq, Nat.reduceEqDiff, Nat.reduceAdd, Nat.reduceLeDiff, Int.reduceLE, cZ4, hyZ5a, hyZ5b]
    refine call_s (by simp only [VS1, VS2, VS3, VS4, VS5, VS6, VT1, VT2, finM_ret, finM_nrm, decide_true, decide_false, List.nodup_nil, List.nodup_cons, oks_p, oks_m, Nat.reduceSub, Nat.reduceMul, ↓reduceIte, reduceCtorEq, Nat.reduceEqDiff, Nat.reduceAdd, Nat.reduceLeDiff, Int.reduceLE, cZ4, hyZ5a, hyZ5b]; exact w_impl_otherEnd _ _ hrZ6 ) ?_
    simp only [VA, VF1, ↓reduceIte, Nat.reduceEqDiff, Nat.reduceAdd, Nat.reduceMul, Nat.reduceSub, Nat.reduceLeDiff]
    obtain ⟨oZ11, hoZ11, h⟩ := bind_s h
    try simp only [VS1, VS2, VS3, VS4, VS5, VS6, VT1, VT2, finM_ret, finM_nrm, decide_true, decide_false, List.nodup_nil, List.nodup_cons, oks_p, oks_m, Nat.reduceSub, Nat.reduceMul, ↓reduceIte, reduceCtorEq, Nat.reduceEqDiff, Nat.reduceAdd, Nat.reduceLeDiff, Int.reduceLE, cZ4, hyZ5a, hyZ5b]
    refine join_rule0 (sh := (fun v => ⟨[(0, .lst .o 3 (linksZ0.map (e_TLink .o))), (1, .lst .o 1 (freeZ0.map AV.i)), (2, .i atZ0), (3, .i toZ0), (4, .i rateZ0), (5, .i countZ0), (6, .i seenZ0), (16, .i sZ3), (18, .i rZ6), (27, .lst .o 3 (linksZ0.map (e_TLink .o))), (28, .i (linksZ0.length : Int)), (29, .i sZ3), (57, .b v)], []⟩)) (s := oZ11) ?_ ?_
    · replace h := hoZ11
      refine Or.elim (bt (decide (rZ6 < 0))) (fun cZ7 => ?_) (fun cZ7 => ?_)
      · replace h := cond_t cZ7 h
        cases h
        try simp only [VS1, VS2, VS3, VS4, VS5, VS6, VT1, VT2, finM_ret, finM_nrm, decide_true, decide_false, List.nodup_nil, List.nodup_cons, oks_p, oks_m, Nat.reduceSub, Nat.reduceMul, ↓reduceIte, reduceCtorEq, Nat.reduceEqDiff, Nat.reduceAdd, Nat.reduceLeDiff, Int.reduceLE, cZ4, hyZ5a, hyZ5b, cZ7]
        all_goals simp [qL, qJ, qJ0, qS, qX, qR, qM, Shp, sub, VS1, VS2, VS3, VS4, VS5, VS6, VT1, VT2]
      · replace h := cond_f cZ7 h
        obtain ⟨yZ8, hyZ8, h⟩ := bind_s h
        obtain ⟨hyZ8a, hyZ8b⟩ := geti_s hyZ8
        refine Or.elim (bt (decide (yZ8 < rateZ0))) (fun cZ9 => ?_) (fun cZ9 => ?_)
        · replace h := cond_t cZ9 h
          cases h
          try simp only [VS1, VS2, VS3, VS4, VS5, VS6, VT1, VT2, finM_ret, finM_nrm, decide_true, decide_false, List.nodup_nil, List.nodup_cons, oks_p, oks_m, Nat.reduceSub, Nat.reduceMul, ↓reduceIte, reduceCtorEq, Nat.reduceEqDiff, Nat.reduceAdd, Nat.reduceLeDiff, Int.reduceLE, cZ4, hyZ5a, hyZ5b, cZ7, hyZ8a, hyZ8b, cZ9]
          all_goals simp [qL, qJ, qJ0, qS, qX, qR, qM, Shp, sub, VS1, VS2, VS3, VS4, VS5, VS6, VT1, VT2]
        · replace h := cond_f cZ9 h
          obtain ⟨uZ10, huZ10, h⟩ := bind_s h
          have huZ10g := grd_s huZ10
          cases h
          try simp only [VS1, VS2, VS3, VS4, VS5, VS6, VT1, VT2, finM_ret, finM_nrm, decide_true, decide_false, List.nodup_nil, List.nodup_cons, oks_p, oks_m, Nat.reduceSub, Nat.reduceMul, ↓reduceIte, reduceCtorEq, Nat.reduceEqDiff, Nat.reduceAdd, Nat.reduceLeDiff, Int.reduceLE, cZ4, hyZ5a, hyZ5b, cZ7, hyZ8a, hyZ8b, cZ9, huZ10g]
          all_goals simp [qL, qJ, qJ0, qS, qX, qR, qM, Shp, sub, VS1, VS2, VS3, VS4, VS5, VS6, VT1, VT2]
    · simp only [A103R1]
      refine Or.elim (bt (oZ11)) (fun cZ12 => ?_) (fun cZ12 => ?_)
      · replace h := cond_t cZ12 h
        cases h
        try simp only [VS1, VS2, VS3, VS4, VS5, VS6, VT1, VT2, finM_ret, finM_nrm, decide_true, decide_false, List.nodup_nil, List.nodup_cons, oks_p, oks_m, Nat.reduceSub, Nat.reduceMul, ↓reduceIte, reduceCtorEq, Nat.reduceEqDiff, Nat.reduceAdd, Nat.reduceLeDiff, Int.reduceLE, cZ4, hyZ5a, hyZ5b, cZ12]
        all_goals simp [qL, qJ, qJ0, qS, qX, qR, qM, Shp, sub, VS1, VS2, VS3, VS4, VS5, VS6, VT1, VT2, S_impl_leadsL1, SX_impl_leadsL1]
      · replace h := cond_f cZ12 h
        obtain ⟨uZ13, huZ13, h⟩ := bind_s h
        have huZ13g := grd_s huZ13
        obtain ⟨rZ14, hrZ14, h⟩ := bind_s h
        simp only [VS1, VS2, VS3, VS4, VS5, VS6, VT1, VT2, finM_ret, finM_nrm, decide_true, decide_false, List.nodup_nil, List.nodup_cons, oks_p, oks_m, Nat.reduceSub, Nat.reduceMul, ↓reduceIte, reduceCtorEq, Nat.reduceEqDiff, Nat.reduceAdd, Nat.reduceLeDiff, Int.reduceLE, cZ4, hyZ5a, hyZ5b, cZ12, huZ13g]
        refine call_u (by simp only [VS1, VS2, VS3, VS4, VS5, VS6, VT1, VT2, finM_ret, finM_nrm, decide_true, decide_false, List.nodup_nil, List.nodup_cons, oks_p, oks_m, Nat.reduceSub, Nat.reduceMul, ↓reduceIte, reduceCtorEq, Nat.reduceEqDiff, Nat.reduceAdd, Nat.reduceLeDiff, Int.reduceLE, cZ4, hyZ5a, hyZ5b, cZ12, huZ13g]; exact ihZ0 _ _ _ _ _ _ _ hrZ14 ) (by simp [AV.allU, allUL, allUL_iff, VT1, VT2]) (by simp only [VS1, VS2, VS3, VS4, VS5, VS6, VT1, VT2, finM_ret, finM_nrm, decide_true, decide_false, List.nodup_nil, List.nodup_cons, oks_p, oks_m, Nat.reduceSub, Nat.reduceMul, ↓reduceIte, reduceCtorEq, Nat.reduceEqDiff, Nat.reduceAdd, Nat.reduceLeDiff, Int.reduceLE, Nat.reduceLT]) ?_
        simp only [VA, VF1, ↓reduceIte, Nat.reduceEqDiff, Nat.reduceAdd, Nat.reduceMul, Nat.reduceSub, Nat.reduceLeDiff]
        refine Or.elim (bt (rZ14.2)) (fun cZ15 => ?_) (fun cZ15 => ?_)
        · replace h := cond_t cZ15 h
          obtain ⟨lZ16, hlZ16, h⟩ := bnd_s h
          have eZ17 : Row.arr 1 [(.i sZ3 : AV)] = Row.arr 1 (lZ16.map AV.i) := by rw [← hlZ16]; rfl
          have eZ18 : lZ16.length = 1 := by rw [← hlZ16]; rfl
          have nZ19 : sub (lZ16.map AV.i) 0 1 = lZ16.map AV.i := sub_n _ (by simp [← hlZ16])
          obtain ⟨uZ20, huZ20, h⟩ := bind_s h
          have huZ20g := grd_s huZ20
          obtain ⟨lZ21, hlZ21, h⟩ := bnd_s h
          have eZ22 : lZ16.map AV.i ++ rZ14.1.map AV.i = lZ21.map AV.i := by rw [← hlZ21, List.map_append]
          have eZ23 : 1 + rZ14.1.length = lZ21.length := by simp [← hlZ16, ← hlZ21] <;> omega
          rw [eZ23] at huZ20g
          cases h
          try simp only [VS1, VS2, VS3, VS4, VS5, VS6, VT1, VT2, finM_ret, finM_nrm, decide_true, decide_false, List.nodup_nil, List.nodup_cons, oks_p, oks_m, Nat.reduceSub, Nat.reduceMul, ↓reduceIte, reduceCtorEq, Nat.reduceEqDiff, Nat.reduceAdd, Nat.reduceLeDiff, Int.reduceLE, cZ4, hyZ5a, hyZ5b, cZ12, huZ13g, cZ15, eZ17, eZ18, nZ19, huZ20g, eZ22, eZ23]
          all_goals simp [qL, qJ, qJ0, qS, qX, qR, qM, Shp, sub, VS1, VS2, VS3, VS4, VS5, VS6, VT1, VT2, V103, ← hlZ16, ← hlZ21]
        · replace h := cond_f cZ15 h
          cases h
          try simp only [VS1, VS2, VS3, VS4, VS5, VS6, VT1, VT2, finM_ret, finM_nrm, decide_true, decide_false, List.nodup_nil, List.nodup_cons, oks_p, oks_m, Nat.reduceSub, Nat.reduceMul, ↓reduceIte, reduceCtorEq, Nat.reduceEqDiff, Nat.reduceAdd, Nat.reduceLeDiff, Int.reduceLE, cZ4, hyZ5a, hyZ5b, cZ12, huZ13g, cZ15]
          all_goals simp [qL, qJ, qJ0, qS, qX, qR, qM, Shp, sub, VS1, VS2, VS3, VS4, VS5, VS6, VT1, VT2, S_impl_leadsL1, SX_impl_leadsL1]
  · replace h := cond_f cZ4 h
    cases h
    try simp only [VS1, VS2, VS3, VS4, VS5, VS6, VT1, VT2, finM_ret, finM_nrm, decide_true, decide_false, List.nodup_nil, List.nodup_cons, oks_p, oks_m, Nat.reduceSub, Nat.reduceMul, ↓reduceIte, reduceCtorEq, Nat.reduceEqDiff, Nat.reduceAdd, Nat.reduceLeDiff, Int.reduceLE, cZ4]
    all_goals simp [qL, qJ, qJ0, qS, qX, qR, qM, Shp, sub, VS1, VS2, VS3, VS4, VS5, VS6, VT1, VT2, S_impl_leadsL1, SX_impl_leadsL1]
theorem wB_impl_leads (rcZ0 : List TLink → List Int → Int → Int → Int → Int → Int → Option (List Int × Bool)) (ihZ0 : ∀ (linksZ0 : List TLink) (freeZ0 : List Int) (atZ0 : Int) (toZ0 : Int) (rateZ0 : Int) (countZ0 : Int) (seenZ0 : Int) {r : List Int × Bool}, rcZ0 linksZ0 freeZ0 atZ0 toZ0 rateZ0 countZ0 seenZ0 = some r → Ok Try.prog 103 [.lst .o 3 (linksZ0.map (e_TLink .o)), .lst .o 1 (freeZ0.map AV.i), .i atZ0, .i toZ0, .i rateZ0, .i countZ0, .i seenZ0] ((fun r => .tup [.lst .u 1 (r.1.map AV.i), .b r.2]) r)) (linksZ0 : List TLink) (freeZ0 : List Int) (atZ0 : Int) (toZ0 : Int) (rateZ0 : Int) (countZ0 : Int) (seenZ0 : Int) {r : List Int × Bool} (h : M_impl_leads_B rcZ0 linksZ0 freeZ0 atZ0 toZ0 rateZ0 countZ0 seenZ0 = some r) : Ok Try.prog 103 [.lst .o 3 (linksZ0.map (e_TLink .o)), .lst .o 1 (freeZ0.map AV.i), .i atZ0, .i toZ0, .i rateZ0, .i countZ0, .i seenZ0] ((fun r => .tup [.lst .u 1 (r.1.map AV.i), .b r.2]) r) := by
  refine ok_of_body hmix m103 rfl ?_
  unfold M_impl_leads_B at h
  simp only [A103, V103, body_eq]
  refine Or.elim (bt (atZ0 == toZ0)) (fun cZ1 => ?_) (fun cZ1 => ?_)
  · replace h := cond_t cZ1 h
    cases h
    try simp only [VS1, VS2, VS3, VS4, VS5, VS6, VT1, VT2, finM_ret, finM_nrm, decide_true, decide_false, List.nodup_nil, List.nodup_cons, oks_p, oks_m, Nat.reduceSub, Nat.reduceMul, ↓reduceIte, reduceCtorEq, Nat.reduceEqDiff, Nat.reduceAdd, Nat.reduceLeDiff, Int.reduceLE, cZ1]
    all_goals simp [qL, qJ, qJ0, qS, qX, qR, qM, Shp, sub, VS1, VS2, VS3, VS4, VS5, VS6, VT1, VT2, V103]
  · replace h := cond_f cZ1 h
    refine Or.elim (bt (countZ0 == 0)) (fun cZ2 => ?_) (fun cZ2 => ?_)
    · replace h := cond_t cZ2 h
      cases h
      try simp only [VS1, VS2, VS3, VS4, VS5, VS6, VT1, VT2, finM_ret, finM_nrm, decide_true, decide_false, List.nodup_nil, List.nodup_cons, oks_p, oks_m, Nat.reduceSub, Nat.reduceMul, ↓reduceIte, reduceCtorEq, Nat.reduceEqDiff, Nat.reduceAdd, Nat.reduceLeDiff, Int.reduceLE, cZ1, cZ2]
      all_goals simp [qL, qJ, qJ0, qS, qX, qR, qM, Shp, sub, VS1, VS2, VS3, VS4, VS5, VS6, VT1, VT2, V103]
    · replace h := cond_f cZ2 h
      obtain ⟨oZ24, hoZ24, h⟩ := bind_s h
      try simp only [VS1, VS2, VS3, VS4, VS5, VS6, VT1, VT2, finM_ret, finM_nrm, decide_true, decide_false, List.nodup_nil, List.nodup_cons, oks_p, oks_m, Nat.reduceSub, Nat.reduceMul, ↓reduceIte, reduceCtorEq, Nat.reduceEqDiff, Nat.reduceAdd, Nat.reduceLeDiff, Int.reduceLE, cZ1, cZ2]
      refine join_rule (o := oZ24) (blk_rule sideR (loop_rule (w_impl_leadsL1 linksZ0 freeZ0 atZ0 toZ0 rateZ0 countZ0 seenZ0 rcZ0 ihZ0) hoZ24 ?_)) (fun vZ25 hv => ?_) (fun xZ26 hv e τ hne hq => ?_)
      · all_goals simp [qL, qJ, qJ0, qS, qX, qR, qM, Shp, sub, VS1, VS2, VS3, VS4, VS5, VS6, VT1, VT2, S_impl_leadsL1, SX_impl_leadsL1]
      · subst hv
        simp only [] at h
        simp only [SX_impl_leadsL1, A103R3]
        cases h
        try simp only [VS1, VS2, VS3, VS4, VS5, VS6, VT1, VT2, finM_ret, finM_nrm, decide_true, decide_false, List.nodup_nil, List.nodup_cons, oks_p, oks_m, Nat.reduceSub, Nat.reduceMul, ↓reduceIte, reduceCtorEq, Nat.reduceEqDiff, Nat.reduceAdd, Nat.reduceLeDiff, Int.reduceLE, cZ1, cZ2]
        all_goals simp [qL, qJ, qJ0, qS, qX, qR, qM, Shp, sub, VS1, VS2, VS3, VS4, VS5, VS6, VT1, VT2, V103]
      · subst hv
        simp only [] at h
        obtain ⟨rfl, qZ27⟩ := hq
        cases h
        exact qZ27
theorem w_impl_leads : ∀ (n : Nat) (linksZ0 : List TLink) (freeZ0 : List Int) (atZ0 : Int) (toZ0 : Int) (rateZ0 : Int) (countZ0 : Int) (seenZ0 : Int) {r : List Int × Bool} (_ : M_impl_leads n linksZ0 freeZ0 atZ0 toZ0 rateZ0 countZ0 seenZ0 = some r), Ok Try.prog 103 [.lst .o 3 (linksZ0.map (e_TLink .o)), .lst .o 1 (freeZ0.map AV.i), .i atZ0, .i toZ0, .i rateZ0, .i countZ0, .i seenZ0] ((fun r => .tup [.lst .u 1 (r.1.map AV.i), .b r.2]) r)
  | 0, linksZ0, freeZ0, atZ0, toZ0, rateZ0, countZ0, seenZ0, _, h => by cases h
  | n + 1, linksZ0, freeZ0, atZ0, toZ0, rateZ0, countZ0, seenZ0, _, h => wB_impl_leads (M_impl_leads n) (w_impl_leads n) linksZ0 freeZ0 atZ0 toZ0 rateZ0 countZ0 seenZ0 h
def S_impl_routedL1 (linksZ0 : List TLink) (freeZ0 : List Int) (tZ0 : TTributary) (v : Int) : St := ⟨[(0, .lst .o 3 (linksZ0.map (e_TLink .o))), (1, .lst .o 1 (freeZ0.map AV.i)), (5, .pt 5 0 0), (8, .i v)], [(5, .var (.agg [.i tZ0.From, .i tZ0.To, .i tZ0.Rate]))]⟩
def SX_impl_routedL1 (v : Unit) : St := ⟨[], []⟩
theorem w_impl_routedL1 (linksZ0 : List TLink) (freeZ0 : List Int) (tZ0 : TTributary) (sZ1 : Int) (o : Int ⊕ (Unit ⊕ (List Int × Bool))) (h : M_impl_routedL1 linksZ0 freeZ0 tZ0 sZ1 = some o) : AWP (OkS Try.prog) A73L1 (qL [0, 1, 5, 8] [5] (S_impl_routedL1 linksZ0 freeZ0 tZ0) (qS (qX 0 [] [] (SX_impl_routedL1)) (qR V73 (fun r => .tup [.lst .u 1 (r.1.map AV.i), .b r.2]))) o) (S_impl_routedL1 linksZ0 freeZ0 tZ0 sZ1) := by
  unfold M_impl_routedL1 at h
  simp only [S_impl_routedL1, A73L1]
  refine Or.elim (bt (decide (sZ1 < 8))) (fun cZ2 => ?_) (fun cZ2 => ?_)
  · replace h := cond_t cZ2 h
    obtain ⟨uZ3, huZ3, h⟩ := bind_s h
    have huZ3g := grd_s huZ3
    obtain ⟨rZ4, hrZ4, h⟩ := bind_s h
    simp only [VS1, VS2, VS3, VS4, VS5, VS6, VT1, VT2, finM_ret, finM_nrm, decide_true, decide_false, List.nodup_nil, List.nodup_cons, oks_p, oks_m, Nat.reduceSub, Nat.reduceMul, ↓reduceIte, reduceCtorEq, Nat.reduceEqDiff, Nat.reduceAdd, Nat.reduceLeDiff, Int.reduceLE, cZ2, huZ3g]
    refine call_u (by simp only [VS1, VS2, VS3, VS4, VS5, VS6, VT1, VT2, finM_ret, finM_nrm, decide_true, decide_false, List.nodup_nil, List.nodup_cons, oks_p, oks_m, Nat.reduceSub, Nat.reduceMul, ↓reduceIte, reduceCtorEq, Nat.reduceEqDiff, Nat.reduceAdd, Nat.reduceLeDiff, Int.reduceLE, cZ2, huZ3g]; exact w_impl_leads N0 _ _ _ _ _ _ _ hrZ4 ) (by simp [AV.allU, allUL, allUL_iff, VT1, VT2]) (by simp only [VS1, VS2, VS3, VS4, VS5, VS6, VT1, VT2, finM_ret, finM_nrm, decide_true, decide_false, List.nodup_nil, List.nodup_cons, oks_p, oks_m, Nat.reduceSub, Nat.reduceMul, ↓reduceIte, reduceCtorEq, Nat.reduceEqDiff, Nat.reduceAdd, Nat.reduceLeDiff, Int.reduceLE, Nat.reduceLT]) ?_
    simp only [VA, VF1, ↓reduceIte, Nat.reduceEqDiff, Nat.reduceAdd, Nat.reduceMul, Nat.reduceSub, Nat.reduceLeDiff]
    refine Or.elim (bt (rZ4.2)) (fun cZ5 => ?_) (fun cZ5 => ?_)
    · replace h := cond_t cZ5 h
      cases h
      try simp only [VS1, VS2, VS3, VS4, VS5, VS6, VT1, VT2, finM_ret, finM_nrm, decide_true, decide_false, List.nodup_nil, List.nodup_cons, oks_p, oks_m, Nat.reduceSub, Nat.reduceMul, ↓reduceIte, reduceCtorEq, Nat.reduceEqDiff, Nat.reduceAdd, Nat.reduceLeDiff, Int.reduceLE, cZ2, huZ3g, cZ5]
      all_goals simp [qL, qJ, qJ0, qS, qX, qR, qM, Shp, sub, VS1, VS2, VS3, VS4, VS5, VS6, VT1, VT2, V73]
    · replace h := cond_f cZ5 h
      cases h
      try simp only [VS1, VS2, VS3, VS4, VS5, VS6, VT1, VT2, finM_ret, finM_nrm, decide_true, decide_false, List.nodup_nil, List.nodup_cons, oks_p, oks_m, Nat.reduceSub, Nat.reduceMul, ↓reduceIte, reduceCtorEq, Nat.reduceEqDiff, Nat.reduceAdd, Nat.reduceLeDiff, Int.reduceLE, cZ2, huZ3g, cZ5]
      all_goals simp [qL, qJ, qJ0, qS, qX, qR, qM, Shp, sub, VS1, VS2, VS3, VS4, VS5, VS6, VT1, VT2, S_impl_routedL1, SX_impl_routedL1]
  · replace h := cond_f cZ2 h
    cases h
    try simp only [VS1, VS2, VS3, VS4, VS5, VS6, VT1, VT2, finM_ret, finM_nrm, decide_true, decide_false, List.nodup_nil, List.nodup_cons, oks_p, oks_m, Nat.reduceSub, Nat.reduceMul, ↓reduceIte, reduceCtorEq, Nat.reduceEqDiff, Nat.reduceAdd, Nat.reduceLeDiff, Int.reduceLE, cZ2]
    all_goals simp [qL, qJ, qJ0, qS, qX, qR, qM, Shp, sub, VS1, VS2, VS3, VS4, VS5, VS6, VT1, VT2, S_impl_routedL1, SX_impl_routedL1]
theorem w_impl_routed (linksZ0 : List TLink) (freeZ0 : List Int) (tZ0 : TTributary) {r : List Int × Bool} (h : M_impl_routed linksZ0 freeZ0 tZ0 = some r) : Ok Try.prog 73 [.lst .o 3 (linksZ0.map (e_TLink .o)), .lst .o 1 (freeZ0.map AV.i), .agg [.i tZ0.From, .i tZ0.To, .i tZ0.Rate]] ((fun r => .tup [.lst .u 1 (r.1.map AV.i), .b r.2]) r) := by
  refine ok_of_body hmix m73 rfl ?_
  unfold M_impl_routed at h
  simp only [A73, V73, body_eq]
  obtain ⟨oZ6, hoZ6, h⟩ := bind_s h
  try simp only [VS1, VS2, VS3, VS4, VS5, VS6, VT1, VT2, finM_ret, finM_nrm, decide_true, decide_false, List.nodup_nil, List.nodup_cons, oks_p, oks_m, Nat.reduceSub, Nat.reduceMul, ↓reduceIte, reduceCtorEq, Nat.reduceEqDiff, Nat.reduceAdd, Nat.reduceLeDiff, Int.reduceLE]
  refine join_rule (o := oZ6) (blk_rule sideR (loop_rule (w_impl_routedL1 linksZ0 freeZ0 tZ0) hoZ6 ?_)) (fun vZ7 hv => ?_) (fun xZ8 hv e τ hne hq => ?_)
  · all_goals simp [qL, qJ, qJ0, qS, qX, qR, qM, Shp, sub, VS1, VS2, VS3, VS4, VS5, VS6, VT1, VT2, S_impl_routedL1, SX_impl_routedL1]
  · subst hv
    simp only [] at h
    simp only [SX_impl_routedL1, A73R2]
    cases h
    try simp only [VS1, VS2, VS3, VS4, VS5, VS6, VT1, VT2, finM_ret, finM_nrm, decide_true, decide_false, List.nodup_nil, List.nodup_cons, oks_p, oks_m, Nat.reduceSub, Nat.reduceMul, ↓reduceIte, reduceCtorEq, Nat.reduceEqDiff, Nat.reduceAdd, Nat.reduceLeDiff, Int.reduceLE]
    all_goals simp [qL, qJ, qJ0, qS, qX, qR, qM, Shp, sub, VS1, VS2, VS3, VS4, VS5, VS6, VT1, VT2, V73]
  · subst hv
    simp only [] at h
    obtain ⟨rfl, qZ9⟩ := hq
    cases h
    exact qZ9
theorem w_impl_RouteTributary (linksZ0 : List TLink) (freeZ0 : List Int) (nodesZ0 : Int) (tZ0 : TTributary) {r : List Int × Bool × Bool} (h : M_impl_RouteTributary linksZ0 freeZ0 nodesZ0 tZ0 = some r) : Ok Try.prog 29 [.lst .o 3 (linksZ0.map (e_TLink .o)), .lst .o 1 (freeZ0.map AV.i), .i nodesZ0, .agg [.i tZ0.From, .i tZ0.To, .i tZ0.Rate]] ((fun r => .tup [.lst .u 1 (r.1.map AV.i), .b r.2.1, .b r.2.2]) r) := by
  refine ok_of_body hmix m29 rfl ?_
  unfold M_impl_RouteTributary at h
  simp only [A29, V29, body_eq]
  obtain ⟨oZ11, hoZ11, h⟩ := bind_s h
  try simp only [VS1, VS2, VS3, VS4, VS5, VS6, VT1, VT2, finM_ret, finM_nrm, decide_true, decide_false, List.nodup_nil, List.nodup_cons, oks_p, oks_m, Nat.reduceSub, Nat.reduceMul, ↓reduceIte, reduceCtorEq, Nat.reduceEqDiff, Nat.reduceAdd, Nat.reduceLeDiff, Int.reduceLE]
  refine join_rule0 (sh := (fun v => ⟨[(0, .lst .o 3 (linksZ0.map (e_TLink .o))), (1, .lst .o 1 (freeZ0.map AV.i)), (7, .pt 7 0 0), (34, .b v)], [(7, .var (.agg [.i tZ0.From, .i tZ0.To, .i tZ0.Rate]))]⟩)) (s := oZ11) ?_ ?_
  · replace h := hoZ11
    obtain ⟨rZ1, hrZ1, h⟩ := bind_s h
    simp only [VS1, VS2, VS3, VS4, VS5, VS6, VT1, VT2, finM_ret, finM_nrm, decide_true, decide_false, List.nodup_nil, List.nodup_cons, oks_p, oks_m, Nat.reduceSub, Nat.reduceMul, ↓reduceIte, reduceCtorEq, Nat.reduceEqDiff, Nat.reduceAdd, Nat.reduceLeDiff, Int.reduceLE]
    refine call_s (by simp only [VS1, VS2, VS3, VS4, VS5, VS6, VT1, VT2, finM_ret, finM_nrm, decide_true, decide_false, List.nodup_nil, List.nodup_cons, oks_p, oks_m, Nat.reduceSub, Nat.reduceMul, ↓reduceIte, reduceCtorEq, Nat.reduceEqDiff, Nat.reduceAdd, Nat.reduceLeDiff, Int.reduceLE]; exact w_impl_areLinks _ _ hrZ1 ) ?_
    simp only [VA, VF1, ↓reduceIte, Nat.reduceEqDiff, Nat.reduceAdd, Nat.reduceMul, Nat.reduceSub, Nat.reduceLeDiff]
    refine Or.elim (bt (!rZ1)) (fun cZ2 => ?_) (fun cZ2 => ?_)
    · replace h := cond_t cZ2 h
      cases h
      try simp only [VS1, VS2, VS3, VS4, VS5, VS6, VT1, VT2, finM_ret, finM_nrm, decide_true, decide_false, List.nodup_nil, List.nodup_cons, oks_p, oks_m, Nat.reduceSub, Nat.reduceMul, ↓reduceIte, reduceCtorEq, Nat.reduceEqDiff, Nat.reduceAdd, Nat.reduceLeDiff, Int.reduceLE, cZ2]
      all_goals simp [qL, qJ, qJ0, qS, qX, qR, qM, Shp, sub, VS1, VS2, VS3, VS4, VS5, VS6, VT1, VT2]
    · replace h := cond_f cZ2 h
      obtain ⟨lZ3, hlZ3, h⟩ := bnd_s h
      have eZ4 : Row.arr 3 [(.agg [.i tZ0.From, .i tZ0.To, .i tZ0.Rate] : AV)] = Row.arr 3 (lZ3.map (e_TTributary .u)) := by rw [← hlZ3]; rfl
      have eZ5 : lZ3.length = 1 := by rw [← hlZ3]; rfl
      have nZ6 : sub (lZ3.map (e_TTributary .u)) 0 1 = lZ3.map (e_TTributary .u) := sub_n _ (by simp [← hlZ3])
      obtain ⟨rZ7, hrZ7, h⟩ := bind_s h
      simp only [VS1, VS2, VS3, VS4, VS5, VS6, VT1, VT2, finM_ret, finM_nrm, decide_true, decide_false, List.nodup_nil, List.nodup_cons, oks_p, oks_m, Nat.reduceSub, Nat.reduceMul, ↓reduceIte, reduceCtorEq, Nat.reduceEqDiff, Nat.reduceAdd, Nat.reduceLeDiff, Int.reduceLE, cZ2, eZ4, eZ5, nZ6]
      refine call_s (by simp only [VS1, VS2, VS3, VS4, VS5, VS6, VT1, VT2, finM_ret, finM_nrm, decide_true, decide_false, List.nodup_nil, List.nodup_cons, oks_p, oks_m, Nat.reduceSub, Nat.reduceMul, ↓reduceIte, reduceCtorEq, Nat.reduceEqDiff, Nat.reduceAdd, Nat.reduceLeDiff, Int.reduceLE, cZ2, eZ4, eZ5, nZ6]; exact w_impl_IsValidTributaries _ _ hrZ7 ) ?_
      simp only [VA, VF1, ↓reduceIte, Nat.reduceEqDiff, Nat.reduceAdd, Nat.reduceMul, Nat.reduceSub, Nat.reduceLeDiff]
      refine Or.elim (bt (!rZ7)) (fun cZ8 => ?_) (fun cZ8 => ?_)
      · replace h := cond_t cZ8 h
        cases h
        try simp only [VS1, VS2, VS3, VS4, VS5, VS6, VT1, VT2, finM_ret, finM_nrm, decide_true, decide_false, List.nodup_nil, List.nodup_cons, oks_p, oks_m, Nat.reduceSub, Nat.reduceMul, ↓reduceIte, reduceCtorEq, Nat.reduceEqDiff, Nat.reduceAdd, Nat.reduceLeDiff, Int.reduceLE, cZ2, eZ4, eZ5, nZ6, cZ8]
        all_goals simp [qL, qJ, qJ0, qS, qX, qR, qM, Shp, sub, VS1, VS2, VS3, VS4, VS5, VS6, VT1, VT2, ← hlZ3]
      · replace h := cond_f cZ8 h
        refine Or.elim (bt ((freeZ0.length : Int) != (linksZ0.length : Int))) (fun cZ9 => ?_) (fun cZ9 => ?_)
        · replace h := cond_t cZ9 h
          cases h
          try simp only [VS1, VS2, VS3, VS4, VS5, VS6, VT1, VT2, finM_ret, finM_nrm, decide_true, decide_false, List.nodup_nil, List.nodup_cons, oks_p, oks_m, Nat.reduceSub, Nat.reduceMul, ↓reduceIte, reduceCtorEq, Nat.reduceEqDiff, Nat.reduceAdd, Nat.reduceLeDiff, Int.reduceLE, cZ2, eZ4, eZ5, nZ6, cZ8, cZ9]
          all_goals simp [qL, qJ, qJ0, qS, qX, qR, qM, Shp, sub, VS1, VS2, VS3, VS4, VS5, VS6, VT1, VT2, ← hlZ3]
        · replace h := cond_f cZ9 h
          obtain ⟨rZ10, hrZ10, h⟩ := bind_s h
          simp only [VS1, VS2, VS3, VS4, VS5, VS6, VT1, VT2, finM_ret, finM_nrm, decide_true, decide_false, List.nodup_nil, List.nodup_cons, oks_p, oks_m, Nat.reduceSub, Nat.reduceMul, ↓reduceIte, reduceCtorEq, Nat.reduceEqDiff, Nat.reduceAdd, Nat.reduceLeDiff, Int.reduceLE, cZ2, eZ4, eZ5, nZ6, cZ8, cZ9]
          refine call_s (by simp only [VS1, VS2, VS3, VS4, VS5, VS6, VT1, VT2, finM_ret, finM_nrm, decide_true, decide_false, List.nodup_nil, List.nodup_cons, oks_p, oks_m, Nat.reduceSub, Nat.reduceMul, ↓reduceIte, reduceCtorEq, Nat.reduceEqDiff, Nat.reduceAdd, Nat.reduceLeDiff, Int.reduceLE, cZ2, eZ4, eZ5, nZ6, cZ8, cZ9]; exact w_slices_ContainsFunc_Lint_int _ _ hrZ10 72 [] ⟨fun ρ k => by simp only [VS1, VS2, VS3, VS4, VS5, VS6, VT1, VT2, finM_ret, finM_nrm, decide_true, decide_false, List.nodup_nil, List.nodup_cons, oks_p, oks_m, Nat.reduceSub, Nat.reduceMul, ↓reduceIte, reduceCtorEq, Nat.reduceEqDiff, Nat.reduceAdd, Nat.reduceLeDiff, Int.reduceLE], by simp [mentsL, AV.ments]⟩ (fun _ _ h => w_impl_RouteTributary_c1 _ h)) ?_
          simp only [VA, VF1, ↓reduceIte, Nat.reduceEqDiff, Nat.reduceAdd, Nat.reduceMul, Nat.reduceSub, Nat.reduceLeDiff]
          cases h
          try simp only [VS1, VS2, VS3, VS4, VS5, VS6, VT1, VT2, finM_ret, finM_nrm, decide_true, decide_false, List.nodup_nil, List.nodup_cons, oks_p, oks_m, Nat.reduceSub, Nat.reduceMul, ↓reduceIte, reduceCtorEq, Nat.reduceEqDiff, Nat.reduceAdd, Nat.reduceLeDiff, Int.reduceLE, cZ2, eZ4, eZ5, nZ6, cZ8, cZ9]
          all_goals simp [qL, qJ, qJ0, qS, qX, qR, qM, Shp, sub, VS1, VS2, VS3, VS4, VS5, VS6, VT1, VT2, ← hlZ3]
  · simp only [A29R1]
    refine Or.elim (bt (oZ11)) (fun cZ12 => ?_) (fun cZ12 => ?_)
    · replace h := cond_t cZ12 h
      cases h
      try simp only [VS1, VS2, VS3, VS4, VS5, VS6, VT1, VT2, finM_ret, finM_nrm, decide_true, decide_false, List.nodup_nil, List.nodup_cons, oks_p, oks_m, Nat.reduceSub, Nat.reduceMul, ↓reduceIte, reduceCtorEq, Nat.reduceEqDiff, Nat.reduceAdd, Nat.reduceLeDiff, Int.reduceLE, cZ12]
      all_goals simp [qL, qJ, qJ0, qS, qX, qR, qM, Shp, sub, VS1, VS2, VS3, VS4, VS5, VS6, VT1, VT2, V29]
    · replace h := cond_f cZ12 h
      obtain ⟨rZ13, hrZ13, h⟩ := bind_s h
      simp only [VS1, VS2, VS3, VS4, VS5, VS6, VT1, VT2, finM_ret, finM_nrm, decide_true, decide_false, List.nodup_nil, List.nodup_cons, oks_p, oks_m, Nat.reduceSub, Nat.reduceMul, ↓reduceIte, reduceCtorEq, Nat.reduceEqDiff, Nat.reduceAdd, Nat.reduceLeDiff, Int.reduceLE, cZ12]
      refine call_u (by simp only [VS1, VS2, VS3, VS4, VS5, VS6, VT1, VT2, finM_ret, finM_nrm, decide_true, decide_false, List.nodup_nil, List.nodup_cons, oks_p, oks_m, Nat.reduceSub, Nat.reduceMul, ↓reduceIte, reduceCtorEq, Nat.reduceEqDiff, Nat.reduceAdd, Nat.reduceLeDiff, Int.reduceLE, cZ12]; exact w_impl_routed _ _ _ hrZ13 ) (by simp [AV.allU, allUL, allUL_iff, VT1, VT2]) (by simp only [VS1, VS2, VS3, VS4, VS5, VS6, VT1, VT2, finM_ret, finM_nrm, decide_true, decide_false, List.nodup_nil, List.nodup_cons, oks_p, oks_m, Nat.reduceSub, Nat.reduceMul, ↓reduceIte, reduceCtorEq, Nat.reduceEqDiff, Nat.reduceAdd, Nat.reduceLeDiff, Int.reduceLE, Nat.reduceLT]) ?_
      simp only [VA, VF1, ↓reduceIte, Nat.reduceEqDiff, Nat.reduceAdd, Nat.reduceMul, Nat.reduceSub, Nat.reduceLeDiff]
      cases h
      try simp only [VS1, VS2, VS3, VS4, VS5, VS6, VT1, VT2, finM_ret, finM_nrm, decide_true, decide_false, List.nodup_nil, List.nodup_cons, oks_p, oks_m, Nat.reduceSub, Nat.reduceMul, ↓reduceIte, reduceCtorEq, Nat.reduceEqDiff, Nat.reduceAdd, Nat.reduceLeDiff, Int.reduceLE, cZ12]
      all_goals simp [qL, qJ, qJ0, qS, qX, qR, qM, Shp, sub, VS1, VS2, VS3, VS4, VS5, VS6, VT1, VT2, V29]
def S_laws_eqIntSL1 (aZ0 : List Int) (bZ0 : List Int) (v : Int) : St := ⟨[(0, .lst .o 1 (aZ0.map AV.i)), (1, .lst .o 1 (bZ0.map AV.i)), (5, .i v)], []⟩
def SX_laws_eqIntSL1 (v : Unit) : St := ⟨[], []⟩
theorem w_laws_eqIntSL1 (aZ0 : List Int) (bZ0 : List Int) (sZ2 : Int) (o : Int ⊕ (Unit ⊕ Bool)) (h : M_laws_eqIntSL1 aZ0 bZ0 sZ2 = some o) : AWP (OkS Try.prog) A22L1 (qL [0, 1, 5] [] (S_laws_eqIntSL1 aZ0 bZ0) (qS (qX 0 [] [] (SX_laws_eqIntSL1)) (qR V22 (fun r => .b r))) o) (S_laws_eqIntSL1 aZ0 bZ0 sZ2) := by
  unfold M_laws_eqIntSL1 at h
  simp only [S_laws_eqIntSL1, A22L1]
  refine Or.elim (bt (decide (sZ2 < (aZ0.length : Int)))) (fun cZ3 => ?_) (fun cZ3 => ?_)
  · replace h := cond_t cZ3 h
    obtain ⟨yZ4, hyZ4, h⟩ := bind_s h
    obtain ⟨hyZ4a, hyZ4b⟩ := geti_s hyZ4
    obtain ⟨yZ5, hyZ5, h⟩ := bind_s h
    obtain ⟨hyZ5a, hyZ5b⟩ := geti_s hyZ5
    refine Or.elim (bt (yZ4 != yZ5)) (fun cZ6 => ?_) (fun cZ6 => ?_)
    · replace h := cond_t cZ6 h
      cases h
      try simp only [VS1, VS2, VS3, VS4, VS5, VS6, VT1, VT2, finM_ret, finM_nrm, decide_true, decide_false, List.nodup_nil, List.nodup_cons, oks_p, oks_m, Nat.reduceSub, Nat.reduceMul, ↓reduceIte, reduceCtorEq, Nat.reduceEqDiff, Nat.reduceAdd, Nat.reduceLeDiff, Int.reduceLE, cZ3, hyZ4a, hyZ4b, hyZ5a, hyZ5b, cZ6]
      all_goals simp [qL, qJ, qJ0, qS, qX, qR, qM, Shp, sub, VS1, VS2, VS3, VS4, VS5, VS6, VT1, VT2, V22]
    · replace h := cond_f cZ6 h
      cases h
      try simp only [VS1, VS2, VS3, VS4, VS5, VS6, VT1, VT2, finM_ret, finM_nrm, decide_true, decide_false, List.nodup_nil, List.nodup_cons, oks_p, oks_m, Nat.reduceSub, Nat.reduceMul, ↓reduceIte, reduceCtorEq, Nat.reduceEqDiff, Nat.reduceAdd, Nat.reduceLeDiff, Int.reduceLE, cZ3, hyZ4a, hyZ4b, hyZ5a, hyZ5b, cZ6]
      all_goals simp [qL, qJ, qJ0, qS, qX, qR, qM, Shp, sub, VS1, VS2, VS3, VS4, VS5, VS6, VT1, VT2, S_laws_eqIntSL1, SX_laws_eqIntSL1]
  · replace h := cond_f cZ3 h
    cases h
    try simp only [VS1, VS2, VS3, VS4, VS5, VS6, VT1, VT2, finM_ret, finM_nrm, decide_true, decide_false, List.nodup_nil, List.nodup_cons, oks_p, oks_m, Nat.reduceSub, Nat.reduceMul, ↓reduceIte, reduceCtorEq, Nat.reduceEqDiff, Nat.reduceAdd, Nat.reduceLeDiff, Int.reduceLE, cZ3]
    all_goals simp [qL, qJ, qJ0, qS, qX, qR, qM, Shp, sub, VS1, VS2, VS3, VS4, VS5, VS6, VT1, VT2, S_laws_eqIntSL1, SX_laws_eqIntSL1]
theorem w_laws_eqIntS (aZ0 : List Int) (bZ0 : List Int) {r : Bool} (h : M_laws_eqIntS aZ0 bZ0 = some r) : Ok Try.prog 22 [.lst .o 1 (aZ0.map AV.i), .lst .o 1 (bZ0.map AV.i)] ((fun r => .b r) r) := by
  refine ok_of_body hmix m22 rfl ?_
  unfold M_laws_eqIntS at h
  simp only [A22, V22, body_eq]
  refine Or.elim (bt ((aZ0.length : Int) != (bZ0.length : Int))) (fun cZ1 => ?_) (fun cZ1 => ?_)
  · replace h := cond_t cZ1 h
    cases h
    try simp only [VS1, VS2, VS3, VS4, VS5, VS6, VT1, VT2, finM_ret, finM_nrm, decide_true, decide_false, List.nodup_nil, List.nodup_cons, oks_p, oks_m, Nat.reduceSub, Nat.reduceMul, ↓reduceIte, reduceCtorEq, Nat.reduceEqDiff, Nat.reduceAdd, Nat.reduceLeDiff, Int.reduceLE, cZ1]
    all_goals simp [qL, qJ, qJ0, qS, qX, qR, qM, Shp, sub, VS1, VS2, VS3, VS4, VS5, VS6, VT1, VT2, V22]
  · replace h := cond_f cZ1 h
    obtain ⟨oZ7, hoZ7, h⟩ := bind_s h
    try simp only [VS1, VS2, VS3, VS4, VS5, VS6, VT1, VT2, finM_ret, finM_nrm, decide_true, decide_false, List.nodup_nil, List.nodup_cons, oks_p, oks_m, Nat.reduceSub, Nat.reduceMul, ↓reduceIte, reduceCtorEq, Nat.reduceEqDiff, Nat.reduceAdd, Nat.reduceLeDiff, Int.reduceLE, cZ1]
    refine join_rule (o := oZ7) (blk_rule sideR (loop_rule (w_laws_eqIntSL1 aZ0 bZ0) hoZ7 ?_)) (fun vZ8 hv => ?_) (fun xZ9 hv e τ hne hq => ?_)
    · all_goals simp [qL, qJ, qJ0, qS, qX, qR, qM, Shp, sub, VS1, VS2, VS3, VS4, VS5, VS6, VT1, VT2, S_laws_eqIntSL1, SX_laws_eqIntSL1]
    · subst hv
      simp only [] at h
      simp only [SX_laws_eqIntSL1, A22R2]
      cases h
      try simp only [VS1, VS2, VS3, VS4, VS5, VS6, VT1, VT2, finM_ret, finM_nrm, decide_true, decide_false, List.nodup_nil, List.nodup_cons, oks_p, oks_m, Nat.reduceSub, Nat.reduceMul, ↓reduceIte, reduceCtorEq, Nat.reduceEqDiff, Nat.reduceAdd, Nat.reduceLeDiff, Int.reduceLE, cZ1]
      all_goals simp [qL, qJ, qJ0, qS, qX, qR, qM, Shp, sub, VS1, VS2, VS3, VS4, VS5, VS6, VT1, VT2, V22]
    · subst hv
      simp only [] at h
      obtain ⟨rfl, qZ10⟩ := hq
      cases h
      exact qZ10
theorem w_laws_eqLink (aZ0 : TLink) (bZ0 : TLink) {r : Bool} (h : M_laws_eqLink aZ0 bZ0 = some r) : Ok Try.prog 74 [.agg [.i aZ0.A, .i aZ0.B, .i aZ0.Capacity], .agg [.i bZ0.A, .i bZ0.B, .i bZ0.Capacity]] ((fun r => .b r) r) := by
  refine ok_of_body hmix m74 rfl ?_
  unfold M_laws_eqLink at h
  simp only [A74, V74, body_eq]
  refine Or.elim (bt (aZ0.A != bZ0.A)) (fun cZ1 => ?_) (fun cZ1 => ?_)
  · replace h := cond_t cZ1 h
    cases h
    try simp only [VS1, VS2, VS3, VS4, VS5, VS6, VT1, VT2, finM_ret, finM_nrm, decide_true, decide_false, List.nodup_nil, List.nodup_cons, oks_p, oks_m, Nat.reduceSub, Nat.reduceMul, ↓reduceIte, reduceCtorEq, Nat.reduceEqDiff, Nat.reduceAdd, Nat.reduceLeDiff, Int.reduceLE, cZ1]
    all_goals simp [qL, qJ, qJ0, qS, qX, qR, qM, Shp, sub, VS1, VS2, VS3, VS4, VS5, VS6, VT1, VT2, V74]
  · replace h := cond_f cZ1 h
    refine Or.elim (bt (aZ0.B != bZ0.B)) (fun cZ2 => ?_) (fun cZ2 => ?_)
    · replace h := cond_t cZ2 h
      cases h
      try simp only [VS1, VS2, VS3, VS4, VS5, VS6, VT1, VT2, finM_ret, finM_nrm, decide_true, decide_false, List.nodup_nil, List.nodup_cons, oks_p, oks_m, Nat.reduceSub, Nat.reduceMul, ↓reduceIte, reduceCtorEq, Nat.reduceEqDiff, Nat.reduceAdd, Nat.reduceLeDiff, Int.reduceLE, cZ1, cZ2]
      all_goals simp [qL, qJ, qJ0, qS, qX, qR, qM, Shp, sub, VS1, VS2, VS3, VS4, VS5, VS6, VT1, VT2, V74]
    · replace h := cond_f cZ2 h
      refine Or.elim (bt (aZ0.Capacity != bZ0.Capacity)) (fun cZ3 => ?_) (fun cZ3 => ?_)
      · replace h := cond_t cZ3 h
        cases h
        try simp only [VS1, VS2, VS3, VS4, VS5, VS6, VT1, VT2, finM_ret, finM_nrm, decide_true, decide_false, List.nodup_nil, List.nodup_cons, oks_p, oks_m, Nat.reduceSub, Nat.reduceMul, ↓reduceIte, reduceCtorEq, Nat.reduceEqDiff, Nat.reduceAdd, Nat.reduceLeDiff, Int.reduceLE, cZ1, cZ2, cZ3]
        all_goals simp [qL, qJ, qJ0, qS, qX, qR, qM, Shp, sub, VS1, VS2, VS3, VS4, VS5, VS6, VT1, VT2, V74]
      · replace h := cond_f cZ3 h
        cases h
        try simp only [VS1, VS2, VS3, VS4, VS5, VS6, VT1, VT2, finM_ret, finM_nrm, decide_true, decide_false, List.nodup_nil, List.nodup_cons, oks_p, oks_m, Nat.reduceSub, Nat.reduceMul, ↓reduceIte, reduceCtorEq, Nat.reduceEqDiff, Nat.reduceAdd, Nat.reduceLeDiff, Int.reduceLE, cZ1, cZ2, cZ3]
        all_goals simp [qL, qJ, qJ0, qS, qX, qR, qM, Shp, sub, VS1, VS2, VS3, VS4, VS5, VS6, VT1, VT2, V74]
def S_laws_eqLinkSL1 (aZ0 : List TLink) (bZ0 : List TLink) (v : Int) : St := ⟨[(0, .lst .o 3 (aZ0.map (e_TLink .o))), (1, .lst .o 3 (bZ0.map (e_TLink .o))), (5, .i v)], []⟩
def SX_laws_eqLinkSL1 (v : Unit) : St := ⟨[], []⟩
theorem w_laws_eqLinkSL1 (aZ0 : List TLink) (bZ0 : List TLink) (sZ2 : Int) (o : Int ⊕ (Unit ⊕ Bool)) (h : M_laws_eqLinkSL1 aZ0 bZ0 sZ2 = some o) : AWP (OkS Try.prog) A30L1 (qL [0, 1, 5] [] (S_laws_eqLinkSL1 aZ0 bZ0) (qS (qX 0 [] [] (SX_laws_eqLinkSL1)) (qR V30 (fun r => .b r))) o) (S_laws_eqLinkSL1 aZ0 bZ0 sZ2) := by
  unfold M_laws_eqLinkSL1 at h
  simp only [S_laws_eqLinkSL1, A30L1]
  refine Or.elim (bt (decide (sZ2 < (aZ0.length : Int)))) (fun cZ3 => ?_) (fun cZ3 => ?_)
  · replace h := cond_t cZ3 h
    obtain ⟨yZ4, hyZ4, h⟩ := bind_s h
    obtain ⟨hyZ4a, hyZ4b⟩ := geti_s hyZ4
    obtain ⟨yZ5, hyZ5, h⟩ := bind_s h
    obtain ⟨hyZ5a, hyZ5b⟩ := geti_s hyZ5
    obtain ⟨rZ6, hrZ6, h⟩ := bind_s h
    simp only [VS1, VS2, VS3, VS4, VS5, VS6, VT1, VT2, finM_ret, finM_nrm, decide_true, decide_false, List.nodup_nil, List.nodup_cons, oks_p, oks_m, Nat.reduceSub, Nat.reduceMul, ↓reduceIte, reduceCtorEq, Nat.reduceEqDiff, Nat.reduceAdd, Nat.reduceLeDiff, Int.reduceLE, cZ3, hyZ4a, hyZ4b, hyZ5a, hyZ5b]
    refine call_s (by simp only [VS1, VS2, VS3, VS4, VS5, VS6, VT1, VT2, finM_ret, finM_nrm, decide_true, decide_false, List.nodup_nil, List.nodup_cons, oks_p, oks_m, Nat.reduceSub, Nat.reduceMul, ↓reduceIte, reduceCtorEq, Nat.reduceEqDiff, Nat.reduceAdd, Nat.reduceLeDiff, Int.reduceLE, cZ3, hyZ4a, hyZ4b, hyZ5a, hyZ5b]; exact w_laws_eqLink _ _ hrZ6 ) ?_
    simp only [VA, VF1, ↓reduceIte, Nat.reduceEqDiff, Nat.reduceAdd, Nat.reduceMul, Nat.reduceSub, Nat.reduceLeDiff]
    refine Or.elim (bt (!rZ6)) (fun cZ7 => ?_) (fun cZ7 => ?_)
    · replace h := cond_t cZ7 h
      cases h
      try simp only [VS1, VS2, VS3, VS4, VS5, VS6, VT1, VT2, finM_ret, finM_nrm, decide_true, decide_false, List.nodup_nil, List.nodup_cons, oks_p, oks_m, Nat.reduceSub, Nat.reduceMul, ↓reduceIte, reduceCtorEq, Nat.reduceEqDiff, Nat.reduceAdd, Nat.reduceLeDiff, Int.reduceLE, cZ3, hyZ4a, hyZ4b, hyZ5a, hyZ5b, cZ7]
      all_goals simp [qL, qJ, qJ0, qS, qX, qR, qM, Shp, sub, VS1, VS2, VS3, VS4, VS5, VS6, VT1, VT2, V30]
    · replace h := cond_f cZ7 h
      cases h
      try simp only [VS1, VS2, VS3, VS4, VS5, VS6, VT1, VT2, finM_ret, finM_nrm, decide_true, decide_false, List.nodup_nil, List.nodup_cons, oks_p, oks_m, Nat.reduceSub, Nat.reduceMul, ↓reduceIte, reduceCtorEq, Nat.reduceEqDiff, Nat.reduceAdd, Nat.reduceLeDiff, Int.reduceLE, cZ3, hyZ4a, hyZ4b, hyZ5a, hyZ5b, cZ7]
      all_goals simp [qL, qJ, qJ0, qS, qX, qR, qM, Shp, sub, VS1, VS2, VS3, VS4, VS5, VS6, VT1, VT2, S_laws_eqLinkSL1, SX_laws_eqLinkSL1]
  · replace h := cond_f cZ3 h
    cases h
    try simp only [VS1, VS2, VS3, VS4, VS5, VS6, VT1, VT2, finM_ret, finM_nrm, decide_true, decide_false, List.nodup_nil, List.nodup_cons, oks_p, oks_m, Nat.reduceSub, Nat.reduceMul, ↓reduceIte, reduceCtorEq, Nat.reduceEqDiff, Nat.reduceAdd, Nat.reduceLeDiff, Int.reduceLE, cZ3]
    all_goals simp [qL, qJ, qJ0, qS, qX, qR, qM, Shp, sub, VS1, VS2, VS3, VS4, VS5, VS6, VT1, VT2, S_laws_eqLinkSL1, SX_laws_eqLinkSL1]
theorem w_laws_eqLinkS (aZ0 : List TLink) (bZ0 : List TLink) {r : Bool} (h : M_laws_eqLinkS aZ0 bZ0 = some r) : Ok Try.prog 30 [.lst .o 3 (aZ0.map (e_TLink .o)), .lst .o 3 (bZ0.map (e_TLink .o))] ((fun r => .b r) r) := by
  refine ok_of_body hmix m30 rfl ?_
  unfold M_laws_eqLinkS at h
  simp only [A30, V30, body_eq]
  refine Or.elim (bt ((aZ0.length : Int) != (bZ0.length : Int))) (fun cZ1 => ?_) (fun cZ1 => ?_)
  · replace h := cond_t cZ1 h
    cases h
    try simp only [VS1, VS2, VS3, VS4, VS5, VS6, VT1, VT2, finM_ret, finM_nrm, decide_true, decide_false, List.nodup_nil, List.nodup_cons, oks_p, oks_m, Nat.reduceSub, Nat.reduceMul, ↓reduceIte, reduceCtorEq, Nat.reduceEqDiff, Nat.reduceAdd, Nat.reduceLeDiff, Int.reduceLE, cZ1]
    all_goals simp [qL, qJ, qJ0, qS, qX, qR, qM, Shp, sub, VS1, VS2, VS3, VS4, VS5, VS6, VT1, VT2, V30]
  · replace h := cond_f cZ1 h
    obtain ⟨oZ8, hoZ8, h⟩ := bind_s h
    try simp only [VS1, VS2, VS3, VS4, VS5, VS6, VT1, VT2, finM_ret, finM_nrm, decide_true, decide_false, List.nodup_nil, List.nodup_cons, oks_p, oks_m, Nat.reduceSub, Nat.reduceMul, ↓reduceIte, reduceCtorEq, Nat.reduceEqDiff, Nat.reduceAdd, Nat.reduceLeDiff, Int.reduceLE, cZ1]
    refine join_rule (o := oZ8) (blk_rule sideR (loop_rule (w_laws_eqLinkSL1 aZ0 bZ0) hoZ8 ?_)) (fun vZ9 hv => ?_) (fun xZ10 hv e τ hne hq => ?_)
    · all_goals simp [qL, qJ, qJ0, qS, qX, qR, qM, Shp, sub, VS1, VS2, VS3, VS4, VS5, VS6, VT1, VT2, S_laws_eqLinkSL1, SX_laws_eqLinkSL1]
    · subst hv
      simp only [] at h
      simp only [SX_laws_eqLinkSL1, A30R2]
      cases h
      try simp only [VS1, VS2, VS3, VS4, VS5, VS6, VT1, VT2, finM_ret, finM_nrm, decide_true, decide_false, List.nodup_nil, List.nodup_cons, oks_p, oks_m, Nat.reduceSub, Nat.reduceMul, ↓reduceIte, reduceCtorEq, Nat.reduceEqDiff, Nat.reduceAdd, Nat.reduceLeDiff, Int.reduceLE, cZ1]
      all_goals simp [qL, qJ, qJ0, qS, qX, qR, qM, Shp, sub, VS1, VS2, VS3, VS4, VS5, VS6, VT1, VT2, V30]
    · subst hv
      simp only [] at h
      obtain ⟨rfl, qZ11⟩ := hq
      cases h
      exact qZ11
def S_laws_markLinkSM1L1 (v : Int × Int × List TLink) : St := ⟨[(0, .sl 1000000000 0 v.2.2.length), (1, .i v.1), (5, .i v.2.1)], [(1000000000, .arr 3 (v.2.2.map (e_TLink .u)))]⟩
def SX_laws_markLinkSM1L1 (v : Int × List TLink) : St := ⟨[(1, .i v.1)], [(1000000000, .arr 3 (v.2.map (e_TLink .u)))]⟩
theorem w_laws_markLinkSM1L1 (sZ1 : Int × Int × List TLink) (o : (Int × Int × List TLink) ⊕ (Int × List TLink)) (h : M_laws_markLinkSM1L1 sZ1 = some o) : AWP (OkS Try.prog) A31M1L1 (qL [0, 1, 5] [1000000000] (S_laws_markLinkSM1L1) (qX 0 [1] [1000000000] (SX_laws_markLinkSM1L1)) o) (S_laws_markLinkSM1L1 sZ1) := by
  unfold M_laws_markLinkSM1L1 at h
  simp only [S_laws_markLinkSM1L1, A31M1L1]
  refine Or.elim (bt (decide (sZ1.2.1 < (sZ1.2.2.length : Int)))) (fun cZ2 => ?_) (fun cZ2 => ?_)
  · replace h := cond_t cZ2 h
    obtain ⟨kZ3, hkZ3, h⟩ := bind_s h
    obtain ⟨hkZ3a, hkZ3b⟩ := grd_s hkZ3
    obtain ⟨yZ4, hyZ4, h⟩ := bind_s h
    obtain ⟨lZ5, hlZ5, h⟩ := bnd_s h
    have eZ6 : (sZ1.2.2.map (e_TLink .u)).set (Int.toNat sZ1.2.1) (.agg [.i sZ1.1, .i yZ4.B, .i yZ4.Capacity]) = lZ5.map (e_TLink .u) := by rw [← hlZ5, List.map_set]; rfl
    obtain ⟨yZ7, hyZ7, h⟩ := bind_s h
    obtain ⟨lZ8, hlZ8, h⟩ := bnd_s h
    have eZ9 : (lZ5.map (e_TLink .u)).set (Int.toNat sZ1.2.1) (.agg [.i yZ7.A, .i (IntKind.wrap .i64 (sZ1.1 + 1)), .i yZ7.Capacity]) = lZ8.map (e_TLink .u) := by rw [← hlZ8, List.map_set]; rfl
    obtain ⟨yZ10, hyZ10, h⟩ := bind_s h
    obtain ⟨lZ11, hlZ11, h⟩ := bnd_s h
    have eZ12 : (lZ8.map (e_TLink .u)).set (Int.toNat sZ1.2.1) (.agg [.i yZ10.A, .i yZ10.B, .i (IntKind.wrap .i64 ((IntKind.wrap .i64 (sZ1.1 + 1)) + 1))]) = lZ11.map (e_TLink .u) := by rw [← hlZ11, List.map_set]; rfl
    cases h
    try simp only [VS1, VS2, VS3, VS4, VS5, VS6, VT1, VT2, finM_ret, finM_nrm, decide_true, decide_false, List.nodup_nil, List.nodup_cons, oks_p, oks_m, Nat.reduceSub, Nat.reduceMul, ↓reduceIte, reduceCtorEq, Nat.reduceEqDiff, Nat.reduceAdd, Nat.reduceLeDiff, Int.reduceLE, cZ2, hkZ3a, hkZ3b, hyZ4, eZ6, hyZ7, eZ9, hyZ10, eZ12]
    all_goals simp [qL, qJ, qJ0, qS, qX, qR, qM, Shp, sub, VS1, VS2, VS3, VS4, VS5, VS6, VT1, VT2, S_laws_markLinkSM1L1, SX_laws_markLinkSM1L1, ← hlZ5, ← hlZ8, ← hlZ11]
  · replace h := cond_f cZ2 h
    cases h
    try simp only [VS1, VS2, VS3, VS4, VS5, VS6, VT1, VT2, finM_ret, finM_nrm, decide_true, decide_false, List.nodup_nil, List.nodup_cons, oks_p, oks_m, Nat.reduceSub, Nat.reduceMul, ↓reduceIte, reduceCtorEq, Nat.reduceEqDiff, Nat.reduceAdd, Nat.reduceLeDiff, Int.reduceLE, cZ2]
    all_goals simp [qL, qJ, qJ0, qS, qX, qR, qM, Shp, sub, VS1, VS2, VS3, VS4, VS5, VS6, VT1, VT2, S_laws_markLinkSM1L1, SX_laws_markLinkSM1L1]
theorem w_laws_markLinkSM1 (aaZ0 : Int) (abZ0 : List TLink) {r : Int × List TLink} (h : M_laws_markLinkSM1 aaZ0 abZ0 = some r) : OkM Try.prog 31 [.sl 1000000000 0 abZ0.length, .i aaZ0] [(1000000000, .arr 3 (abZ0.map (e_TLink .u)))] ((fun (r : Int × List TLink) => .i r.1) r) ((fun (r : Int × List TLink) => [(1000000000, .arr 3 (r.2.map (e_TLink .u)))]) r) := by
  refine okM_of_body (lr := [1000000000]) hmix m31M1 rfl ?_
  unfold M_laws_markLinkSM1 at h
  simp only [A31M1, V31M1]
  obtain ⟨oZ13, hoZ13, h⟩ := bind_s h
  try simp only [VS1, VS2, VS3, VS4, VS5, VS6, VT1, VT2, finM_ret, finM_nrm, decide_true, decide_false, List.nodup_nil, List.nodup_cons, oks_p, oks_m, Nat.reduceSub, Nat.reduceMul, ↓reduceIte, reduceCtorEq, Nat.reduceEqDiff, Nat.reduceAdd, Nat.reduceLeDiff, Int.reduceLE]
  refine join_rule0 (blk_rule0 (loop_rule (w_laws_markLinkSM1L1) hoZ13 ?_)) ?_
  · all_goals simp [qL, qJ, qJ0, qS, qX, qR, qM, Shp, sub, VS1, VS2, VS3, VS4, VS5, VS6, VT1, VT2, S_laws_markLinkSM1L1, SX_laws_markLinkSM1L1]
  · simp only [SX_laws_markLinkSM1L1, A31M1R2]
    cases h
    try simp only [VS1, VS2, VS3, VS4, VS5, VS6, VT1, VT2, finM_ret, finM_nrm, decide_true, decide_false, List.nodup_nil, List.nodup_cons, oks_p, oks_m, Nat.reduceSub, Nat.reduceMul, ↓reduceIte, reduceCtorEq, Nat.reduceEqDiff, Nat.reduceAdd, Nat.reduceLeDiff, Int.reduceLE]
    all_goals simp [qL, qJ, qJ0, qS, qX, qR, qM, Shp, sub, VS1, VS2, VS3, VS4, VS5, VS6, VT1, VT2, V31M1]
def S_laws_markIntSM1L1 (v : Int × Int × List Int) : St := ⟨[(0, .sl 1000000000 0 v.2.2.length), (1, .i v.1), (5, .i v.2.1)], [(1000000000, .arr 1 (v.2.2.map AV.i))]⟩
def SX_laws_markIntSM1L1 (v : Int × List Int) : St := ⟨[(1, .i v.1)], [(1000000000, .arr 1 (v.2.map AV.i))]⟩
theorem w_laws_markIntSM1L1 (sZ1 : Int × Int × List Int) (o : (Int × Int × List Int) ⊕ (Int × List Int)) (h : M_laws_markIntSM1L1 sZ1 = some o) : AWP (OkS Try.prog) A23M1L1 (qL [0, 1, 5] [1000000000] (S_laws_markIntSM1L1) (qX 0 [1] [1000000000] (SX_laws_markIntSM1L1)) o) (S_laws_markIntSM1L1 sZ1) := by
  unfold M_laws_markIntSM1L1 at h
  simp only [S_laws_markIntSM1L1, A23M1L1]
  refine Or.elim (bt (decide (sZ1.2.1 < (sZ1.2.2.length : Int)))) (fun cZ2 => ?_) (fun cZ2 => ?_)
  · replace h := cond_t cZ2 h
    obtain ⟨kZ3, hkZ3, h⟩ := bind_s h
    obtain ⟨hkZ3a, hkZ3b⟩ := grd_s hkZ3
    obtain ⟨yZ4, hyZ4, h⟩ := bind_s h
    obtain ⟨lZ5, hlZ5, h⟩ := bnd_s h
    have eZ6 : (sZ1.2.2.map AV.i).set (Int.toNat sZ1.2.1) (.i sZ1.1) = lZ5.map AV.i := by rw [← hlZ5, List.map_set]
    cases h
    try simp only [VS1, VS2, VS3, VS4, VS5, VS6, VT1, VT2, finM_ret, finM_nrm, decide_true, decide_false, List.nodup_nil, List.nodup_cons, oks_p, oks_m, Nat.reduceSub, Nat.reduceMul, ↓reduceIte, reduceCtorEq, Nat.reduceEqDiff, Nat.reduceAdd, Nat.reduceLeDiff, Int.reduceLE, cZ2, hkZ3a, hkZ3b, hyZ4, eZ6]
    all_goals simp [qL, qJ, qJ0, qS, qX, qR, qM, Shp, sub, VS1, VS2, VS3, VS4, VS5, VS6, VT1, VT2, S_laws_markIntSM1L1, SX_laws_markIntSM1L1, ← hlZ5]
  · replace h := cond_f cZ2 h
    cases h
    try simp only [VS1, VS2, VS3, VS4, VS5, VS6, VT1, VT2, finM_ret, finM_nrm, decide_true, decide_false, List.nodup_nil, List.nodup_cons, oks_p, oks_m, Nat.reduceSub, Nat.reduceMul, ↓reduceIte, reduceCtorEq, Nat.reduceEqDiff, Nat.reduceAdd, Nat.reduceLeDiff, Int.reduceLE, cZ2]
    all_goals simp [qL, qJ, qJ0, qS, qX, qR, qM, Shp, sub, VS1, VS2, VS3, VS4, VS5, VS6, VT1, VT2, S_laws_markIntSM1L1, SX_laws_markIntSM1L1]
theorem w_laws_markIntSM1 (aaZ0 : Int) (abZ0 : List Int) {r : Int × List Int} (h : M_laws_markIntSM1 aaZ0 abZ0 = some r) : OkM Try.prog 23 [.sl 1000000000 0 abZ0.length, .i aaZ0] [(1000000000, .arr 1 (abZ0.map AV.i))] ((fun (r : Int × List Int) => .i r.1) r) ((fun (r : Int × List Int) => [(1000000000, .arr 1 (r.2.map AV.i))]) r) := by
  refine okM_of_body (lr := [1000000000]) hmix m23M1 rfl ?_
  unfold M_laws_markIntSM1 at h
  simp only [A23M1, V23M1]
  obtain ⟨oZ7, hoZ7, h⟩ := bind_s h
  try simp only [VS1, VS2, VS3, VS4, VS5, VS6, VT1, VT2, finM_ret, finM_nrm, decide_true, decide_false, List.nodup_nil, List.nodup_cons, oks_p, oks_m, Nat.reduceSub, Nat.reduceMul, ↓reduceIte, reduceCtorEq, Nat.reduceEqDiff, Nat.reduceAdd, Nat.reduceLeDiff, Int.reduceLE]
  refine join_rule0 (blk_rule0 (loop_rule (w_laws_markIntSM1L1) hoZ7 ?_)) ?_
  · all_goals simp [qL, qJ, qJ0, qS, qX, qR, qM, Shp, sub, VS1, VS2, VS3, VS4, VS5, VS6, VT1, VT2, S_laws_markIntSM1L1, SX_laws_markIntSM1L1]
  · simp only [SX_laws_markIntSM1L1, A23M1R2]
    cases h
    try simp only [VS1, VS2, VS3, VS4, VS5, VS6, VT1, VT2, finM_ret, finM_nrm, decide_true, decide_false, List.nodup_nil, List.nodup_cons, oks_p, oks_m, Nat.reduceSub, Nat.reduceMul, ↓reduceIte, reduceCtorEq, Nat.reduceEqDiff, Nat.reduceAdd, Nat.reduceLeDiff, Int.reduceLE]
    all_goals simp [qL, qJ, qJ0, qS, qX, qR, qM, Shp, sub, VS1, VS2, VS3, VS4, VS5, VS6, VT1, VT2, V23M1]
def S_laws_heldIntSL1 (aZ0 : List Int) (v : Int × Int) : St := ⟨[(0, .lst .o 1 (aZ0.map AV.i)), (1, .i v.1), (5, .i v.2)], []⟩
def SX_laws_heldIntSL1 (v : Int) : St := ⟨[(1, .i v)], []⟩
theorem w_laws_heldIntSL1 (aZ0 : List Int) (sZ1 : Int × Int) (o : (Int × Int) ⊕ (Int ⊕ Int)) (h : M_laws_heldIntSL1 aZ0 sZ1 = some o) : AWP (OkS Try.prog) A24L1 (qL [0, 1, 5] [] (S_laws_heldIntSL1 aZ0) (qS (qX 0 [1] [] (SX_laws_heldIntSL1)) (qR V24 (fun r => .i r))) o) (S_laws_heldIntSL1 aZ0 sZ1) := by
  unfold M_laws_heldIntSL1 at h
  simp only [S_laws_heldIntSL1, A24L1]
  refine Or.elim (bt (decide (sZ1.2 < (aZ0.length : Int)))) (fun cZ2 => ?_) (fun cZ2 => ?_)
  · replace h := cond_t cZ2 h
    obtain ⟨yZ3, hyZ3, h⟩ := bind_s h
    obtain ⟨hyZ3a, hyZ3b⟩ := geti_s hyZ3
    refine Or.elim (bt (yZ3 != sZ1.1)) (fun cZ4 => ?_) (fun cZ4 => ?_)
    · replace h := cond_t cZ4 h
      cases h
      try simp only [VS1, VS2, VS3, VS4, VS5, VS6, VT1, VT2, finM_ret, finM_nrm, decide_true, decide_false, List.nodup_nil, List.nodup_cons, oks_p, oks_m, Nat.reduceSub, Nat.reduceMul, ↓reduceIte, reduceCtorEq, Nat.reduceEqDiff, Nat.reduceAdd, Nat.reduceLeDiff, Int.reduceLE, cZ2, hyZ3a, hyZ3b, cZ4]
      all_goals simp [qL, qJ, qJ0, qS, qX, qR, qM, Shp, sub, VS1, VS2, VS3, VS4, VS5, VS6, VT1, VT2, V24]
    · replace h := cond_f cZ4 h
      cases h
      try simp only [VS1, VS2, VS3, VS4, VS5, VS6, VT1, VT2, finM_ret, finM_nrm, decide_true, decide_false, List.nodup_nil, List.nodup_cons, oks_p, oks_m, Nat.reduceSub, Nat.reduceMul, ↓reduceIte, reduceCtorEq, Nat.reduceEqDiff, Nat.reduceAdd, Nat.reduceLeDiff, Int.reduceLE, cZ2, hyZ3a, hyZ3b, cZ4]
      all_goals simp [qL, qJ, qJ0, qS, qX, qR, qM, Shp, sub, VS1, VS2, VS3, VS4, VS5, VS6, VT1, VT2, S_laws_heldIntSL1, SX_laws_heldIntSL1]
  · replace h := cond_f cZ2 h
    cases h
    try simp only [VS1, VS2, VS3, VS4, VS5, VS6, VT1, VT2, finM_ret, finM_nrm, decide_true, decide_false, List.nodup_nil, List.nodup_cons, oks_p, oks_m, Nat.reduceSub, Nat.reduceMul, ↓reduceIte, reduceCtorEq, Nat.reduceEqDiff, Nat.reduceAdd, Nat.reduceLeDiff, Int.reduceLE, cZ2]
    all_goals simp [qL, qJ, qJ0, qS, qX, qR, qM, Shp, sub, VS1, VS2, VS3, VS4, VS5, VS6, VT1, VT2, S_laws_heldIntSL1, SX_laws_heldIntSL1]
theorem w_laws_heldIntS (aZ0 : List Int) (kZ0 : Int) {r : Int} (h : M_laws_heldIntS aZ0 kZ0 = some r) : Ok Try.prog 24 [.lst .o 1 (aZ0.map AV.i), .i kZ0] ((fun r => .i r) r) := by
  refine ok_of_body hmix m24 rfl ?_
  unfold M_laws_heldIntS at h
  simp only [A24, V24, body_eq]
  obtain ⟨oZ5, hoZ5, h⟩ := bind_s h
  try simp only [VS1, VS2, VS3, VS4, VS5, VS6, VT1, VT2, finM_ret, finM_nrm, decide_true, decide_false, List.nodup_nil, List.nodup_cons, oks_p, oks_m, Nat.reduceSub, Nat.reduceMul, ↓reduceIte, reduceCtorEq, Nat.reduceEqDiff, Nat.reduceAdd, Nat.reduceLeDiff, Int.reduceLE]
  refine join_rule (o := oZ5) (blk_rule sideR (loop_rule (w_laws_heldIntSL1 aZ0) hoZ5 ?_)) (fun vZ6 hv => ?_) (fun xZ7 hv e τ hne hq => ?_)
  · all_goals simp [qL, qJ, qJ0, qS, qX, qR, qM, Shp, sub, VS1, VS2, VS3, VS4, VS5, VS6, VT1, VT2, S_laws_heldIntSL1, SX_laws_heldIntSL1]
  · subst hv
    simp only [] at h
    simp only [SX_laws_heldIntSL1, A24R2]
    cases h
    try simp only [VS1, VS2, VS3, VS4, VS5, VS6, VT1, VT2, finM_ret, finM_nrm, decide_true, decide_false, List.nodup_nil, List.nodup_cons, oks_p, oks_m, Nat.reduceSub, Nat.reduceMul, ↓reduceIte, reduceCtorEq, Nat.reduceEqDiff, Nat.reduceAdd, Nat.reduceLeDiff, Int.reduceLE]
    all_goals simp [qL, qJ, qJ0, qS, qX, qR, qM, Shp, sub, VS1, VS2, VS3, VS4, VS5, VS6, VT1, VT2, V24]
  · subst hv
    simp only [] at h
    obtain ⟨rfl, qZ8⟩ := hq
    cases h
    exact qZ8
theorem w_laws_FnExactRouteTributary (aLinksZ0 : List TLink) (aFreeZ0 : List Int) (aNodesZ0 : Int) (aTZ0 : TTributary) {r : Bool} (h : M_laws_FnExactRouteTributary aLinksZ0 aFreeZ0 aNodesZ0 aTZ0 = some r) : Ok Try.prog 5 [.lst .o 3 (aLinksZ0.map (e_TLink .o)), .lst .o 1 (aFreeZ0.map AV.i), .i aNodesZ0, .agg [.i aTZ0.From, .i aTZ0.To, .i aTZ0.Rate]] ((fun r => .b r) r) := by
  refine ok_of_body hmix m5 rfl ?_
  unfold M_laws_FnExactRouteTributary at h
  simp only [A5, V5, body_eq]
  refine Or.elim (bt (decide (1048576 < (aFreeZ0.length : Int)))) (fun cZ1 => ?_) (fun cZ1 => ?_)
  · replace h := cond_t cZ1 h
    cases h
    try simp only [VS1, VS2, VS3, VS4, VS5, VS6, VT1, VT2, finM_ret, finM_nrm, decide_true, decide_false, List.nodup_nil, List.nodup_cons, oks_p, oks_m, Nat.reduceSub, Nat.reduceMul, ↓reduceIte, reduceCtorEq, Nat.reduceEqDiff, Nat.reduceAdd, Nat.reduceLeDiff, Int.reduceLE, cZ1]
    all_goals simp [qL, qJ, qJ0, qS, qX, qR, qM, Shp, sub, VS1, VS2, VS3, VS4, VS5, VS6, VT1, VT2, V5]
  · replace h := cond_f cZ1 h
    obtain ⟨rZ2, hrZ2, h⟩ := bind_s h
    simp only [VS1, VS2, VS3, VS4, VS5, VS6, VT1, VT2, finM_ret, finM_nrm, decide_true, decide_false, List.nodup_nil, List.nodup_cons, oks_p, oks_m, Nat.reduceSub, Nat.reduceMul, ↓reduceIte, reduceCtorEq, Nat.reduceEqDiff, Nat.reduceAdd, Nat.reduceLeDiff, Int.reduceLE, cZ1]
    refine call_s (by simp only [VS1, VS2, VS3, VS4, VS5, VS6, VT1, VT2, finM_ret, finM_nrm, decide_true, decide_false, List.nodup_nil, List.nodup_cons, oks_p, oks_m, Nat.reduceSub, Nat.reduceMul, ↓reduceIte, reduceCtorEq, Nat.reduceEqDiff, Nat.reduceAdd, Nat.reduceLeDiff, Int.reduceLE, cZ1]; exact w_laws_szLinkS _ _ hrZ2 ) ?_
    simp only [VA, VF1, ↓reduceIte, Nat.reduceEqDiff, Nat.reduceAdd, Nat.reduceMul, Nat.reduceSub, Nat.reduceLeDiff]
    refine Or.elim (bt (decide (rZ2 < 0))) (fun cZ3 => ?_) (fun cZ3 => ?_)
    · replace h := cond_t cZ3 h
      cases h
      try simp only [VS1, VS2, VS3, VS4, VS5, VS6, VT1, VT2, finM_ret, finM_nrm, decide_true, decide_false, List.nodup_nil, List.nodup_cons, oks_p, oks_m, Nat.reduceSub, Nat.reduceMul, ↓reduceIte, reduceCtorEq, Nat.reduceEqDiff, Nat.reduceAdd, Nat.reduceLeDiff, Int.reduceLE, cZ1, cZ3]
      all_goals simp [qL, qJ, qJ0, qS, qX, qR, qM, Shp, sub, VS1, VS2, VS3, VS4, VS5, VS6, VT1, VT2, V5]
    · replace h := cond_f cZ3 h
      obtain ⟨rZ4, hrZ4, h⟩ := bind_s h
      simp only [VS1, VS2, VS3, VS4, VS5, VS6, VT1, VT2, finM_ret, finM_nrm, decide_true, decide_false, List.nodup_nil, List.nodup_cons, oks_p, oks_m, Nat.reduceSub, Nat.reduceMul, ↓reduceIte, reduceCtorEq, Nat.reduceEqDiff, Nat.reduceAdd, Nat.reduceLeDiff, Int.reduceLE, cZ1, cZ3]
      refine call_u (by simp only [VS1, VS2, VS3, VS4, VS5, VS6, VT1, VT2, finM_ret, finM_nrm, decide_true, decide_false, List.nodup_nil, List.nodup_cons, oks_p, oks_m, Nat.reduceSub, Nat.reduceMul, ↓reduceIte, reduceCtorEq, Nat.reduceEqDiff, Nat.reduceAdd, Nat.reduceLeDiff, Int.reduceLE, cZ1, cZ3]; exact w_laws_toLinkS _ hrZ4 ) (by simp [AV.allU, allUL, allUL_iff, VT1, VT2]) (by simp only [VS1, VS2, VS3, VS4, VS5, VS6, VT1, VT2, finM_ret, finM_nrm, decide_true, decide_false, List.nodup_nil, List.nodup_cons, oks_p, oks_m, Nat.reduceSub, Nat.reduceMul, ↓reduceIte, reduceCtorEq, Nat.reduceEqDiff, Nat.reduceAdd, Nat.reduceLeDiff, Int.reduceLE, Nat.reduceLT]) ?_
      simp only [VA, VF1, ↓reduceIte, Nat.reduceEqDiff, Nat.reduceAdd, Nat.reduceMul, Nat.reduceSub, Nat.reduceLeDiff]
      obtain ⟨rZ5, hrZ5, h⟩ := bind_s h
      simp only [VS1, VS2, VS3, VS4, VS5, VS6, VT1, VT2, finM_ret, finM_nrm, decide_true, decide_false, List.nodup_nil, List.nodup_cons, oks_p, oks_m, Nat.reduceSub, Nat.reduceMul, ↓reduceIte, reduceCtorEq, Nat.reduceEqDiff, Nat.reduceAdd, Nat.reduceLeDiff, Int.reduceLE, cZ1, cZ3]
      refine call_u (by simp only [VS1, VS2, VS3, VS4, VS5, VS6, VT1, VT2, finM_ret, finM_nrm, decide_true, decide_false, List.nodup_nil, List.nodup_cons, oks_p, oks_m, Nat.reduceSub, Nat.reduceMul, ↓reduceIte, reduceCtorEq, Nat.reduceEqDiff, Nat.reduceAdd, Nat.reduceLeDiff, Int.reduceLE, cZ1, cZ3]; exact w_laws_toIntS _ hrZ5 ) (by simp [AV.allU, allUL, allUL_iff, VT1, VT2]) (by simp only [VS1, VS2, VS3, VS4, VS5, VS6, VT1, VT2, finM_ret, finM_nrm, decide_true, decide_false, List.nodup_nil, List.nodup_cons, oks_p, oks_m, Nat.reduceSub, Nat.reduceMul, ↓reduceIte, reduceCtorEq, Nat.reduceEqDiff, Nat.reduceAdd, Nat.reduceLeDiff, Int.reduceLE, Nat.reduceLT]) ?_
      simp only [VA, VF1, ↓reduceIte, Nat.reduceEqDiff, Nat.reduceAdd, Nat.reduceMul, Nat.reduceSub, Nat.reduceLeDiff]
      obtain ⟨rZ6, hrZ6, h⟩ := bind_s h
      simp only [VS1, VS2, VS3, VS4, VS5, VS6, VT1, VT2, finM_ret, finM_nrm, decide_true, decide_false, List.nodup_nil, List.nodup_cons, oks_p, oks_m, Nat.reduceSub, Nat.reduceMul, ↓reduceIte, reduceCtorEq, Nat.reduceEqDiff, Nat.reduceAdd, Nat.reduceLeDiff, Int.reduceLE, cZ1, cZ3]
      refine call_u (by simp only [VS1, VS2, VS3, VS4, VS5, VS6, VT1, VT2, finM_ret, finM_nrm, decide_true, decide_false, List.nodup_nil, List.nodup_cons, oks_p, oks_m, Nat.reduceSub, Nat.reduceMul, ↓reduceIte, reduceCtorEq, Nat.reduceEqDiff, Nat.reduceAdd, Nat.reduceLeDiff, Int.reduceLE, cZ1, cZ3]; exact w_laws_toTributary _ hrZ6 ) (by simp [AV.allU, allUL, allUL_iff, VT1, VT2]) (by simp only [VS1, VS2, VS3, VS4, VS5, VS6, VT1, VT2, finM_ret, finM_nrm, decide_true, decide_false, List.nodup_nil, List.nodup_cons, oks_p, oks_m, Nat.reduceSub, Nat.reduceMul, ↓reduceIte, reduceCtorEq, Nat.reduceEqDiff, Nat.reduceAdd, Nat.reduceLeDiff, Int.reduceLE, Nat.reduceLT]) ?_
      simp only [VA, VF1, ↓reduceIte, Nat.reduceEqDiff, Nat.reduceAdd, Nat.reduceMul, Nat.reduceSub, Nat.reduceLeDiff]
      obtain ⟨rZ7, hrZ7, h⟩ := bind_s h
      simp only [VS1, VS2, VS3, VS4, VS5, VS6, VT1, VT2, finM_ret, finM_nrm, decide_true, decide_false, List.nodup_nil, List.nodup_cons, oks_p, oks_m, Nat.reduceSub, Nat.reduceMul, ↓reduceIte, reduceCtorEq, Nat.reduceEqDiff, Nat.reduceAdd, Nat.reduceLeDiff, Int.reduceLE, cZ1, cZ3]
      refine call_u (by simp only [VS1, VS2, VS3, VS4, VS5, VS6, VT1, VT2, finM_ret, finM_nrm, decide_true, decide_false, List.nodup_nil, List.nodup_cons, oks_p, oks_m, Nat.reduceSub, Nat.reduceMul, ↓reduceIte, reduceCtorEq, Nat.reduceEqDiff, Nat.reduceAdd, Nat.reduceLeDiff, Int.reduceLE, cZ1, cZ3]; exact w_spec_RouteTributary _ _ _ _ hrZ7 ) (by simp [AV.allU, allUL, allUL_iff, VT1, VT2]) (by simp only [VS1, VS2, VS3, VS4, VS5, VS6, VT1, VT2, finM_ret, finM_nrm, decide_true, decide_false, List.nodup_nil, List.nodup_cons, oks_p, oks_m, Nat.reduceSub, Nat.reduceMul, ↓reduceIte, reduceCtorEq, Nat.reduceEqDiff, Nat.reduceAdd, Nat.reduceLeDiff, Int.reduceLE, Nat.reduceLT]) ?_
      simp only [VA, VF1, ↓reduceIte, Nat.reduceEqDiff, Nat.reduceAdd, Nat.reduceMul, Nat.reduceSub, Nat.reduceLeDiff]
      obtain ⟨rZ8, hrZ8, h⟩ := bind_s h
      simp only [VS1, VS2, VS3, VS4, VS5, VS6, VT1, VT2, finM_ret, finM_nrm, decide_true, decide_false, List.nodup_nil, List.nodup_cons, oks_p, oks_m, Nat.reduceSub, Nat.reduceMul, ↓reduceIte, reduceCtorEq, Nat.reduceEqDiff, Nat.reduceAdd, Nat.reduceLeDiff, Int.reduceLE, cZ1, cZ3]
      refine call_u (by simp only [VS1, VS2, VS3, VS4, VS5, VS6, VT1, VT2, finM_ret, finM_nrm, decide_true, decide_false, List.nodup_nil, List.nodup_cons, oks_p, oks_m, Nat.reduceSub, Nat.reduceMul, ↓reduceIte, reduceCtorEq, Nat.reduceEqDiff, Nat.reduceAdd, Nat.reduceLeDiff, Int.reduceLE, cZ1, cZ3]; exact w_laws_toLinkS _ hrZ8 ) (by simp [AV.allU, allUL, allUL_iff, VT1, VT2]) (by simp only [VS1, VS2, VS3, VS4, VS5, VS6, VT1, VT2, finM_ret, finM_nrm, decide_true, decide_false, List.nodup_nil, List.nodup_cons, oks_p, oks_m, Nat.reduceSub, Nat.reduceMul, ↓reduceIte, reduceCtorEq, Nat.reduceEqDiff, Nat.reduceAdd, Nat.reduceLeDiff, Int.reduceLE, Nat.reduceLT]) ?_
      simp only [VA, VF1, ↓reduceIte, Nat.reduceEqDiff, Nat.reduceAdd, Nat.reduceMul, Nat.reduceSub, Nat.reduceLeDiff]
      obtain ⟨rZ9, hrZ9, h⟩ := bind_s h
      simp only [VS1, VS2, VS3, VS4, VS5, VS6, VT1, VT2, finM_ret, finM_nrm, decide_true, decide_false, List.nodup_nil, List.nodup_cons, oks_p, oks_m, Nat.reduceSub, Nat.reduceMul, ↓reduceIte, reduceCtorEq, Nat.reduceEqDiff, Nat.reduceAdd, Nat.reduceLeDiff, Int.reduceLE, cZ1, cZ3]
      refine call_u (by simp only [VS1, VS2, VS3, VS4, VS5, VS6, VT1, VT2, finM_ret, finM_nrm, decide_true, decide_false, List.nodup_nil, List.nodup_cons, oks_p, oks_m, Nat.reduceSub, Nat.reduceMul, ↓reduceIte, reduceCtorEq, Nat.reduceEqDiff, Nat.reduceAdd, Nat.reduceLeDiff, Int.reduceLE, cZ1, cZ3]; exact w_laws_toIntS _ hrZ9 ) (by simp [AV.allU, allUL, allUL_iff, VT1, VT2]) (by simp only [VS1, VS2, VS3, VS4, VS5, VS6, VT1, VT2, finM_ret, finM_nrm, decide_true, decide_false, List.nodup_nil, List.nodup_cons, oks_p, oks_m, Nat.reduceSub, Nat.reduceMul, ↓reduceIte, reduceCtorEq, Nat.reduceEqDiff, Nat.reduceAdd, Nat.reduceLeDiff, Int.reduceLE, Nat.reduceLT]) ?_
      simp only [VA, VF1, ↓reduceIte, Nat.reduceEqDiff, Nat.reduceAdd, Nat.reduceMul, Nat.reduceSub, Nat.reduceLeDiff]
      obtain ⟨rZ10, hrZ10, h⟩ := bind_s h
      simp only [VS1, VS2, VS3, VS4, VS5, VS6, VT1, VT2, finM_ret, finM_nrm, decide_true, decide_false, List.nodup_nil, List.nodup_cons, oks_p, oks_m, Nat.reduceSub, Nat.reduceMul, ↓reduceIte, reduceCtorEq, Nat.reduceEqDiff, Nat.reduceAdd, Nat.reduceLeDiff, Int.reduceLE, cZ1, cZ3]
      refine call_u (by simp only [VS1, VS2, VS3, VS4, VS5, VS6, VT1, VT2, finM_ret, finM_nrm, decide_true, decide_false, List.nodup_nil, List.nodup_cons, oks_p, oks_m, Nat.reduceSub, Nat.reduceMul, ↓reduceIte, reduceCtorEq, Nat.reduceEqDiff, Nat.reduceAdd, Nat.reduceLeDiff, Int.reduceLE, cZ1, cZ3]; exact w_laws_toTributary _ hrZ10 ) (by simp [AV.allU, allUL, allUL_iff, VT1, VT2]) (by simp only [VS1, VS2, VS3, VS4, VS5, VS6, VT1, VT2, finM_ret, finM_nrm, decide_true, decide_false, List.nodup_nil, List.nodup_cons, oks_p, oks_m, Nat.reduceSub, Nat.reduceMul, ↓reduceIte, reduceCtorEq, Nat.reduceEqDiff, Nat.reduceAdd, Nat.reduceLeDiff, Int.reduceLE, Nat.reduceLT]) ?_
      simp only [VA, VF1, ↓reduceIte, Nat.reduceEqDiff, Nat.reduceAdd, Nat.reduceMul, Nat.reduceSub, Nat.reduceLeDiff]
      obtain ⟨rZ11, hrZ11, h⟩ := bind_s h
      simp only [VS1, VS2, VS3, VS4, VS5, VS6, VT1, VT2, finM_ret, finM_nrm, decide_true, decide_false, List.nodup_nil, List.nodup_cons, oks_p, oks_m, Nat.reduceSub, Nat.reduceMul, ↓reduceIte, reduceCtorEq, Nat.reduceEqDiff, Nat.reduceAdd, Nat.reduceLeDiff, Int.reduceLE, cZ1, cZ3]
      refine call_u (by simp only [VS1, VS2, VS3, VS4, VS5, VS6, VT1, VT2, finM_ret, finM_nrm, decide_true, decide_false, List.nodup_nil, List.nodup_cons, oks_p, oks_m, Nat.reduceSub, Nat.reduceMul, ↓reduceIte, reduceCtorEq, Nat.reduceEqDiff, Nat.reduceAdd, Nat.reduceLeDiff, Int.reduceLE, cZ1, cZ3]; exact w_impl_RouteTributary _ _ _ _ hrZ11 ) (by simp [AV.allU, allUL, allUL_iff, VT1, VT2]) (by simp only [VS1, VS2, VS3, VS4, VS5, VS6, VT1, VT2, finM_ret, finM_nrm, decide_true, decide_false, List.nodup_nil, List.nodup_cons, oks_p, oks_m, Nat.reduceSub, Nat.reduceMul, ↓reduceIte, reduceCtorEq, Nat.reduceEqDiff, Nat.reduceAdd, Nat.reduceLeDiff, Int.reduceLE, Nat.reduceLT]) ?_
      simp only [VA, VF1, ↓reduceIte, Nat.reduceEqDiff, Nat.reduceAdd, Nat.reduceMul, Nat.reduceSub, Nat.reduceLeDiff]
      obtain ⟨oZ15, hoZ15, h⟩ := bind_s h
      try simp only [VS1, VS2, VS3, VS4, VS5, VS6, VT1, VT2, finM_ret, finM_nrm, decide_true, decide_false, List.nodup_nil, List.nodup_cons, oks_p, oks_m, Nat.reduceSub, Nat.reduceMul, ↓reduceIte, reduceCtorEq, Nat.reduceEqDiff, Nat.reduceAdd, Nat.reduceLeDiff, Int.reduceLE, cZ1, cZ3]
      refine join_rule0 (sh := (fun v => ⟨[(0, .lst .o 3 (aLinksZ0.map (e_TLink .o))), (1, .lst .o 1 (aFreeZ0.map AV.i)), (2, .i aNodesZ0), (7, .pt 7 0 0), (10, .sl 10 0 rZ7.1.length), (11, .b rZ7.2.1), (12, .b rZ7.2.2), (13, .sl 13 0 rZ8.length), (14, .sl 14 0 rZ9.length), (15, .sl 15 0 rZ11.1.length), (16, .b rZ11.2.1), (17, .b rZ11.2.2), (71, .b v)], [(7, .var (.agg [.i aTZ0.From, .i aTZ0.To, .i aTZ0.Rate])), (10, .arr 1 (rZ7.1.map AV.i)), (13, .arr 3 (rZ8.map (e_TLink .u))), (14, .arr 1 (rZ9.map AV.i)), (15, .arr 1 (rZ11.1.map AV.i))]⟩)) (s := oZ15) ?_ ?_
      · replace h := hoZ15
        obtain ⟨rZ12, hrZ12, h⟩ := bind_s h
        simp only [VS1, VS2, VS3, VS4, VS5, VS6, VT1, VT2, finM_ret, finM_nrm, decide_true, decide_false, List.nodup_nil, List.nodup_cons, oks_p, oks_m, Nat.reduceSub, Nat.reduceMul, ↓reduceIte, reduceCtorEq, Nat.reduceEqDiff, Nat.reduceAdd, Nat.reduceLeDiff, Int.reduceLE, cZ1, cZ3]
        refine call_s (by simp only [VS1, VS2, VS3, VS4, VS5, VS6, VT1, VT2, finM_ret, finM_nrm, decide_true, decide_false, List.nodup_nil, List.nodup_cons, oks_p, oks_m, Nat.reduceSub, Nat.reduceMul, ↓reduceIte, reduceCtorEq, Nat.reduceEqDiff, Nat.reduceAdd, Nat.reduceLeDiff, Int.reduceLE, cZ1, cZ3]; exact w_laws_eqIntS _ _ hrZ12 ) ?_
        simp only [VA, VF1, ↓reduceIte, Nat.reduceEqDiff, Nat.reduceAdd, Nat.reduceMul, Nat.reduceSub, Nat.reduceLeDiff]
        refine Or.elim (bt (!rZ12)) (fun cZ13 => ?_) (fun cZ13 => ?_)
        · replace h := cond_t cZ13 h
          cases h
          try simp only [VS1, VS2, VS3, VS4, VS5, VS6, VT1, VT2, finM_ret, finM_nrm, decide_true, decide_false, List.nodup_nil, List.nodup_cons, oks_p, oks_m, Nat.reduceSub, Nat.reduceMul, ↓reduceIte, reduceCtorEq, Nat.reduceEqDiff, Nat.reduceAdd, Nat.reduceLeDiff, Int.reduceLE, cZ1, cZ3, cZ13]
          all_goals simp [qL, qJ, qJ0, qS, qX, qR, qM, Shp, sub, VS1, VS2, VS3, VS4, VS5, VS6, VT1, VT2]
        · replace h := cond_f cZ13 h
          refine Or.elim (bt (!(rZ11.2.1 == rZ7.2.1))) (fun cZ14 => ?_) (fun cZ14 => ?_)
          · replace h := cond_t cZ14 h
            cases h
            try simp only [VS1, VS2, VS3, VS4, VS5, VS6, VT1, VT2, finM_ret, finM_nrm, decide_true, decide_false, List.nodup_nil, List.nodup_cons, oks_p, oks_m, Nat.reduceSub, Nat.reduceMul, ↓reduceIte, reduceCtorEq, Nat.reduceEqDiff, Nat.reduceAdd, Nat.reduceLeDiff, Int.reduceLE, cZ1, cZ3, cZ13, cZ14]
            all_goals simp [qL, qJ, qJ0, qS, qX, qR, qM, Shp, sub, VS1, VS2, VS3, VS4, VS5, VS6, VT1, VT2]
          · replace h := cond_f cZ14 h
            cases h
            try simp only [VS1, VS2, VS3, VS4, VS5, VS6, VT1, VT2, finM_ret, finM_nrm, decide_true, decide_false, List.nodup_nil, List.nodup_cons, oks_p, oks_m, Nat.reduceSub, Nat.reduceMul, ↓reduceIte, reduceCtorEq, Nat.reduceEqDiff, Nat.reduceAdd, Nat.reduceLeDiff, Int.reduceLE, cZ1, cZ3, cZ13, cZ14]
            all_goals simp [qL, qJ, qJ0, qS, qX, qR, qM, Shp, sub, VS1, VS2, VS3, VS4, VS5, VS6, VT1, VT2]
      · simp only [A5R1]
        refine Or.elim (bt (oZ15)) (fun cZ16 => ?_) (fun cZ16 => ?_)
        · replace h := cond_t cZ16 h
          cases h
          try simp only [VS1, VS2, VS3, VS4, VS5, VS6, VT1, VT2, finM_ret, finM_nrm, decide_true, decide_false, List.nodup_nil, List.nodup_cons, oks_p, oks_m, Nat.reduceSub, Nat.reduceMul, ↓reduceIte, reduceCtorEq, Nat.reduceEqDiff, Nat.reduceAdd, Nat.reduceLeDiff, Int.reduceLE, cZ1, cZ3, cZ16]
          all_goals simp [qL, qJ, qJ0, qS, qX, qR, qM, Shp, sub, VS1, VS2, VS3, VS4, VS5, VS6, VT1, VT2, V5]
        · replace h := cond_f cZ16 h
          obtain ⟨rZ17, hrZ17, h⟩ := bind_s h
          simp only [VS1, VS2, VS3, VS4, VS5, VS6, VT1, VT2, finM_ret, finM_nrm, decide_true, decide_false, List.nodup_nil, List.nodup_cons, oks_p, oks_m, Nat.reduceSub, Nat.reduceMul, ↓reduceIte, reduceCtorEq, Nat.reduceEqDiff, Nat.reduceAdd, Nat.reduceLeDiff, Int.reduceLE, cZ1, cZ3, cZ16]
          refine call_u (by simp only [VS1, VS2, VS3, VS4, VS5, VS6, VT1, VT2, finM_ret, finM_nrm, decide_true, decide_false, List.nodup_nil, List.nodup_cons, oks_p, oks_m, Nat.reduceSub, Nat.reduceMul, ↓reduceIte, reduceCtorEq, Nat.reduceEqDiff, Nat.reduceAdd, Nat.reduceLeDiff, Int.reduceLE, cZ1, cZ3, cZ16]; exact w_laws_toLinkS _ hrZ17 ) (by simp [AV.allU, allUL, allUL_iff, VT1, VT2]) (by simp only [VS1, VS2, VS3, VS4, VS5, VS6, VT1, VT2, finM_ret, finM_nrm, decide_true, decide_false, List.nodup_nil, List.nodup_cons, oks_p, oks_m, Nat.reduceSub, Nat.reduceMul, ↓reduceIte, reduceCtorEq, Nat.reduceEqDiff, Nat.reduceAdd, Nat.reduceLeDiff, Int.reduceLE, Nat.reduceLT]) ?_
          simp only [VA, VF1, ↓reduceIte, Nat.reduceEqDiff, Nat.reduceAdd, Nat.reduceMul, Nat.reduceSub, Nat.reduceLeDiff]
          obtain ⟨rZ18, hrZ18, h⟩ := bind_s h
          simp only [VS1, VS2, VS3, VS4, VS5, VS6, VT1, VT2, finM_ret, finM_nrm, decide_true, decide_false, List.nodup_nil, List.nodup_cons, oks_p, oks_m, Nat.reduceSub, Nat.reduceMul, ↓reduceIte, reduceCtorEq, Nat.reduceEqDiff, Nat.reduceAdd, Nat.reduceLeDiff, Int.reduceLE, cZ1, cZ3, cZ16]
          refine call_s (by simp only [VS1, VS2, VS3, VS4, VS5, VS6, VT1, VT2, finM_ret, finM_nrm, decide_true, decide_false, List.nodup_nil, List.nodup_cons, oks_p, oks_m, Nat.reduceSub, Nat.reduceMul, ↓reduceIte, reduceCtorEq, Nat.reduceEqDiff, Nat.reduceAdd, Nat.reduceLeDiff, Int.reduceLE, cZ1, cZ3, cZ16]; exact w_laws_eqLinkS _ _ hrZ18 ) ?_
          simp only [VA, VF1, ↓reduceIte, Nat.reduceEqDiff, Nat.reduceAdd, Nat.reduceMul, Nat.reduceSub, Nat.reduceLeDiff]
          refine Or.elim (bt (!rZ18)) (fun cZ19 => ?_) (fun cZ19 => ?_)
          · replace h := cond_t cZ19 h
            cases h
            try simp only [VS1, VS2, VS3, VS4, VS5, VS6, VT1, VT2, finM_ret, finM_nrm, decide_true, decide_false, List.nodup_nil, List.nodup_cons, oks_p, oks_m, Nat.reduceSub, Nat.reduceMul, ↓reduceIte, reduceCtorEq, Nat.reduceEqDiff, Nat.reduceAdd, Nat.reduceLeDiff, Int.reduceLE, cZ1, cZ3, cZ16, cZ19]
            all_goals simp [qL, qJ, qJ0, qS, qX, qR, qM, Shp, sub, VS1, VS2, VS3, VS4, VS5, VS6, VT1, VT2, V5]
          · replace h := cond_f cZ19 h
            obtain ⟨rZ20, hrZ20, h⟩ := bind_s h
            simp only [VS1, VS2, VS3, VS4, VS5, VS6, VT1, VT2, finM_ret, finM_nrm, decide_true, decide_false, List.nodup_nil, List.nodup_cons, oks_p, oks_m, Nat.reduceSub, Nat.reduceMul, ↓reduceIte, reduceCtorEq, Nat.reduceEqDiff, Nat.reduceAdd, Nat.reduceLeDiff, Int.reduceLE, cZ1, cZ3, cZ16, cZ19]
            refine call_u (by simp only [VS1, VS2, VS3, VS4, VS5, VS6, VT1, VT2, finM_ret, finM_nrm, decide_true, decide_false, List.nodup_nil, List.nodup_cons, oks_p, oks_m, Nat.reduceSub, Nat.reduceMul, ↓reduceIte, reduceCtorEq, Nat.reduceEqDiff, Nat.reduceAdd, Nat.reduceLeDiff, Int.reduceLE, cZ1, cZ3, cZ16, cZ19]; exact w_laws_toIntS _ hrZ20 ) (by simp [AV.allU, allUL, allUL_iff, VT1, VT2]) (by simp only [VS1, VS2, VS3, VS4, VS5, VS6, VT1, VT2, finM_ret, finM_nrm, decide_true, decide_false, List.nodup_nil, List.nodup_cons, oks_p, oks_m, Nat.reduceSub, Nat.reduceMul, ↓reduceIte, reduceCtorEq, Nat.reduceEqDiff, Nat.reduceAdd, Nat.reduceLeDiff, Int.reduceLE, Nat.reduceLT]) ?_
            simp only [VA, VF1, ↓reduceIte, Nat.reduceEqDiff, Nat.reduceAdd, Nat.reduceMul, Nat.reduceSub, Nat.reduceLeDiff]
            obtain ⟨rZ21, hrZ21, h⟩ := bind_s h
            simp only [VS1, VS2, VS3, VS4, VS5, VS6, VT1, VT2, finM_ret, finM_nrm, decide_true, decide_false, List.nodup_nil, List.nodup_cons, oks_p, oks_m, Nat.reduceSub, Nat.reduceMul, ↓reduceIte, reduceCtorEq, Nat.reduceEqDiff, Nat.reduceAdd, Nat.reduceLeDiff, Int.reduceLE, cZ1, cZ3, cZ16, cZ19]
            refine call_s (by simp only [VS1, VS2, VS3, VS4, VS5, VS6, VT1, VT2, finM_ret, finM_nrm, decide_true, decide_false, List.nodup_nil, List.nodup_cons, oks_p, oks_m, Nat.reduceSub, Nat.reduceMul, ↓reduceIte, reduceCtorEq, Nat.reduceEqDiff, Nat.reduceAdd, Nat.reduceLeDiff, Int.reduceLE, cZ1, cZ3, cZ16, cZ19]; exact w_laws_eqIntS _ _ hrZ21 ) ?_
            simp only [VA, VF1, ↓reduceIte, Nat.reduceEqDiff, Nat.reduceAdd, Nat.reduceMul, Nat.reduceSub, Nat.reduceLeDiff]
            refine Or.elim (bt (!rZ21)) (fun cZ22 => ?_) (fun cZ22 => ?_)
            · replace h := cond_t cZ22 h
              cases h
              try simp only [VS1, VS2, VS3, VS4, VS5, VS6, VT1, VT2, finM_ret, finM_nrm, decide_true, decide_false, List.nodup_nil, List.nodup_cons, oks_p, oks_m, Nat.reduceSub, Nat.reduceMul, ↓reduceIte, reduceCtorEq, Nat.reduceEqDiff, Nat.reduceAdd, Nat.reduceLeDiff, Int.reduceLE, cZ1, cZ3, cZ16, cZ19, cZ22]
              all_goals simp [qL, qJ, qJ0, qS, qX, qR, qM, Shp, sub, VS1, VS2, VS3, VS4, VS5, VS6, VT1, VT2, V5]
            · replace h := cond_f cZ22 h
              obtain ⟨rZ23, hrZ23, h⟩ := bind_s h
              simp only [VS1, VS2, VS3, VS4, VS5, VS6, VT1, VT2, finM_ret, finM_nrm, decide_true, decide_false, List.nodup_nil, List.nodup_cons, oks_p, oks_m, Nat.reduceSub, Nat.reduceMul, ↓reduceIte, reduceCtorEq, Nat.reduceEqDiff, Nat.reduceAdd, Nat.reduceLeDiff, Int.reduceLE, cZ1, cZ3, cZ16, cZ19, cZ22]
              refine call_m (by simp only [VS1, VS2, VS3, VS4, VS5, VS6, VT1, VT2, finM_ret, finM_nrm, decide_true, decide_false, List.nodup_nil, List.nodup_cons, oks_p, oks_m, Nat.reduceSub, Nat.reduceMul, ↓reduceIte, reduceCtorEq, Nat.reduceEqDiff, Nat.reduceAdd, Nat.reduceLeDiff, Int.reduceLE, cZ1, cZ3, cZ16, cZ19, cZ22]; exact w_laws_markLinkSM1 _ _ hrZ23) (by simp [VS1, VS2, VS3, VS4, VS5, VS6, VT1, VT2]) (by simp [VS1, VS2, VS3, VS4, VS5, VS6, VT1, VT2]) ?_
              simp only [VA, VF1, ↓reduceIte, Nat.reduceEqDiff, Nat.reduceAdd, Nat.reduceMul, Nat.reduceSub, Nat.reduceLeDiff]
              obtain ⟨rZ24, hrZ24, h⟩ := bind_s h
              simp only [VS1, VS2, VS3, VS4, VS5, VS6, VT1, VT2, finM_ret, finM_nrm, decide_true, decide_false, List.nodup_nil, List.nodup_cons, oks_p, oks_m, Nat.reduceSub, Nat.reduceMul, ↓reduceIte, reduceCtorEq, Nat.reduceEqDiff, Nat.reduceAdd, Nat.reduceLeDiff, Int.reduceLE, cZ1, cZ3, cZ16, cZ19, cZ22]
              refine call_m (by simp only [VS1, VS2, VS3, VS4, VS5, VS6, VT1, VT2, finM_ret, finM_nrm, decide_true, decide_false, List.nodup_nil, List.nodup_cons, oks_p, oks_m, Nat.reduceSub, Nat.reduceMul, ↓reduceIte, reduceCtorEq, Nat.reduceEqDiff, Nat.reduceAdd, Nat.reduceLeDiff, Int.reduceLE, cZ1, cZ3, cZ16, cZ19, cZ22]; exact w_laws_markIntSM1 _ _ hrZ24) (by simp [VS1, VS2, VS3, VS4, VS5, VS6, VT1, VT2]) (by simp [VS1, VS2, VS3, VS4, VS5, VS6, VT1, VT2]) ?_
              simp only [VA, VF1, ↓reduceIte, Nat.reduceEqDiff, Nat.reduceAdd, Nat.reduceMul, Nat.reduceSub, Nat.reduceLeDiff]
              obtain ⟨oZ29, hoZ29, h⟩ := bind_s h
              try simp only [VS1, VS2, VS3, VS4, VS5, VS6, VT1, VT2, finM_ret, finM_nrm, decide_true, decide_false, List.nodup_nil, List.nodup_cons, oks_p, oks_m, Nat.reduceSub, Nat.reduceMul, ↓reduceIte, reduceCtorEq, Nat.reduceEqDiff, Nat.reduceAdd, Nat.reduceLeDiff, Int.reduceLE, cZ1, cZ3, cZ16, cZ19, cZ22]
              refine join_rule0 (sh := (fun v => ⟨[(0, .lst .o 3 (aLinksZ0.map (e_TLink .o))), (1, .lst .o 1 (aFreeZ0.map AV.i)), (2, .i aNodesZ0), (7, .pt 7 0 0), (10, .sl 10 0 rZ7.1.length), (11, .b rZ7.2.1), (12, .b rZ7.2.2), (15, .sl 15 0 rZ11.1.length), (105, .b v)], [(7, .var (.agg [.i aTZ0.From, .i aTZ0.To, .i aTZ0.Rate])), (10, .arr 1 (rZ7.1.map AV.i)), (15, .arr 1 (rZ11.1.map AV.i))]⟩)) (s := oZ29) ?_ ?_
              · replace h := hoZ29
                refine Or.elim (bt (decide (rZ24.1 < 0))) (fun cZ25 => ?_) (fun cZ25 => ?_)
                · replace h := cond_t cZ25 h
                  cases h
                  try simp only [VS1, VS2, VS3, VS4, VS5, VS6, VT1, VT2, finM_ret, finM_nrm, decide_true, decide_false, List.nodup_nil, List.nodup_cons, oks_p, oks_m, Nat.reduceSub, Nat.reduceMul, ↓reduceIte, reduceCtorEq, Nat.reduceEqDiff, Nat.reduceAdd, Nat.reduceLeDiff, Int.reduceLE, cZ1, cZ3, cZ16, cZ19, cZ22, cZ25]
                  all_goals simp [qL, qJ, qJ0, qS, qX, qR, qM, Shp, sub, VS1, VS2, VS3, VS4, VS5, VS6, VT1, VT2]
                · replace h := cond_f cZ25 h
                  obtain ⟨rZ26, hrZ26, h⟩ := bind_s h
                  simp only [VS1, VS2, VS3, VS4, VS5, VS6, VT1, VT2, finM_ret, finM_nrm, decide_true, decide_false, List.nodup_nil, List.nodup_cons, oks_p, oks_m, Nat.reduceSub, Nat.reduceMul, ↓reduceIte, reduceCtorEq, Nat.reduceEqDiff, Nat.reduceAdd, Nat.reduceLeDiff, Int.reduceLE, cZ1, cZ3, cZ16, cZ19, cZ22, cZ25]
                  refine call_s (by simp only [VS1, VS2, VS3, VS4, VS5, VS6, VT1, VT2, finM_ret, finM_nrm, decide_true, decide_false, List.nodup_nil, List.nodup_cons, oks_p, oks_m, Nat.reduceSub, Nat.reduceMul, ↓reduceIte, reduceCtorEq, Nat.reduceEqDiff, Nat.reduceAdd, Nat.reduceLeDiff, Int.reduceLE, cZ1, cZ3, cZ16, cZ19, cZ22, cZ25]; exact w_laws_eqIntS _ _ hrZ26 ) ?_
                  simp only [VA, VF1, ↓reduceIte, Nat.reduceEqDiff, Nat.reduceAdd, Nat.reduceMul, Nat.reduceSub, Nat.reduceLeDiff]
                  refine Or.elim (bt (!rZ26)) (fun cZ27 => ?_) (fun cZ27 => ?_)
                  · replace h := cond_t cZ27 h
                    cases h
                    try simp only [VS1, VS2, VS3, VS4, VS5, VS6, VT1, VT2, finM_ret, finM_nrm, decide_true, decide_false, List.nodup_nil, List.nodup_cons, oks_p, oks_m, Nat.reduceSub, Nat.reduceMul, ↓reduceIte, reduceCtorEq, Nat.reduceEqDiff, Nat.reduceAdd, Nat.reduceLeDiff, Int.reduceLE, cZ1, cZ3, cZ16, cZ19, cZ22, cZ25, cZ27]
                    all_goals simp [qL, qJ, qJ0, qS, qX, qR, qM, Shp, sub, VS1, VS2, VS3, VS4, VS5, VS6, VT1, VT2]
                  · replace h := cond_f cZ27 h
                    refine Or.elim (bt (!(rZ11.2.1 == rZ7.2.1))) (fun cZ28 => ?_) (fun cZ28 => ?_)
                    · replace h := cond_t cZ28 h
                      cases h
                      try simp only [VS1, VS2, VS3, VS4, VS5, VS6, VT1, VT2, finM_ret, finM_nrm, decide_true, decide_false, List.nodup_nil, List.nodup_cons, oks_p, oks_m, Nat.reduceSub, Nat.reduceMul, ↓reduceIte, reduceCtorEq, Nat.reduceEqDiff, Nat.reduceAdd, Nat.reduceLeDiff, Int.reduceLE, cZ1, cZ3, cZ16, cZ19, cZ22, cZ25, cZ27, cZ28]
                      all_goals simp [qL, qJ, qJ0, qS, qX, qR, qM, Shp, sub, VS1, VS2, VS3, VS4, VS5, VS6, VT1, VT2]
                    · replace h := cond_f cZ28 h
                      cases h
                      try simp only [VS1, VS2, VS3, VS4, VS5, VS6, VT1, VT2, finM_ret, finM_nrm, decide_true, decide_false, List.nodup_nil, List.nodup_cons, oks_p, oks_m, Nat.reduceSub, Nat.reduceMul, ↓reduceIte, reduceCtorEq, Nat.reduceEqDiff, Nat.reduceAdd, Nat.reduceLeDiff, Int.reduceLE, cZ1, cZ3, cZ16, cZ19, cZ22, cZ25, cZ27, cZ28]
                      all_goals simp [qL, qJ, qJ0, qS, qX, qR, qM, Shp, sub, VS1, VS2, VS3, VS4, VS5, VS6, VT1, VT2]
              · simp only [A5R2]
                refine Or.elim (bt (oZ29)) (fun cZ30 => ?_) (fun cZ30 => ?_)
                · replace h := cond_t cZ30 h
                  cases h
                  try simp only [VS1, VS2, VS3, VS4, VS5, VS6, VT1, VT2, finM_ret, finM_nrm, decide_true, decide_false, List.nodup_nil, List.nodup_cons, oks_p, oks_m, Nat.reduceSub, Nat.reduceMul, ↓reduceIte, reduceCtorEq, Nat.reduceEqDiff, Nat.reduceAdd, Nat.reduceLeDiff, Int.reduceLE, cZ1, cZ3, cZ16, cZ19, cZ22, cZ30]
                  all_goals simp [qL, qJ, qJ0, qS, qX, qR, qM, Shp, sub, VS1, VS2, VS3, VS4, VS5, VS6, VT1, VT2, V5]
                · replace h := cond_f cZ30 h
                  obtain ⟨rZ31, hrZ31, h⟩ := bind_s h
                  simp only [VS1, VS2, VS3, VS4, VS5, VS6, VT1, VT2, finM_ret, finM_nrm, decide_true, decide_false, List.nodup_nil, List.nodup_cons, oks_p, oks_m, Nat.reduceSub, Nat.reduceMul, ↓reduceIte, reduceCtorEq, Nat.reduceEqDiff, Nat.reduceAdd, Nat.reduceLeDiff, Int.reduceLE, cZ1, cZ3, cZ16, cZ19, cZ22, cZ30]
                  refine call_m (by simp only [VS1, VS2, VS3, VS4, VS5, VS6, VT1, VT2, finM_ret, finM_nrm, decide_true, decide_false, List.nodup_nil, List.nodup_cons, oks_p, oks_m, Nat.reduceSub, Nat.reduceMul, ↓reduceIte, reduceCtorEq, Nat.reduceEqDiff, Nat.reduceAdd, Nat.reduceLeDiff, Int.reduceLE, cZ1, cZ3, cZ16, cZ19, cZ22, cZ30]; exact w_laws_markIntSM1 _ _ hrZ31) (by simp [VS1, VS2, VS3, VS4, VS5, VS6, VT1, VT2]) (by simp [VS1, VS2, VS3, VS4, VS5, VS6, VT1, VT2]) ?_
                  simp only [VA, VF1, ↓reduceIte, Nat.reduceEqDiff, Nat.reduceAdd, Nat.reduceMul, Nat.reduceSub, Nat.reduceLeDiff]
                  obtain ⟨lZ32, hlZ32, h⟩ := bnd_s h
                  have eZ33 : sub (rZ31.2.map AV.i) 0 rZ11.1.length = lZ32.map AV.i := by rw [sub_mapT, hlZ32]
                  obtain ⟨rZ34, hrZ34, h⟩ := bind_s h
                  simp only [VS1, VS2, VS3, VS4, VS5, VS6, VT1, VT2, finM_ret, finM_nrm, decide_true, decide_false, List.nodup_nil, List.nodup_cons, oks_p, oks_m, Nat.reduceSub, Nat.reduceMul, ↓reduceIte, reduceCtorEq, Nat.reduceEqDiff, Nat.reduceAdd, Nat.reduceLeDiff, Int.reduceLE, cZ1, cZ3, cZ16, cZ19, cZ22, cZ30, eZ33]
                  refine call_s (by simp only [VS1, VS2, VS3, VS4, VS5, VS6, VT1, VT2, finM_ret, finM_nrm, decide_true, decide_false, List.nodup_nil, List.nodup_cons, oks_p, oks_m, Nat.reduceSub, Nat.reduceMul, ↓reduceIte, reduceCtorEq, Nat.reduceEqDiff, Nat.reduceAdd, Nat.reduceLeDiff, Int.reduceLE, cZ1, cZ3, cZ16, cZ19, cZ22, cZ30, eZ33]; exact w_laws_heldIntS _ _ hrZ34 ) ?_
                  simp only [VA, VF1, ↓reduceIte, Nat.reduceEqDiff, Nat.reduceAdd, Nat.reduceMul, Nat.reduceSub, Nat.reduceLeDiff]
                  refine Or.elim (bt (decide (rZ34 < 0))) (fun cZ35 => ?_) (fun cZ35 => ?_)
                  · replace h := cond_t cZ35 h
                    cases h
                    try simp only [VS1, VS2, VS3, VS4, VS5, VS6, VT1, VT2, finM_ret, finM_nrm, decide_true, decide_false, List.nodup_nil, List.nodup_cons, oks_p, oks_m, Nat.reduceSub, Nat.reduceMul, ↓reduceIte, reduceCtorEq, Nat.reduceEqDiff, Nat.reduceAdd, Nat.reduceLeDiff, Int.reduceLE, cZ1, cZ3, cZ16, cZ19, cZ22, cZ30, eZ33, cZ35]
                    all_goals simp [qL, qJ, qJ0, qS, qX, qR, qM, Shp, sub, VS1, VS2, VS3, VS4, VS5, VS6, VT1, VT2, V5]
                  · replace h := cond_f cZ35 h
                    refine Or.elim (bt (rZ34 != rZ31.1)) (fun cZ36 => ?_) (fun cZ36 => ?_)
                    · replace h := cond_t cZ36 h
                      cases h
                      try simp only [VS1, VS2, VS3, VS4, VS5, VS6, VT1, VT2, finM_ret, finM_nrm, decide_true, decide_false, List.nodup_nil, List.nodup_cons, oks_p, oks_m, Nat.reduceSub, Nat.reduceMul, ↓reduceIte, reduceCtorEq, Nat.reduceEqDiff, Nat.reduceAdd, Nat.reduceLeDiff, Int.reduceLE, cZ1, cZ3, cZ16, cZ19, cZ22, cZ30, eZ33, cZ35, cZ36]
                      all_goals simp [qL, qJ, qJ0, qS, qX, qR, qM, Shp, sub, VS1, VS2, VS3, VS4, VS5, VS6, VT1, VT2, V5]
                    · replace h := cond_f cZ36 h
                      obtain ⟨rZ37, hrZ37, h⟩ := bind_s h
                      simp only [VS1, VS2, VS3, VS4, VS5, VS6, VT1, VT2, finM_ret, finM_nrm, decide_true, decide_false, List.nodup_nil, List.nodup_cons, oks_p, oks_m, Nat.reduceSub, Nat.reduceMul, ↓reduceIte, reduceCtorEq, Nat.reduceEqDiff, Nat.reduceAdd, Nat.reduceLeDiff, Int.reduceLE, cZ1, cZ3, cZ16, cZ19, cZ22, cZ30, eZ33, cZ35, cZ36]
                      refine call_u (by simp only [VS1, VS2, VS3, VS4, VS5, VS6, VT1, VT2, finM_ret, finM_nrm, decide_true, decide_false, List.nodup_nil, List.nodup_cons, oks_p, oks_m, Nat.reduceSub, Nat.reduceMul, ↓reduceIte, reduceCtorEq, Nat.reduceEqDiff, Nat.reduceAdd, Nat.reduceLeDiff, Int.reduceLE, cZ1, cZ3, cZ16, cZ19, cZ22, cZ30, eZ33, cZ35, cZ36]; exact w_laws_toLinkS _ hrZ37 ) (by simp [AV.allU, allUL, allUL_iff, VT1, VT2]) (by simp only [VS1, VS2, VS3, VS4, VS5, VS6, VT1, VT2, finM_ret, finM_nrm, decide_true, decide_false, List.nodup_nil, List.nodup_cons, oks_p, oks_m, Nat.reduceSub, Nat.reduceMul, ↓reduceIte, reduceCtorEq, Nat.reduceEqDiff, Nat.reduceAdd, Nat.reduceLeDiff, Int.reduceLE, Nat.reduceLT]) ?_
                      simp only [VA, VF1, ↓reduceIte, Nat.reduceEqDiff, Nat.reduceAdd, Nat.reduceMul, Nat.reduceSub, Nat.reduceLeDiff]
                      obtain ⟨rZ38, hrZ38, h⟩ := bind_s h
                      simp only [VS1, VS2, VS3, VS4, VS5, VS6, VT1, VT2, finM_ret, finM_nrm, decide_true, decide_false, List.nodup_nil, List.nodup_cons, oks_p, oks_m, Nat.reduceSub, Nat.reduceMul, ↓reduceIte, reduceCtorEq, Nat.reduceEqDiff, Nat.reduceAdd, Nat.reduceLeDiff, Int.reduceLE, cZ1, cZ3, cZ16, cZ19, cZ22, cZ30, eZ33, cZ35, cZ36]
                      refine call_u (by simp only [VS1, VS2, VS3, VS4, VS5, VS6, VT1, VT2, finM_ret, finM_nrm, decide_true, decide_false, List.nodup_nil, List.nodup_cons, oks_p, oks_m, Nat.reduceSub, Nat.reduceMul, ↓reduceIte, reduceCtorEq, Nat.reduceEqDiff, Nat.reduceAdd, Nat.reduceLeDiff, Int.reduceLE, cZ1, cZ3, cZ16, cZ19, cZ22, cZ30, eZ33, cZ35, cZ36]; exact w_laws_toIntS _ hrZ38 ) (by simp [AV.allU, allUL, allUL_iff, VT1, VT2]) (by simp only [VS1, VS2, VS3, VS4, VS5, VS6, VT1, VT2, finM_ret, finM_nrm, decide_true, decide_false, List.nodup_nil, List.nodup_cons, oks_p, oks_m, Nat.reduceSub, Nat.reduceMul, ↓reduceIte, reduceCtorEq, Nat.reduceEqDiff, Nat.reduceAdd, Nat.reduceLeDiff, Int.reduceLE, Nat.reduceLT]) ?_
                      simp only [VA, VF1, ↓reduceIte, Nat.reduceEqDiff, Nat.reduceAdd, Nat.reduceMul, Nat.reduceSub, Nat.reduceLeDiff]
                      obtain ⟨rZ39, hrZ39, h⟩ := bind_s h
                      simp only [VS1, VS2, VS3, VS4, VS5, VS6, VT1, VT2, finM_ret, finM_nrm, decide_true, decide_false, List.nodup_nil, List.nodup_cons, oks_p, oks_m, Nat.reduceSub, Nat.reduceMul, ↓reduceIte, reduceCtorEq, Nat.reduceEqDiff, Nat.reduceAdd, Nat.reduceLeDiff, Int.reduceLE, cZ1, cZ3, cZ16, cZ19, cZ22, cZ30, eZ33, cZ35, cZ36]
                      refine call_u (by simp only [VS1, VS2, VS3, VS4, VS5, VS6, VT1, VT2, finM_ret, finM_nrm, decide_true, decide_false, List.nodup_nil, List.nodup_cons, oks_p, oks_m, Nat.reduceSub, Nat.reduceMul, ↓reduceIte, reduceCtorEq, Nat.reduceEqDiff, Nat.reduceAdd, Nat.reduceLeDiff, Int.reduceLE, cZ1, cZ3, cZ16, cZ19, cZ22, cZ30, eZ33, cZ35, cZ36]; exact w_laws_toTributary _ hrZ39 ) (by simp [AV.allU, allUL, allUL_iff, VT1, VT2]) (by simp only [VS1, VS2, VS3, VS4, VS5, VS6, VT1, VT2, finM_ret, finM_nrm, decide_true, decide_false, List.nodup_nil, List.nodup_cons, oks_p, oks_m, Nat.reduceSub, Nat.reduceMul, ↓reduceIte, reduceCtorEq, Nat.reduceEqDiff, Nat.reduceAdd, Nat.reduceLeDiff, Int.reduceLE, Nat.reduceLT]) ?_
                      simp only [VA, VF1, ↓reduceIte, Nat.reduceEqDiff, Nat.reduceAdd, Nat.reduceMul, Nat.reduceSub, Nat.reduceLeDiff]
                      obtain ⟨rZ40, hrZ40, h⟩ := bind_s h
                      simp only [VS1, VS2, VS3, VS4, VS5, VS6, VT1, VT2, finM_ret, finM_nrm, decide_true, decide_false, List.nodup_nil, List.nodup_cons, oks_p, oks_m, Nat.reduceSub, Nat.reduceMul, ↓reduceIte, reduceCtorEq, Nat.reduceEqDiff, Nat.reduceAdd, Nat.reduceLeDiff, Int.reduceLE, cZ1, cZ3, cZ16, cZ19, cZ22, cZ30, eZ33, cZ35, cZ36]
                      refine call_u (by simp only [VS1, VS2, VS3, VS4, VS5, VS6, VT1, VT2, finM_ret, finM_nrm, decide_true, decide_false, List.nodup_nil, List.nodup_cons, oks_p, oks_m, Nat.reduceSub, Nat.reduceMul, ↓reduceIte, reduceCtorEq, Nat.reduceEqDiff, Nat.reduceAdd, Nat.reduceLeDiff, Int.reduceLE, cZ1, cZ3, cZ16, cZ19, cZ22, cZ30, eZ33, cZ35, cZ36]; exact w_impl_RouteTributary _ _ _ _ hrZ40 ) (by simp [AV.allU, allUL, allUL_iff, VT1, VT2]) (by simp only [VS1, VS2, VS3, VS4, VS5, VS6, VT1, VT2, finM_ret, finM_nrm, decide_true, decide_false, List.nodup_nil, List.nodup_cons, oks_p, oks_m, Nat.reduceSub, Nat.reduceMul, ↓reduceIte, reduceCtorEq, Nat.reduceEqDiff, Nat.reduceAdd, Nat.reduceLeDiff, Int.reduceLE, Nat.reduceLT]) ?_
                      simp only [VA, VF1, ↓reduceIte, Nat.reduceEqDiff, Nat.reduceAdd, Nat.reduceMul, Nat.reduceSub, Nat.reduceLeDiff]
                      obtain ⟨oZ44, hoZ44, h⟩ := bind_s h
                      try simp only [VS1, VS2, VS3, VS4, VS5, VS6, VT1, VT2, finM_ret, finM_nrm, decide_true, decide_false, List.nodup_nil, List.nodup_cons, oks_p, oks_m, Nat.reduceSub, Nat.reduceMul, ↓reduceIte, reduceCtorEq, Nat.reduceEqDiff, Nat.reduceAdd, Nat.reduceLeDiff, Int.reduceLE, cZ1, cZ3, cZ16, cZ19, cZ22, cZ30, eZ33, cZ35, cZ36]
                      refine join_rule0 (sh := (fun v => ⟨[(15, .sl 15 0 rZ11.1.length), (19, .i rZ31.1), (142, .b v)], [(15, .arr 1 (rZ31.2.map AV.i))]⟩)) (s := oZ44) ?_ ?_
                      · replace h := hoZ44
                        obtain ⟨rZ41, hrZ41, h⟩ := bind_s h
                        simp only [VS1, VS2, VS3, VS4, VS5, VS6, VT1, VT2, finM_ret, finM_nrm, decide_true, decide_false, List.nodup_nil, List.nodup_cons, oks_p, oks_m, Nat.reduceSub, Nat.reduceMul, ↓reduceIte, reduceCtorEq, Nat.reduceEqDiff, Nat.reduceAdd, Nat.reduceLeDiff, Int.reduceLE, cZ1, cZ3, cZ16, cZ19, cZ22, cZ30, eZ33, cZ35, cZ36]
                        refine call_s (by simp only [VS1, VS2, VS3, VS4, VS5, VS6, VT1, VT2, finM_ret, finM_nrm, decide_true, decide_false, List.nodup_nil, List.nodup_cons, oks_p, oks_m, Nat.reduceSub, Nat.reduceMul, ↓reduceIte, reduceCtorEq, Nat.reduceEqDiff, Nat.reduceAdd, Nat.reduceLeDiff, Int.reduceLE, cZ1, cZ3, cZ16, cZ19, cZ22, cZ30, eZ33, cZ35, cZ36]; exact w_laws_eqIntS _ _ hrZ41 ) ?_
                        simp only [VA, VF1, ↓reduceIte, Nat.reduceEqDiff, Nat.reduceAdd, Nat.reduceMul, Nat.reduceSub, Nat.reduceLeDiff]
                        refine Or.elim (bt (!rZ41)) (fun cZ42 => ?_) (fun cZ42 => ?_)
                        · replace h := cond_t cZ42 h
                          cases h
                          try simp only [VS1, VS2, VS3, VS4, VS5, VS6, VT1, VT2, finM_ret, finM_nrm, decide_true, decide_false, List.nodup_nil, List.nodup_cons, oks_p, oks_m, Nat.reduceSub, Nat.reduceMul, ↓reduceIte, reduceCtorEq, Nat.reduceEqDiff, Nat.reduceAdd, Nat.reduceLeDiff, Int.reduceLE, cZ1, cZ3, cZ16, cZ19, cZ22, cZ30, eZ33, cZ35, cZ36, cZ42]
                          all_goals simp [qL, qJ, qJ0, qS, qX, qR, qM, Shp, sub, VS1, VS2, VS3, VS4, VS5, VS6, VT1, VT2]
                        · replace h := cond_f cZ42 h
                          refine Or.elim (bt (!(rZ40.2.1 == rZ7.2.1))) (fun cZ43 => ?_) (fun cZ43 => ?_)
                          · replace h := cond_t cZ43 h
                            cases h
                            try simp only [VS1, VS2, VS3, VS4, VS5, VS6, VT1, VT2, finM_ret, finM_nrm, decide_true, decide_false, List.nodup_nil, List.nodup_cons, oks_p, oks_m, Nat.reduceSub, Nat.reduceMul, ↓reduceIte, reduceCtorEq, Nat.reduceEqDiff, Nat.reduceAdd, Nat.reduceLeDiff, Int.reduceLE, cZ1, cZ3, cZ16, cZ19, cZ22, cZ30, eZ33, cZ35, cZ36, cZ42, cZ43]
                            all_goals simp [qL, qJ, qJ0, qS, qX, qR, qM, Shp, sub, VS1, VS2, VS3, VS4, VS5, VS6, VT1, VT2]
                          · replace h := cond_f cZ43 h
                            cases h
                            try simp only [VS1, VS2, VS3, VS4, VS5, VS6, VT1, VT2, finM_ret, finM_nrm, decide_true, decide_false, List.nodup_nil, List.nodup_cons, oks_p, oks_m, Nat.reduceSub, Nat.reduceMul, ↓reduceIte, reduceCtorEq, Nat.reduceEqDiff, Nat.reduceAdd, Nat.reduceLeDiff, Int.reduceLE, cZ1, cZ3, cZ16, cZ19, cZ22, cZ30, eZ33, cZ35, cZ36, cZ42, cZ43]
                            all_goals simp [qL, qJ, qJ0, qS, qX, qR, qM, Shp, sub, VS1, VS2, VS3, VS4, VS5, VS6, VT1, VT2]
                      · simp only [A5R3]
                        refine Or.elim (bt (oZ44)) (fun cZ45 => ?_) (fun cZ45 => ?_)
                        · replace h := cond_t cZ45 h
                          cases h
                          try simp only [VS1, VS2, VS3, VS4, VS5, VS6, VT1, VT2, finM_ret, finM_nrm, decide_true, decide_false, List.nodup_nil, List.nodup_cons, oks_p, oks_m, Nat.reduceSub, Nat.reduceMul, ↓reduceIte, reduceCtorEq, Nat.reduceEqDiff, Nat.reduceAdd, Nat.reduceLeDiff, Int.reduceLE, cZ1, cZ3, cZ16, cZ19, cZ22, cZ30, eZ33, cZ35, cZ36, cZ45]
                          all_goals simp [qL, qJ, qJ0, qS, qX, qR, qM, Shp, sub, VS1, VS2, VS3, VS4, VS5, VS6, VT1, VT2, V5]
                        · replace h := cond_f cZ45 h
                          obtain ⟨rZ46, hrZ46, h⟩ := bind_s h
                          simp only [VS1, VS2, VS3, VS4, VS5, VS6, VT1, VT2, finM_ret, finM_nrm, decide_true, decide_false, List.nodup_nil, List.nodup_cons, oks_p, oks_m, Nat.reduceSub, Nat.reduceMul, ↓reduceIte, reduceCtorEq, Nat.reduceEqDiff, Nat.reduceAdd, Nat.reduceLeDiff, Int.reduceLE, cZ1, cZ3, cZ16, cZ19, cZ22, cZ30, eZ33, cZ35, cZ36, cZ45]
                          refine call_s (by simp only [VS1, VS2, VS3, VS4, VS5, VS6, VT1, VT2, finM_ret, finM_nrm, decide_true, decide_false, List.nodup_nil, List.nodup_cons, oks_p, oks_m, Nat.reduceSub, Nat.reduceMul, ↓reduceIte, reduceCtorEq, Nat.reduceEqDiff, Nat.reduceAdd, Nat.reduceLeDiff, Int.reduceLE, cZ1, cZ3, cZ16, cZ19, cZ22, cZ30, eZ33, cZ35, cZ36, cZ45]; exact w_laws_heldIntS _ _ hrZ46 ) ?_
                          simp only [VA, VF1, ↓reduceIte, Nat.reduceEqDiff, Nat.reduceAdd, Nat.reduceMul, Nat.reduceSub, Nat.reduceLeDiff]
                          refine Or.elim (bt (decide (rZ46 < 0))) (fun cZ47 => ?_) (fun cZ47 => ?_)
                          · replace h := cond_t cZ47 h
                            cases h
                            try simp only [VS1, VS2, VS3, VS4, VS5, VS6, VT1, VT2, finM_ret, finM_nrm, decide_true, decide_false, List.nodup_nil, List.nodup_cons, oks_p, oks_m, Nat.reduceSub, Nat.reduceMul, ↓reduceIte, reduceCtorEq, Nat.reduceEqDiff, Nat.reduceAdd, Nat.reduceLeDiff, Int.reduceLE, cZ1, cZ3, cZ16, cZ19, cZ22, cZ30, eZ33, cZ35, cZ36, cZ45, cZ47]
                            all_goals simp [qL, qJ, qJ0, qS, qX, qR, qM, Shp, sub, VS1, VS2, VS3, VS4, VS5, VS6, VT1, VT2, V5]
                          · replace h := cond_f cZ47 h
                            refine Or.elim (bt (rZ46 != rZ31.1)) (fun cZ48 => ?_) (fun cZ48 => ?_)
                            · replace h := cond_t cZ48 h
                              cases h
                              try simp only [VS1, VS2, VS3, VS4, VS5, VS6, VT1, VT2, finM_ret, finM_nrm, decide_true, decide_false, List.nodup_nil, List.nodup_cons, oks_p, oks_m, Nat.reduceSub, Nat.reduceMul, ↓reduceIte, reduceCtorEq, Nat.reduceEqDiff, Nat.reduceAdd, Nat.reduceLeDiff, Int.reduceLE, cZ1, cZ3, cZ16, cZ19, cZ22, cZ30, eZ33, cZ35, cZ36, cZ45, cZ47, cZ48]
                              all_goals simp [qL, qJ, qJ0, qS, qX, qR, qM, Shp, sub, VS1, VS2, VS3, VS4, VS5, VS6, VT1, VT2, V5]
                            · replace h := cond_f cZ48 h
                              cases h
                              try simp only [VS1, VS2, VS3, VS4, VS5, VS6, VT1, VT2, finM_ret, finM_nrm, decide_true, decide_false, List.nodup_nil, List.nodup_cons, oks_p, oks_m, Nat.reduceSub, Nat.reduceMul, ↓reduceIte, reduceCtorEq, Nat.reduceEqDiff, Nat.reduceAdd, Nat.reduceLeDiff, Int.reduceLE, cZ1, cZ3, cZ16, cZ19, cZ22, cZ30, eZ33, cZ35, cZ36, cZ45, cZ47, cZ48]
                              all_goals simp [qL, qJ, qJ0, qS, qX, qR, qM, Shp, sub, VS1, VS2, VS3, VS4, VS5, VS6, VT1, VT2, V5]
def S_spec_GroomAllL1 (linksZ0 : List TLink) (listZ0 : List TTributary) (v : Int × List Int) : St := ⟨[(0, .lst .o 3 (linksZ0.map (e_TLink .o))), (2, .lst .o 3 (listZ0.map (e_TTributary .o))), (9, .sl 9 0 0), (10, .sl 10 0 v.2.length), (11, .i v.1)], [(9, .arr 1 []), (10, .arr 1 (v.2.map AV.i))]⟩
def SX_spec_GroomAllL1 (linksZ0 : List TLink) (listZ0 : List TTributary) (v : List Int) : St := ⟨[(0, .lst .o 3 (linksZ0.map (e_TLink .o))), (2, .lst .o 3 (listZ0.map (e_TTributary .o))), (9, .sl 9 0 0), (10, .sl 10 0 v.length)], [(9, .arr 1 []), (10, .arr 1 (v.map AV.i))]⟩
theorem w_spec_GroomAllL1 (linksZ0 : List TLink) (listZ0 : List TTributary) (sZ6 : Int × List Int) (o : (Int × List Int) ⊕ (List Int)) (h : M_spec_GroomAllL1 linksZ0 sZ6 = some o) : AWP (OkS Try.prog) A46L2 (qL [0, 2, 9, 10, 11] [9, 10] (S_spec_GroomAllL1 linksZ0 listZ0) (qX 0 [0, 2, 9, 10] [9, 10] (SX_spec_GroomAllL1 linksZ0 listZ0)) o) (S_spec_GroomAllL1 linksZ0 listZ0 sZ6) := by
  unfold M_spec_GroomAllL1 at h
  simp only [S_spec_GroomAllL1, A46L2]
  refine Or.elim (bt (decide (sZ6.1 < (linksZ0.length : Int)))) (fun cZ7 => ?_) (fun cZ7 => ?_)
  · replace h := cond_t cZ7 h
    obtain ⟨yZ8, hyZ8, h⟩ := bind_s h
    obtain ⟨hyZ8a, hyZ8b⟩ := geti_s hyZ8
    obtain ⟨lZ9, hlZ9, h⟩ := bnd_s h
    have eZ10 : Row.arr 1 [(.i yZ8.Capacity : AV)] = Row.arr 1 (lZ9.map AV.i) := by rw [← hlZ9]; rfl
    have eZ11 : lZ9.length = 1 := by rw [← hlZ9]; rfl
    obtain ⟨uZ12, huZ12, h⟩ := bind_s h
    have huZ12g := grd_s huZ12
    obtain ⟨lZ13, hlZ13, h⟩ := bnd_s h
    have eZ14 : sZ6.2.map AV.i ++ lZ9.map AV.i = lZ13.map AV.i := by rw [← hlZ13, List.map_append]
    have eZ15 : sZ6.2.length + 1 = lZ13.length := by simp [← hlZ9, ← hlZ13] <;> omega
    rw [eZ15] at huZ12g
    cases h
    try simp only [VS1, VS2, VS3, VS4, VS5, VS6, VT1, VT2, finM_ret, finM_nrm, decide_true, decide_false, List.nodup_nil, List.nodup_cons, oks_p, oks_m, Nat.reduceSub, Nat.reduceMul, ↓reduceIte, reduceCtorEq, Nat.reduceEqDiff, Nat.reduceAdd, Nat.reduceLeDiff, Int.reduceLE, cZ7, hyZ8a, hyZ8b, eZ10, eZ11, huZ12g, eZ14, eZ15]
    all_goals simp [qL, qJ, qJ0, qS, qX, qR, qM, Shp, sub, VS1, VS2, VS3, VS4, VS5, VS6, VT1, VT2, S_spec_GroomAllL1, SX_spec_GroomAllL1, ← hlZ9, ← hlZ13]
  · replace h := cond_f cZ7 h
    cases h
    try simp only [VS1, VS2, VS3, VS4, VS5, VS6, VT1, VT2, finM_ret, finM_nrm, decide_true, decide_false, List.nodup_nil, List.nodup_cons, oks_p, oks_m, Nat.reduceSub, Nat.reduceMul, ↓reduceIte, reduceCtorEq, Nat.reduceEqDiff, Nat.reduceAdd, Nat.reduceLeDiff, Int.reduceLE, cZ7]
    all_goals simp [qL, qJ, qJ0, qS, qX, qR, qM, Shp, sub, VS1, VS2, VS3, VS4, VS5, VS6, VT1, VT2, S_spec_GroomAllL1, SX_spec_GroomAllL1]
def S_spec_GroomAllL3 (linksZ0 : List TLink) (listZ0 : List TTributary) (sZ17 : Int × List (List Int) × List Int) (rZ20 : List Int) (v : Int × List Int) : St := ⟨[(0, .lst .o 3 (linksZ0.map (e_TLink .o))), (2, .lst .o 3 (listZ0.map (e_TTributary .o))), (9, .sl 9 0 sZ17.2.1.length), (10, .sl 10 0 v.2.length), (12, .i sZ17.1), (13, .sl 13 0 rZ20.length), (14, .i v.1)], [(9, .arr 1 (sZ17.2.1.map (e_Li .u))), (10, .arr 1 (v.2.map AV.i)), (13, .arr 1 (rZ20.map AV.i))]⟩
def SX_spec_GroomAllL3 (linksZ0 : List TLink) (listZ0 : List TTributary) (sZ17 : Int × List (List Int) × List Int) (rZ20 : List Int) (v : List Int) : St := ⟨[(0, .lst .o 3 (linksZ0.map (e_TLink .o))), (2, .lst .o 3 (listZ0.map (e_TTributary .o))), (9, .sl 9 0 sZ17.2.1.length), (10, .sl 10 0 v.length), (12, .i sZ17.1), (13, .sl 13 0 rZ20.length)], [(9, .arr 1 (sZ17.2.1.map (e_Li .u))), (10, .arr 1 (v.map AV.i)), (13, .arr 1 (rZ20.map AV.i))]⟩
theorem w_spec_GroomAllL3 (linksZ0 : List TLink) (listZ0 : List TTributary) (sZ17 : Int × List (List Int) × List Int) (rZ20 : List Int) (sZ21 : Int × List Int) (o : (Int × List Int) ⊕ (List Int)) (h : M_spec_GroomAllL3 listZ0 sZ17 rZ20 sZ21 = some o) : AWP (OkS Try.prog) A46L4 (qL [0, 2, 9, 10, 12, 13, 14] [9, 10, 13] (S_spec_GroomAllL3 linksZ0 listZ0 sZ17 rZ20) (qX 4 [0, 2, 9, 10, 12, 13] [9, 10, 13] (SX_spec_GroomAllL3 linksZ0 listZ0 sZ17 rZ20)) o) (S_spec_GroomAllL3 linksZ0 listZ0 sZ17 rZ20 sZ21) := by
  unfold M_spec_GroomAllL3 at h
  simp only [S_spec_GroomAllL3, A46L4]
  refine Or.elim (bt (decide (sZ21.1 < (rZ20.length : Int)))) (fun cZ22 => ?_) (fun cZ22 => ?_)
  · replace h := cond_t cZ22 h
    obtain ⟨kZ23, hkZ23, h⟩ := bind_s h
    obtain ⟨hkZ23a, hkZ23b⟩ := grd_s hkZ23
    obtain ⟨yZ24, hyZ24, h⟩ := bind_s h
    obtain ⟨kZ25, hkZ25, h⟩ := bind_s h
    obtain ⟨hkZ25a, hkZ25b⟩ := grd_s hkZ25
    obtain ⟨yZ26, hyZ26, h⟩ := bind_s h
    obtain ⟨yZ27, hyZ27, h⟩ := bind_s h
    obtain ⟨hyZ27a, hyZ27b⟩ := geti_s hyZ27
    obtain ⟨lZ28, hlZ28, h⟩ := bnd_s h
    have eZ29 : (sZ21.2.map AV.i).set (Int.toNat yZ24) (.i (IntKind.wrap .i64 (yZ26 - yZ27.Rate))) = lZ28.map AV.i := by rw [← hlZ28, List.map_set]
    cases h
    try simp only [VS1, VS2, VS3, VS4, VS5, VS6, VT1, VT2, finM_ret, finM_nrm, decide_true, decide_false, List.nodup_nil, List.nodup_cons, oks_p, oks_m, Nat.reduceSub, Nat.reduceMul, ↓reduceIte, reduceCtorEq, Nat.reduceEqDiff, Nat.reduceAdd, Nat.reduceLeDiff, Int.reduceLE, cZ22, hkZ23a, hkZ23b, hyZ24, hkZ25a, hkZ25b, hyZ26, hyZ27a, hyZ27b, eZ29]
    all_goals simp [qL, qJ, qJ0, qS, qX, qR, qM, Shp, sub, VS1, VS2, VS3, VS4, VS5, VS6, VT1, VT2, S_spec_GroomAllL3, SX_spec_GroomAllL3, ← hlZ28]
  · replace h := cond_f cZ22 h
    cases h
    try simp only [VS1, VS2, VS3, VS4, VS5, VS6, VT1, VT2, finM_ret, finM_nrm, decide_true, decide_false, List.nodup_nil, List.nodup_cons, oks_p, oks_m, Nat.reduceSub, Nat.reduceMul, ↓reduceIte, reduceCtorEq, Nat.reduceEqDiff, Nat.reduceAdd, Nat.reduceLeDiff, Int.reduceLE, cZ22]
    all_goals simp [qL, qJ, qJ0, qS, qX, qR, qM, Shp, sub, VS1, VS2, VS3, VS4, VS5, VS6, VT1, VT2, S_spec_GroomAllL3, SX_spec_GroomAllL3]
def S_spec_GroomAllL2 (linksZ0 : List TLink) (listZ0 : List TTributary) (v : Int × List (List Int) × List Int) : St := ⟨[(0, .lst .o 3 (linksZ0.map (e_TLink .o))), (2, .lst .o 3 (listZ0.map (e_TTributary .o))), (9, .sl 9 0 v.2.1.length), (10, .sl 10 0 v.2.2.length), (12, .i v.1)], [(9, .arr 1 (v.2.1.map (e_Li .u))), (10, .arr 1 (v.2.2.map AV.i))]⟩
def SX_spec_GroomAllL2 (v : List (List Int) × List Int) : St := ⟨[(9, .sl 9 0 v.1.length), (10, .sl 10 0 v.2.length)], [(9, .arr 1 (v.1.map (e_Li .u))), (10, .arr 1 (v.2.map AV.i))]⟩
theorem w_spec_GroomAllL2 (linksZ0 : List TLink) (listZ0 : List TTributary) (sZ17 : Int × List (List Int) × List Int) (o : (Int × List (List Int) × List Int) ⊕ (List (List Int) × List Int)) (h : M_spec_GroomAllL2 linksZ0 listZ0 sZ17 = some o) : AWP (OkS Try.prog) A46L6 (qL [0, 2, 9, 10, 12] [9, 10] (S_spec_GroomAllL2 linksZ0 listZ0) (qX 2 [9, 10] [9, 10] (SX_spec_GroomAllL2)) o) (S_spec_GroomAllL2 linksZ0 listZ0 sZ17) := by
  unfold M_spec_GroomAllL2 at h
  simp only [S_spec_GroomAllL2, A46L6]
  refine Or.elim (bt (decide (sZ17.1 < (listZ0.length : Int)))) (fun cZ18 => ?_) (fun cZ18 => ?_)
  · replace h := cond_t cZ18 h
    obtain ⟨yZ19, hyZ19, h⟩ := bind_s h
    obtain ⟨hyZ19a, hyZ19b⟩ := geti_s hyZ19
    obtain ⟨rZ20, hrZ20, h⟩ := bind_s h
    simp only [VS1, VS2, VS3, VS4, VS5, VS6, VT1, VT2, finM_ret, finM_nrm, decide_true, decide_false, List.nodup_nil, List.nodup_cons, oks_p, oks_m, Nat.reduceSub, Nat.reduceMul, ↓reduceIte, reduceCtorEq, Nat.reduceEqDiff, Nat.reduceAdd, Nat.reduceLeDiff, Int.reduceLE, cZ18, hyZ19a, hyZ19b]
    refine call_u (by simp only [VS1, VS2, VS3, VS4, VS5, VS6, VT1, VT2, finM_ret, finM_nrm, decide_true, decide_false, List.nodup_nil, List.nodup_cons, oks_p, oks_m, Nat.reduceSub, Nat.reduceMul, ↓reduceIte, reduceCtorEq, Nat.reduceEqDiff, Nat.reduceAdd, Nat.reduceLeDiff, Int.reduceLE, cZ18, hyZ19a, hyZ19b]; exact w_spec_l18Route _ _ _ hrZ20 ) (by simp [AV.allU, allUL, allUL_iff, VT1, VT2]) (by simp only [VS1, VS2, VS3, VS4, VS5, VS6, VT1, VT2, finM_ret, finM_nrm, decide_true, decide_false, List.nodup_nil, List.nodup_cons, oks_p, oks_m, Nat.reduceSub, Nat.reduceMul, ↓reduceIte, reduceCtorEq, Nat.reduceEqDiff, Nat.reduceAdd, Nat.reduceLeDiff, Int.reduceLE, Nat.reduceLT]) ?_
    simp only [VA, VF1, ↓reduceIte, Nat.reduceEqDiff, Nat.reduceAdd, Nat.reduceMul, Nat.reduceSub, Nat.reduceLeDiff]
    obtain ⟨oZ30, hoZ30, h⟩ := bind_s h
    try simp only [VS1, VS2, VS3, VS4, VS5, VS6, VT1, VT2, finM_ret, finM_nrm, decide_true, decide_false, List.nodup_nil, List.nodup_cons, oks_p, oks_m, Nat.reduceSub, Nat.reduceMul, ↓reduceIte, reduceCtorEq, Nat.reduceEqDiff, Nat.reduceAdd, Nat.reduceLeDiff, Int.reduceLE, cZ18, hyZ19a, hyZ19b]
    refine join_rule0 (blk_rule0 (loop_rule (w_spec_GroomAllL3 linksZ0 listZ0 sZ17 rZ20) hoZ30 ?_)) ?_
    · all_goals simp [qL, qJ, qJ0, qS, qX, qR, qM, Shp, sub, VS1, VS2, VS3, VS4, VS5, VS6, VT1, VT2, S_spec_GroomAllL3, SX_spec_GroomAllL3]
    · simp only [SX_spec_GroomAllL3, A46R5]
      obtain ⟨lZ31, hlZ31, h⟩ := bnd_s h
      have eZ32 : Row.arr 1 [(.lst .u 1 (rZ20.map AV.i) : AV)] = Row.arr 1 (lZ31.map (e_Li .u)) := by rw [← hlZ31]; rfl
      have eZ33 : lZ31.length = 1 := by rw [← hlZ31]; rfl
      obtain ⟨uZ34, huZ34, h⟩ := bind_s h
      have huZ34g := grd_s huZ34
      obtain ⟨lZ35, hlZ35, h⟩ := bnd_s h
      have eZ36 : sZ17.2.1.map (e_Li .u) ++ lZ31.map (e_Li .u) = lZ35.map (e_Li .u) := by rw [← hlZ35, List.map_append]
      have eZ37 : sZ17.2.1.length + 1 = lZ35.length := by simp [← hlZ31, ← hlZ35] <;> omega
      rw [eZ37] at huZ34g
      cases h
      try simp only [VS1, VS2, VS3, VS4, VS5, VS6, VT1, VT2, finM_ret, finM_nrm, decide_true, decide_false, List.nodup_nil, List.nodup_cons, oks_p, oks_m, Nat.reduceSub, Nat.reduceMul, ↓reduceIte, reduceCtorEq, Nat.reduceEqDiff, Nat.reduceAdd, Nat.reduceLeDiff, Int.reduceLE, cZ18, hyZ19a, hyZ19b, eZ32, eZ33, huZ34g, eZ36, eZ37]
      all_goals simp [qL, qJ, qJ0, qS, qX, qR, qM, Shp, sub, VS1, VS2, VS3, VS4, VS5, VS6, VT1, VT2, S_spec_GroomAllL2, SX_spec_GroomAllL2, ← hlZ31, ← hlZ35]
  · replace h := cond_f cZ18 h
    cases h
    try simp only [VS1, VS2, VS3, VS4, VS5, VS6, VT1, VT2, finM_ret, finM_nrm, decide_true, decide_false, List.nodup_nil, List.nodup_cons, oks_p, oks_m, Nat.reduceSub, Nat.reduceMul, ↓reduceIte, reduceCtorEq, Nat.reduceEqDiff, Nat.reduceAdd, Nat.reduceLeDiff, Int.reduceLE, cZ18]
    all_goals simp [qL, qJ, qJ0, qS, qX, qR, qM, Shp, sub, VS1, VS2, VS3, VS4, VS5, VS6, VT1, VT2, S_spec_GroomAllL2, SX_spec_GroomAllL2]
theorem w_spec_GroomAll (linksZ0 : List TLink) (nodesZ0 : Int) (listZ0 : List TTributary) {r : List (List Int) × List Int × Bool} (h : M_spec_GroomAll linksZ0 nodesZ0 listZ0 = some r) : Ok Try.prog 46 [.lst .o 3 (linksZ0.map (e_TLink .o)), .i nodesZ0, .lst .o 3 (listZ0.map (e_TTributary .o))] ((fun r => .tup [.lst .u 1 (r.1.map (e_Li .u)), .lst .u 1 (r.2.1.map AV.i), .b r.2.2]) r) := by
  refine ok_of_body hmix m46 rfl ?_
  unfold M_spec_GroomAll at h
  simp only [A46, V46, body_eq]
  obtain ⟨oZ4, hoZ4, h⟩ := bind_s h
  try simp only [VS1, VS2, VS3, VS4, VS5, VS6, VT1, VT2, finM_ret, finM_nrm, decide_true, decide_false, List.nodup_nil, List.nodup_cons, oks_p, oks_m, Nat.reduceSub, Nat.reduceMul, ↓reduceIte, reduceCtorEq, Nat.reduceEqDiff, Nat.reduceAdd, Nat.reduceLeDiff, Int.reduceLE]
  refine join_rule0 (sh := (fun v => ⟨[(0, .lst .o 3 (linksZ0.map (e_TLink .o))), (2, .lst .o 3 (listZ0.map (e_TTributary .o))), (9, .sl 9 0 0), (10, .sl 10 0 0), (26, .b v)], [(9, .arr 1 []), (10, .arr 1 [])]⟩)) (s := oZ4) ?_ ?_
  · replace h := hoZ4
    obtain ⟨rZ1, hrZ1, h⟩ := bind_s h
    simp only [VS1, VS2, VS3, VS4, VS5, VS6, VT1, VT2, finM_ret, finM_nrm, decide_true, decide_false, List.nodup_nil, List.nodup_cons, oks_p, oks_m, Nat.reduceSub, Nat.reduceMul, ↓reduceIte, reduceCtorEq, Nat.reduceEqDiff, Nat.reduceAdd, Nat.reduceLeDiff, Int.reduceLE]
    refine call_s (by simp only [VS1, VS2, VS3, VS4, VS5, VS6, VT1, VT2, finM_ret, finM_nrm, decide_true, decide_false, List.nodup_nil, List.nodup_cons, oks_p, oks_m, Nat.reduceSub, Nat.reduceMul, ↓reduceIte, reduceCtorEq, Nat.reduceEqDiff, Nat.reduceAdd, Nat.reduceLeDiff, Int.reduceLE]; exact w_spec_l18Links _ _ hrZ1 ) ?_
    simp only [VA, VF1, ↓reduceIte, Nat.reduceEqDiff, Nat.reduceAdd, Nat.reduceMul, Nat.reduceSub, Nat.reduceLeDiff]
    refine Or.elim (bt (!rZ1)) (fun cZ2 => ?_) (fun cZ2 => ?_)
    · replace h := cond_t cZ2 h
      cases h
      try simp only [VS1, VS2, VS3, VS4, VS5, VS6, VT1, VT2, finM_ret, finM_nrm, decide_true, decide_false, List.nodup_nil, List.nodup_cons, oks_p, oks_m, Nat.reduceSub, Nat.reduceMul, ↓reduceIte, reduceCtorEq, Nat.reduceEqDiff, Nat.reduceAdd, Nat.reduceLeDiff, Int.reduceLE, cZ2]
      all_goals simp [qL, qJ, qJ0, qS, qX, qR, qM, Shp, sub, VS1, VS2, VS3, VS4, VS5, VS6, VT1, VT2]
    · replace h := cond_f cZ2 h
      obtain ⟨rZ3, hrZ3, h⟩ := bind_s h
      simp only [VS1, VS2, VS3, VS4, VS5, VS6, VT1, VT2, finM_ret, finM_nrm, decide_true, decide_false, List.nodup_nil, List.nodup_cons, oks_p, oks_m, Nat.reduceSub, Nat.reduceMul, ↓reduceIte, reduceCtorEq, Nat.reduceEqDiff, Nat.reduceAdd, Nat.reduceLeDiff, Int.reduceLE, cZ2]
      refine call_s (by simp only [VS1, VS2, VS3, VS4, VS5, VS6, VT1, VT2, finM_ret, finM_nrm, decide_true, decide_false, List.nodup_nil, List.nodup_cons, oks_p, oks_m, Nat.reduceSub, Nat.reduceMul, ↓reduceIte, reduceCtorEq, Nat.reduceEqDiff, Nat.reduceAdd, Nat.reduceLeDiff, Int.reduceLE, cZ2]; exact w_spec_l18Good _ _ hrZ3 ) ?_
      simp only [VA, VF1, ↓reduceIte, Nat.reduceEqDiff, Nat.reduceAdd, Nat.reduceMul, Nat.reduceSub, Nat.reduceLeDiff]
      cases h
      try simp only [VS1, VS2, VS3, VS4, VS5, VS6, VT1, VT2, finM_ret, finM_nrm, decide_true, decide_false, List.nodup_nil, List.nodup_cons, oks_p, oks_m, Nat.reduceSub, Nat.reduceMul, ↓reduceIte, reduceCtorEq, Nat.reduceEqDiff, Nat.reduceAdd, Nat.reduceLeDiff, Int.reduceLE, cZ2]
      all_goals simp [qL, qJ, qJ0, qS, qX, qR, qM, Shp, sub, VS1, VS2, VS3, VS4, VS5, VS6, VT1, VT2]
  · simp only [A46R1]
    refine Or.elim (bt (oZ4)) (fun cZ5 => ?_) (fun cZ5 => ?_)
    · replace h := cond_t cZ5 h
      cases h
      try simp only [VS1, VS2, VS3, VS4, VS5, VS6, VT1, VT2, finM_ret, finM_nrm, decide_true, decide_false, List.nodup_nil, List.nodup_cons, oks_p, oks_m, Nat.reduceSub, Nat.reduceMul, ↓reduceIte, reduceCtorEq, Nat.reduceEqDiff, Nat.reduceAdd, Nat.reduceLeDiff, Int.reduceLE, cZ5]
      all_goals simp [qL, qJ, qJ0, qS, qX, qR, qM, Shp, sub, VS1, VS2, VS3, VS4, VS5, VS6, VT1, VT2, V46]
    · replace h := cond_f cZ5 h
      obtain ⟨oZ16, hoZ16, h⟩ := bind_s h
      try simp only [VS1, VS2, VS3, VS4, VS5, VS6, VT1, VT2, finM_ret, finM_nrm, decide_true, decide_false, List.nodup_nil, List.nodup_cons, oks_p, oks_m, Nat.reduceSub, Nat.reduceMul, ↓reduceIte, reduceCtorEq, Nat.reduceEqDiff, Nat.reduceAdd, Nat.reduceLeDiff, Int.reduceLE, cZ5]
      refine join_rule0 (blk_rule0 (loop_rule (w_spec_GroomAllL1 linksZ0 listZ0) hoZ16 ?_)) ?_
      · all_goals simp [qL, qJ, qJ0, qS, qX, qR, qM, Shp, sub, VS1, VS2, VS3, VS4, VS5, VS6, VT1, VT2, S_spec_GroomAllL1, SX_spec_GroomAllL1]
      · simp only [SX_spec_GroomAllL1, A46R3]
        obtain ⟨oZ38, hoZ38, h⟩ := bind_s h
        try simp only [VS1, VS2, VS3, VS4, VS5, VS6, VT1, VT2, finM_ret, finM_nrm, decide_true, decide_false, List.nodup_nil, List.nodup_cons, oks_p, oks_m, Nat.reduceSub, Nat.reduceMul, ↓reduceIte, reduceCtorEq, Nat.reduceEqDiff, Nat.reduceAdd, Nat.reduceLeDiff, Int.reduceLE, cZ5]
        refine join_rule0 (blk_rule0 (loop_rule (w_spec_GroomAllL2 linksZ0 listZ0) hoZ38 ?_)) ?_
        · all_goals simp [qL, qJ, qJ0, qS, qX, qR, qM, Shp, sub, VS1, VS2, VS3, VS4, VS5, VS6, VT1, VT2, S_spec_GroomAllL2, SX_spec_GroomAllL2]
        · simp only [SX_spec_GroomAllL2, A46R7]
          cases h
          try simp only [VS1, VS2, VS3, VS4, VS5, VS6, VT1, VT2, finM_ret, finM_nrm, decide_true, decide_false, List.nodup_nil, List.nodup_cons, oks_p, oks_m, Nat.reduceSub, Nat.reduceMul, ↓reduceIte, reduceCtorEq, Nat.reduceEqDiff, Nat.reduceAdd, Nat.reduceLeDiff, Int.reduceLE, cZ5]
          all_goals simp [qL, qJ, qJ0, qS, qX, qR, qM, Shp, sub, VS1, VS2, VS3, VS4, VS5, VS6, VT1, VT2, V46]
def S_spec_BlockedRateL1 (listZ0 : List TTributary) (rZ1 : List (List Int) × List Int × Bool) (v : Int × Int) : St := ⟨[(2, .lst .o 3 (listZ0.map (e_TTributary .o))), (8, .sl 8 0 rZ1.1.length), (11, .i v.1), (12, .i v.2)], [(8, .arr 1 (rZ1.1.map (e_Li .u)))]⟩
def SX_spec_BlockedRateL1 (v : Int) : St := ⟨[(11, .i v)], []⟩
theorem w_spec_BlockedRateL1 (listZ0 : List TTributary) (rZ1 : List (List Int) × List Int × Bool) (sZ3 : Int × Int) (o : (Int × Int) ⊕ Int) (h : M_spec_BlockedRateL1 listZ0 rZ1 sZ3 = some o) : AWP (OkS Try.prog) A32L1 (qL [2, 8, 11, 12] [8] (S_spec_BlockedRateL1 listZ0 rZ1) (qX 0 [11] [] (SX_spec_BlockedRateL1)) o) (S_spec_BlockedRateL1 listZ0 rZ1 sZ3) := by
  unfold M_spec_BlockedRateL1 at h
  simp only [S_spec_BlockedRateL1, A32L1]
  refine Or.elim (bt (decide (sZ3.2 < (listZ0.length : Int)))) (fun cZ4 => ?_) (fun cZ4 => ?_)
  · replace h := cond_t cZ4 h
    obtain ⟨kZ5, hkZ5, h⟩ := bind_s h
    obtain ⟨hkZ5a, hkZ5b⟩ := grd_s hkZ5
    obtain ⟨yZ6, hyZ6, h⟩ := bind_s h
    refine Or.elim (bt ((yZ6.length : Int) == 0)) (fun cZ7 => ?_) (fun cZ7 => ?_)
    · replace h := cond_t cZ7 h
      obtain ⟨yZ8, hyZ8, h⟩ := bind_s h
      obtain ⟨hyZ8a, hyZ8b⟩ := geti_s hyZ8
      cases h
      try simp only [VS1, VS2, VS3, VS4, VS5, VS6, VT1, VT2, finM_ret, finM_nrm, decide_true, decide_false, List.nodup_nil, List.nodup_cons, oks_p, oks_m, Nat.reduceSub, Nat.reduceMul, ↓reduceIte, reduceCtorEq, Nat.reduceEqDiff, Nat.reduceAdd, Nat.reduceLeDiff, Int.reduceLE, cZ4, hkZ5a, hkZ5b, hyZ6, cZ7, hyZ8a, hyZ8b]
      all_goals simp [qL, qJ, qJ0, qS, qX, qR, qM, Shp, sub, VS1, VS2, VS3, VS4, VS5, VS6, VT1, VT2, S_spec_BlockedRateL1, SX_spec_BlockedRateL1]
    · replace h := cond_f cZ7 h
      cases h
      try simp only [VS1, VS2, VS3, VS4, VS5, VS6, VT1, VT2, finM_ret, finM_nrm, decide_true, decide_false, List.nodup_nil, List.nodup_cons, oks_p, oks_m, Nat.reduceSub, Nat.reduceMul, ↓reduceIte, reduceCtorEq, Nat.reduceEqDiff, Nat.reduceAdd, Nat.reduceLeDiff, Int.reduceLE, cZ4, hkZ5a, hkZ5b, hyZ6, cZ7]
      all_goals simp [qL, qJ, qJ0, qS, qX, qR, qM, Shp, sub, VS1, VS2, VS3, VS4, VS5, VS6, VT1, VT2, S_spec_BlockedRateL1, SX_spec_BlockedRateL1]
  · replace h := cond_f cZ4 h
    cases h
    try simp only [VS1, VS2, VS3, VS4, VS5, VS6, VT1, VT2, finM_ret, finM_nrm, decide_true, decide_false, List.nodup_nil, List.nodup_cons, oks_p, oks_m, Nat.reduceSub, Nat.reduceMul, ↓reduceIte, reduceCtorEq, Nat.reduceEqDiff, Nat.reduceAdd, Nat.reduceLeDiff, Int.reduceLE, cZ4]
    all_goals simp [qL, qJ, qJ0, qS, qX, qR, qM, Shp, sub, VS1, VS2, VS3, VS4, VS5, VS6, VT1, VT2, S_spec_BlockedRateL1, SX_spec_BlockedRateL1]
theorem w_spec_BlockedRate (linksZ0 : List TLink) (nodesZ0 : Int) (listZ0 : List TTributary) {r : Int × Bool} (h : M_spec_BlockedRate linksZ0 nodesZ0 listZ0 = some r) : Ok Try.prog 32 [.lst .o 3 (linksZ0.map (e_TLink .o)), .i nodesZ0, .lst .o 3 (listZ0.map (e_TTributary .o))] ((fun r => .tup [.i r.1, .b r.2]) r) := by
  refine ok_of_body hmix m32 rfl ?_
  unfold M_spec_BlockedRate at h
  simp only [A32, V32, body_eq]
  obtain ⟨rZ1, hrZ1, h⟩ := bind_s h
  simp only [VS1, VS2, VS3, VS4, VS5, VS6, VT1, VT2, finM_ret, finM_nrm, decide_true, decide_false, List.nodup_nil, List.nodup_cons, oks_p, oks_m, Nat.reduceSub, Nat.reduceMul, ↓reduceIte, reduceCtorEq, Nat.reduceEqDiff, Nat.reduceAdd, Nat.reduceLeDiff, Int.reduceLE]
  refine call_u (by simp only [VS1, VS2, VS3, VS4, VS5, VS6, VT1, VT2, finM_ret, finM_nrm, decide_true, decide_false, List.nodup_nil, List.nodup_cons, oks_p, oks_m, Nat.reduceSub, Nat.reduceMul, ↓reduceIte, reduceCtorEq, Nat.reduceEqDiff, Nat.reduceAdd, Nat.reduceLeDiff, Int.reduceLE]; exact w_spec_GroomAll _ _ _ hrZ1 ) (by simp [AV.allU, allUL, allUL_iff, VT1, VT2]) (by simp only [VS1, VS2, VS3, VS4, VS5, VS6, VT1, VT2, finM_ret, finM_nrm, decide_true, decide_false, List.nodup_nil, List.nodup_cons, oks_p, oks_m, Nat.reduceSub, Nat.reduceMul, ↓reduceIte, reduceCtorEq, Nat.reduceEqDiff, Nat.reduceAdd, Nat.reduceLeDiff, Int.reduceLE, Nat.reduceLT]) ?_
  simp only [VA, VF1, ↓reduceIte, Nat.reduceEqDiff, Nat.reduceAdd, Nat.reduceMul, Nat.reduceSub, Nat.reduceLeDiff]
  refine Or.elim (bt (!rZ1.2.2)) (fun cZ2 => ?_) (fun cZ2 => ?_)
  · replace h := cond_t cZ2 h
    cases h
    try simp only [VS1, VS2, VS3, VS4, VS5, VS6, VT1, VT2, finM_ret, finM_nrm, decide_true, decide_false, List.nodup_nil, List.nodup_cons, oks_p, oks_m, Nat.reduceSub, Nat.reduceMul, ↓reduceIte, reduceCtorEq, Nat.reduceEqDiff, Nat.reduceAdd, Nat.reduceLeDiff, Int.reduceLE, cZ2]
    all_goals simp [qL, qJ, qJ0, qS, qX, qR, qM, Shp, sub, VS1, VS2, VS3, VS4, VS5, VS6, VT1, VT2, V32]
  · replace h := cond_f cZ2 h
    obtain ⟨oZ9, hoZ9, h⟩ := bind_s h
    try simp only [VS1, VS2, VS3, VS4, VS5, VS6, VT1, VT2, finM_ret, finM_nrm, decide_true, decide_false, List.nodup_nil, List.nodup_cons, oks_p, oks_m, Nat.reduceSub, Nat.reduceMul, ↓reduceIte, reduceCtorEq, Nat.reduceEqDiff, Nat.reduceAdd, Nat.reduceLeDiff, Int.reduceLE, cZ2]
    refine join_rule0 (blk_rule0 (loop_rule (w_spec_BlockedRateL1 listZ0 rZ1) hoZ9 ?_)) ?_
    · all_goals simp [qL, qJ, qJ0, qS, qX, qR, qM, Shp, sub, VS1, VS2, VS3, VS4, VS5, VS6, VT1, VT2, S_spec_BlockedRateL1, SX_spec_BlockedRateL1]
    · simp only [SX_spec_BlockedRateL1, A32R2]
      cases h
      try simp only [VS1, VS2, VS3, VS4, VS5, VS6, VT1, VT2, finM_ret, finM_nrm, decide_true, decide_false, List.nodup_nil, List.nodup_cons, oks_p, oks_m, Nat.reduceSub, Nat.reduceMul, ↓reduceIte, reduceCtorEq, Nat.reduceEqDiff, Nat.reduceAdd, Nat.reduceLeDiff, Int.reduceLE, cZ2]
      all_goals simp [qL, qJ, qJ0, qS, qX, qR, qM, Shp, sub, VS1, VS2, VS3, VS4, VS5, VS6, VT1, VT2, V32]
theorem w_impl_isGrooming (linksZ0 : List TLink) (nodesZ0 : Int) (listZ0 : List TTributary) {r : Bool} (h : M_impl_isGrooming linksZ0 nodesZ0 listZ0 = some r) : Ok Try.prog 75 [.lst .o 3 (linksZ0.map (e_TLink .o)), .i nodesZ0, .lst .o 3 (listZ0.map (e_TTributary .o))] ((fun r => .b r) r) := by
  refine ok_of_body hmix m75 rfl ?_
  unfold M_impl_isGrooming at h
  simp only [A75, V75, body_eq]
  obtain ⟨rZ1, hrZ1, h⟩ := bind_s h
  simp only [VS1, VS2, VS3, VS4, VS5, VS6, VT1, VT2, finM_ret, finM_nrm, decide_true, decide_false, List.nodup_nil, List.nodup_cons, oks_p, oks_m, Nat.reduceSub, Nat.reduceMul, ↓reduceIte, reduceCtorEq, Nat.reduceEqDiff, Nat.reduceAdd, Nat.reduceLeDiff, Int.reduceLE]
  refine call_s (by simp only [VS1, VS2, VS3, VS4, VS5, VS6, VT1, VT2, finM_ret, finM_nrm, decide_true, decide_false, List.nodup_nil, List.nodup_cons, oks_p, oks_m, Nat.reduceSub, Nat.reduceMul, ↓reduceIte, reduceCtorEq, Nat.reduceEqDiff, Nat.reduceAdd, Nat.reduceLeDiff, Int.reduceLE]; exact w_impl_areLinks _ _ hrZ1 ) ?_
  simp only [VA, VF1, ↓reduceIte, Nat.reduceEqDiff, Nat.reduceAdd, Nat.reduceMul, Nat.reduceSub, Nat.reduceLeDiff]
  refine Or.elim (bt (rZ1)) (fun cZ2 => ?_) (fun cZ2 => ?_)
  · replace h := cond_t cZ2 h
    obtain ⟨rZ3, hrZ3, h⟩ := bind_s h
    simp only [VS1, VS2, VS3, VS4, VS5, VS6, VT1, VT2, finM_ret, finM_nrm, decide_true, decide_false, List.nodup_nil, List.nodup_cons, oks_p, oks_m, Nat.reduceSub, Nat.reduceMul, ↓reduceIte, reduceCtorEq, Nat.reduceEqDiff, Nat.reduceAdd, Nat.reduceLeDiff, Int.reduceLE, cZ2]
    refine call_s (by simp only [VS1, VS2, VS3, VS4, VS5, VS6, VT1, VT2, finM_ret, finM_nrm, decide_true, decide_false, List.nodup_nil, List.nodup_cons, oks_p, oks_m, Nat.reduceSub, Nat.reduceMul, ↓reduceIte, reduceCtorEq, Nat.reduceEqDiff, Nat.reduceAdd, Nat.reduceLeDiff, Int.reduceLE, cZ2]; exact w_impl_IsValidTributaries _ _ hrZ3 ) ?_
    simp only [VA, VF1, ↓reduceIte, Nat.reduceEqDiff, Nat.reduceAdd, Nat.reduceMul, Nat.reduceSub, Nat.reduceLeDiff]
    cases h
    try simp only [VS1, VS2, VS3, VS4, VS5, VS6, VT1, VT2, finM_ret, finM_nrm, decide_true, decide_false, List.nodup_nil, List.nodup_cons, oks_p, oks_m, Nat.reduceSub, Nat.reduceMul, ↓reduceIte, reduceCtorEq, Nat.reduceEqDiff, Nat.reduceAdd, Nat.reduceLeDiff, Int.reduceLE, cZ2]
    all_goals simp [qL, qJ, qJ0, qS, qX, qR, qM, Shp, sub, VS1, VS2, VS3, VS4, VS5, VS6, VT1, VT2, V75]
  · replace h := cond_f cZ2 h
    cases h
    try simp only [VS1, VS2, VS3, VS4, VS5, VS6, VT1, VT2, finM_ret, finM_nrm, decide_true, decide_false, List.nodup_nil, List.nodup_cons, oks_p, oks_m, Nat.reduceSub, Nat.reduceMul, ↓reduceIte, reduceCtorEq, Nat.reduceEqDiff, Nat.reduceAdd, Nat.reduceLeDiff, Int.reduceLE, cZ2]
    all_goals simp [qL, qJ, qJ0, qS, qX, qR, qM, Shp, sub, VS1, VS2, VS3, VS4, VS5, VS6, VT1, VT2, V75]
def S_impl_groomedL1 (linksZ0 : List TLink) (listZ0 : List TTributary) (v : Int × List Int) : St := ⟨[(0, .lst .o 3 (linksZ0.map (e_TLink .o))), (1, .lst .o 3 (listZ0.map (e_TTributary .o))), (7, .sl 7 0 0), (8, .sl 8 0 v.2.length), (9, .i 0), (20, .lst .o 3 (linksZ0.map (e_TLink .o))), (21, .i (linksZ0.length : Int)), (22, .i v.1)], [(7, .arr 1 []), (8, .arr 1 (v.2.map AV.i))]⟩
def SX_impl_groomedL1 (linksZ0 : List TLink) (listZ0 : List TTributary) (v : List Int) : St := ⟨[(0, .lst .o 3 (linksZ0.map (e_TLink .o))), (1, .lst .o 3 (listZ0.map (e_TTributary .o))), (7, .sl 7 0 0), (8, .sl 8 0 v.length), (9, .i 0)], [(7, .arr 1 []), (8, .arr 1 (v.map AV.i))]⟩
theorem w_impl_groomedL1 (linksZ0 : List TLink) (listZ0 : List TTributary) (sZ1 : Int × List Int) (o : (Int × List Int) ⊕ (List Int)) (h : M_impl_groomedL1 linksZ0 sZ1 = some o) : AWP (OkS Try.prog) A76L1 (qL [0, 1, 7, 8, 9, 20, 21, 22] [7, 8] (S_impl_groomedL1 linksZ0 listZ0) (qX 0 [0, 1, 7, 8, 9] [7, 8] (SX_impl_groomedL1 linksZ0 listZ0)) o) (S_impl_groomedL1 linksZ0 listZ0 sZ1) := by
  unfold M_impl_groomedL1 at h
  simp only [S_impl_groomedL1, A76L1]
  refine Or.elim (bt (decide (sZ1.1 < (linksZ0.length : Int)))) (fun cZ2 => ?_) (fun cZ2 => ?_)
  · replace h := cond_t cZ2 h
    obtain ⟨yZ3, hyZ3, h⟩ := bind_s h
    obtain ⟨hyZ3a, hyZ3b⟩ := geti_s hyZ3
    obtain ⟨lZ4, hlZ4, h⟩ := bnd_s h
    have eZ5 : Row.arr 1 [(.i yZ3.Capacity : AV)] = Row.arr 1 (lZ4.map AV.i) := by rw [← hlZ4]; rfl
    have eZ6 : lZ4.length = 1 := by rw [← hlZ4]; rfl
    obtain ⟨uZ7, huZ7, h⟩ := bind_s h
    have huZ7g := grd_s huZ7
    obtain ⟨lZ8, hlZ8, h⟩ := bnd_s h
    have eZ9 : sZ1.2.map AV.i ++ lZ4.map AV.i = lZ8.map AV.i := by rw [← hlZ8, List.map_append]
    have eZ10 : sZ1.2.length + 1 = lZ8.length := by simp [← hlZ4, ← hlZ8] <;> omega
    rw [eZ10] at huZ7g
    cases h
    try simp only [VS1, VS2, VS3, VS4, VS5, VS6, VT1, VT2, finM_ret, finM_nrm, decide_true, decide_false, List.nodup_nil, List.nodup_cons, oks_p, oks_m, Nat.reduceSub, Nat.reduceMul, ↓reduceIte, reduceCtorEq, Nat.reduceEqDiff, Nat.reduceAdd, Nat.reduceLeDiff, Int.reduceLE, cZ2, hyZ3a, hyZ3b, eZ5, eZ6, huZ7g, eZ9, eZ10]
    all_goals simp [qL, qJ, qJ0, qS, qX, qR, qM, Shp, sub, VS1, VS2, VS3, VS4, VS5, VS6, VT1, VT2, S_impl_groomedL1, SX_impl_groomedL1, ← hlZ4, ← hlZ8]
  · replace h := cond_f cZ2 h
    cases h
    try simp only [VS1, VS2, VS3, VS4, VS5, VS6, VT1, VT2, finM_ret, finM_nrm, decide_true, decide_false, List.nodup_nil, List.nodup_cons, oks_p, oks_m, Nat.reduceSub, Nat.reduceMul, ↓reduceIte, reduceCtorEq, Nat.reduceEqDiff, Nat.reduceAdd, Nat.reduceLeDiff, Int.reduceLE, cZ2]
    all_goals simp [qL, qJ, qJ0, qS, qX, qR, qM, Shp, sub, VS1, VS2, VS3, VS4, VS5, VS6, VT1, VT2, S_impl_groomedL1, SX_impl_groomedL1]
def S_impl_groomedL3 (linksZ0 : List TLink) (listZ0 : List TTributary) (sZ12 : Int × Int × List (List Int) × List Int) (yZ14 : TTributary) (rZ15 : List Int × Bool) (oZ17 : Int) (v : Int × List Int) : St := ⟨[(0, .lst .o 3 (linksZ0.map (e_TLink .o))), (7, .sl 7 0 sZ12.2.2.1.length), (8, .sl 8 0 v.2.length), (9, .i oZ17), (13, .pt 13 0 0), (14, .sl 14 0 rZ15.1.length), (32, .lst .o 3 (listZ0.map (e_TTributary .o))), (33, .i (listZ0.length : Int)), (34, .i sZ12.2.1), (51, .sl 14 0 rZ15.1.length), (52, .i (rZ15.1.length : Int)), (53, .i v.1)], [(7, .arr 1 (sZ12.2.2.1.map (e_Li .u))), (8, .arr 1 (v.2.map AV.i)), (13, .var (.agg [.i yZ14.From, .i yZ14.To, .i yZ14.Rate])), (14, .arr 1 (rZ15.1.map AV.i))]⟩
def SX_impl_groomedL3 (linksZ0 : List TLink) (listZ0 : List TTributary) (sZ12 : Int × Int × List (List Int) × List Int) (rZ15 : List Int × Bool) (oZ17 : Int) (v : List Int) : St := ⟨[(0, .lst .o 3 (linksZ0.map (e_TLink .o))), (7, .sl 7 0 sZ12.2.2.1.length), (8, .sl 8 0 v.length), (9, .i oZ17), (14, .sl 14 0 rZ15.1.length), (32, .lst .o 3 (listZ0.map (e_TTributary .o))), (33, .i (listZ0.length : Int)), (34, .i sZ12.2.1)], [(7, .arr 1 (sZ12.2.2.1.map (e_Li .u))), (8, .arr 1 (v.map AV.i)), (14, .arr 1 (rZ15.1.map AV.i))]⟩
theorem w_impl_groomedL3 (linksZ0 : List TLink) (listZ0 : List TTributary) (sZ12 : Int × Int × List (List Int) × List Int) (yZ14 : TTributary) (rZ15 : List Int × Bool) (oZ17 : Int) (sZ18 : Int × List Int) (o : (Int × List Int) ⊕ (List Int)) (h : M_impl_groomedL3 yZ14 rZ15 sZ18 = some o) : AWP (OkS Try.prog) A76L4 (qL [0, 7, 8, 9, 13, 14, 32, 33, 34, 51, 52, 53] [7, 8, 13, 14] (S_impl_groomedL3 linksZ0 listZ0 sZ12 yZ14 rZ15 oZ17) (qX 4 [0, 7, 8, 9, 14, 32, 33, 34] [7, 8, 14] (SX_impl_groomedL3 linksZ0 listZ0 sZ12 rZ15 oZ17)) o) (S_impl_groomedL3 linksZ0 listZ0 sZ12 yZ14 rZ15 oZ17 sZ18) := by
  unfold M_impl_groomedL3 at h
  simp only [S_impl_groomedL3, A76L4]
  refine Or.elim (bt (decide (sZ18.1 < (rZ15.1.length : Int)))) (fun cZ19 => ?_) (fun cZ19 => ?_)
  · replace h := cond_t cZ19 h
    obtain ⟨kZ20, hkZ20, h⟩ := bind_s h
    obtain ⟨hkZ20a, hkZ20b⟩ := grd_s hkZ20
    obtain ⟨yZ21, hyZ21, h⟩ := bind_s h
    obtain ⟨kZ22, hkZ22, h⟩ := bind_s h
    obtain ⟨hkZ22a, hkZ22b⟩ := grd_s hkZ22
    obtain ⟨yZ23, hyZ23, h⟩ := bind_s h
    obtain ⟨lZ24, hlZ24, h⟩ := bnd_s h
    have eZ25 : (sZ18.2.map AV.i).set (Int.toNat yZ21) (.i (IntKind.wrap .i64 (yZ23 - yZ14.Rate))) = lZ24.map AV.i := by rw [← hlZ24, List.map_set]
    cases h
    try simp only [VS1, VS2, VS3, VS4, VS5, VS6, VT1, VT2, finM_ret, finM_nrm, decide_true, decide_false, List.nodup_nil, List.nodup_cons, oks_p, oks_m, Nat.reduceSub, Nat.reduceMul, ↓reduceIte, reduceCtorEq, Nat.reduceEqDiff, Nat.reduceAdd, Nat.reduceLeDiff, Int.reduceLE, cZ19, hkZ20a, hkZ20b, hyZ21, hkZ22a, hkZ22b, hyZ23, eZ25]
    all_goals simp [qL, qJ, qJ0, qS, qX, qR, qM, Shp, sub, VS1, VS2, VS3, VS4, VS5, VS6, VT1, VT2, S_impl_groomedL3, SX_impl_groomedL3, ← hlZ24]
  · replace h := cond_f cZ19 h
    cases h
    try simp only [VS1, VS2, VS3, VS4, VS5, VS6, VT1, VT2, finM_ret, finM_nrm, decide_true, decide_false, List.nodup_nil, List.nodup_cons, oks_p, oks_m, Nat.reduceSub, Nat.reduceMul, ↓reduceIte, reduceCtorEq, Nat.reduceEqDiff, Nat.reduceAdd, Nat.reduceLeDiff, Int.reduceLE, cZ19]
    all_goals simp [qL, qJ, qJ0, qS, qX, qR, qM, Shp, sub, VS1, VS2, VS3, VS4, VS5, VS6, VT1, VT2, S_impl_groomedL3, SX_impl_groomedL3]
def S_impl_groomedL2 (linksZ0 : List TLink) (listZ0 : List TTributary) (v : Int × Int × List (List Int) × List Int) : St := ⟨[(0, .lst .o 3 (linksZ0.map (e_TLink .o))), (7, .sl 7 0 v.2.2.1.length), (8, .sl 8 0 v.2.2.2.length), (9, .i v.1), (32, .lst .o 3 (listZ0.map (e_TTributary .o))), (33, .i (listZ0.length : Int)), (34, .i v.2.1)], [(7, .arr 1 (v.2.2.1.map (e_Li .u))), (8, .arr 1 (v.2.2.2.map AV.i))]⟩
def SX_impl_groomedL2 (v : Int × List (List Int) × List Int) : St := ⟨[(7, .sl 7 0 v.2.1.length), (8, .sl 8 0 v.2.2.length), (9, .i v.1)], [(7, .arr 1 (v.2.1.map (e_Li .u))), (8, .arr 1 (v.2.2.map AV.i))]⟩
theorem w_impl_groomedL2 (linksZ0 : List TLink) (listZ0 : List TTributary) (sZ12 : Int × Int × List (List Int) × List Int) (o : (Int × Int × List (List Int) × List Int) ⊕ (Int × List (List Int) × List Int)) (h : M_impl_groomedL2 linksZ0 listZ0 sZ12 = some o) : AWP (OkS Try.prog) A76L6 (qL [0, 7, 8, 9, 32, 33, 34] [7, 8] (S_impl_groomedL2 linksZ0 listZ0) (qX 2 [7, 8, 9] [7, 8] (SX_impl_groomedL2)) o) (S_impl_groomedL2 linksZ0 listZ0 sZ12) := by
  unfold M_impl_groomedL2 at h
  simp only [S_impl_groomedL2, A76L6]
  refine Or.elim (bt (decide (sZ12.2.1 < (listZ0.length : Int)))) (fun cZ13 => ?_) (fun cZ13 => ?_)
  · replace h := cond_t cZ13 h
    obtain ⟨yZ14, hyZ14, h⟩ := bind_s h
    obtain ⟨hyZ14a, hyZ14b⟩ := geti_s hyZ14
    obtain ⟨rZ15, hrZ15, h⟩ := bind_s h
    simp only [VS1, VS2, VS3, VS4, VS5, VS6, VT1, VT2, finM_ret, finM_nrm, decide_true, decide_false, List.nodup_nil, List.nodup_cons, oks_p, oks_m, Nat.reduceSub, Nat.reduceMul, ↓reduceIte, reduceCtorEq, Nat.reduceEqDiff, Nat.reduceAdd, Nat.reduceLeDiff, Int.reduceLE, cZ13, hyZ14a, hyZ14b]
    refine call_u (by simp only [VS1, VS2, VS3, VS4, VS5, VS6, VT1, VT2, finM_ret, finM_nrm, decide_true, decide_false, List.nodup_nil, List.nodup_cons, oks_p, oks_m, Nat.reduceSub, Nat.reduceMul, ↓reduceIte, reduceCtorEq, Nat.reduceEqDiff, Nat.reduceAdd, Nat.reduceLeDiff, Int.reduceLE, cZ13, hyZ14a, hyZ14b]; exact w_impl_routed _ _ _ hrZ15 ) (by simp [AV.allU, allUL, allUL_iff, VT1, VT2]) (by simp only [VS1, VS2, VS3, VS4, VS5, VS6, VT1, VT2, finM_ret, finM_nrm, decide_true, decide_false, List.nodup_nil, List.nodup_cons, oks_p, oks_m, Nat.reduceSub, Nat.reduceMul, ↓reduceIte, reduceCtorEq, Nat.reduceEqDiff, Nat.reduceAdd, Nat.reduceLeDiff, Int.reduceLE, Nat.reduceLT]) ?_
    simp only [VA, VF1, ↓reduceIte, Nat.reduceEqDiff, Nat.reduceAdd, Nat.reduceMul, Nat.reduceSub, Nat.reduceLeDiff]
    obtain ⟨oZ17, hoZ17, h⟩ := bind_s h
    try simp only [VS1, VS2, VS3, VS4, VS5, VS6, VT1, VT2, finM_ret, finM_nrm, decide_true, decide_false, List.nodup_nil, List.nodup_cons, oks_p, oks_m, Nat.reduceSub, Nat.reduceMul, ↓reduceIte, reduceCtorEq, Nat.reduceEqDiff, Nat.reduceAdd, Nat.reduceLeDiff, Int.reduceLE, cZ13, hyZ14a, hyZ14b]
    refine join_rule0 (sh := (fun v => ⟨[(0, .lst .o 3 (linksZ0.map (e_TLink .o))), (7, .sl 7 0 sZ12.2.2.1.length), (8, .sl 8 0 sZ12.2.2.2.length), (9, .i v), (13, .pt 13 0 0), (14, .sl 14 0 rZ15.1.length), (32, .lst .o 3 (listZ0.map (e_TTributary .o))), (33, .i (listZ0.length : Int)), (34, .i sZ12.2.1)], [(7, .arr 1 (sZ12.2.2.1.map (e_Li .u))), (8, .arr 1 (sZ12.2.2.2.map AV.i)), (13, .var (.agg [.i yZ14.From, .i yZ14.To, .i yZ14.Rate])), (14, .arr 1 (rZ15.1.map AV.i))]⟩)) (s := oZ17) ?_ ?_
    · replace h := hoZ17
      refine Or.elim (bt (!rZ15.2)) (fun cZ16 => ?_) (fun cZ16 => ?_)
      · replace h := cond_t cZ16 h
        cases h
        try simp only [VS1, VS2, VS3, VS4, VS5, VS6, VT1, VT2, finM_ret, finM_nrm, decide_true, decide_false, List.nodup_nil, List.nodup_cons, oks_p, oks_m, Nat.reduceSub, Nat.reduceMul, ↓reduceIte, reduceCtorEq, Nat.reduceEqDiff, Nat.reduceAdd, Nat.reduceLeDiff, Int.reduceLE, cZ13, hyZ14a, hyZ14b, cZ16]
        all_goals simp [qL, qJ, qJ0, qS, qX, qR, qM, Shp, sub, VS1, VS2, VS3, VS4, VS5, VS6, VT1, VT2]
      · replace h := cond_f cZ16 h
        cases h
        try simp only [VS1, VS2, VS3, VS4, VS5, VS6, VT1, VT2, finM_ret, finM_nrm, decide_true, decide_false, List.nodup_nil, List.nodup_cons, oks_p, oks_m, Nat.reduceSub, Nat.reduceMul, ↓reduceIte, reduceCtorEq, Nat.reduceEqDiff, Nat.reduceAdd, Nat.reduceLeDiff, Int.reduceLE, cZ13, hyZ14a, hyZ14b, cZ16]
        all_goals simp [qL, qJ, qJ0, qS, qX, qR, qM, Shp, sub, VS1, VS2, VS3, VS4, VS5, VS6, VT1, VT2]
    · simp only [A76R3]
      obtain ⟨oZ26, hoZ26, h⟩ := bind_s h
      try simp only [VS1, VS2, VS3, VS4, VS5, VS6, VT1, VT2, finM_ret, finM_nrm, decide_true, decide_false, List.nodup_nil, List.nodup_cons, oks_p, oks_m, Nat.reduceSub, Nat.reduceMul, ↓reduceIte, reduceCtorEq, Nat.reduceEqDiff, Nat.reduceAdd, Nat.reduceLeDiff, Int.reduceLE, cZ13, hyZ14a, hyZ14b]
      refine join_rule0 (blk_rule0 (loop_rule (w_impl_groomedL3 linksZ0 listZ0 sZ12 yZ14 rZ15 oZ17) hoZ26 ?_)) ?_
      · all_goals simp [qL, qJ, qJ0, qS, qX, qR, qM, Shp, sub, VS1, VS2, VS3, VS4, VS5, VS6, VT1, VT2, S_impl_groomedL3, SX_impl_groomedL3]
      · simp only [SX_impl_groomedL3, A76R5]
        obtain ⟨lZ27, hlZ27, h⟩ := bnd_s h
        have eZ28 : Row.arr 1 [(.lst .u 1 (rZ15.1.map AV.i) : AV)] = Row.arr 1 (lZ27.map (e_Li .u)) := by rw [← hlZ27]; rfl
        have eZ29 : lZ27.length = 1 := by rw [← hlZ27]; rfl
        obtain ⟨uZ30, huZ30, h⟩ := bind_s h
        have huZ30g := grd_s huZ30
        obtain ⟨lZ31, hlZ31, h⟩ := bnd_s h
        have eZ32 : sZ12.2.2.1.map (e_Li .u) ++ lZ27.map (e_Li .u) = lZ31.map (e_Li .u) := by rw [← hlZ31, List.map_append]
        have eZ33 : sZ12.2.2.1.length + 1 = lZ31.length := by simp [← hlZ27, ← hlZ31] <;> omega
        rw [eZ33] at huZ30g
        cases h
        try simp only [VS1, VS2, VS3, VS4, VS5, VS6, VT1, VT2, finM_ret, finM_nrm, decide_true, decide_false, List.nodup_nil, List.nodup_cons, oks_p, oks_m, Nat.reduceSub, Nat.reduceMul, ↓reduceIte, reduceCtorEq, Nat.reduceEqDiff, Nat.reduceAdd, Nat.reduceLeDiff, Int.reduceLE, cZ13, hyZ14a, hyZ14b, eZ28, eZ29, huZ30g, eZ32, eZ33]
        all_goals simp [qL, qJ, qJ0, qS, qX, qR, qM, Shp, sub, VS1, VS2, VS3, VS4, VS5, VS6, VT1, VT2, S_impl_groomedL2, SX_impl_groomedL2, ← hlZ27, ← hlZ31]
  · replace h := cond_f cZ13 h
    cases h
    try simp only [VS1, VS2, VS3, VS4, VS5, VS6, VT1, VT2, finM_ret, finM_nrm, decide_true, decide_false, List.nodup_nil, List.nodup_cons, oks_p, oks_m, Nat.reduceSub, Nat.reduceMul, ↓reduceIte, reduceCtorEq, Nat.reduceEqDiff, Nat.reduceAdd, Nat.reduceLeDiff, Int.reduceLE, cZ13]
    all_goals simp [qL, qJ, qJ0, qS, qX, qR, qM, Shp, sub, VS1, VS2, VS3, VS4, VS5, VS6, VT1, VT2, S_impl_groomedL2, SX_impl_groomedL2]
theorem w_impl_groomed (linksZ0 : List TLink) (listZ0 : List TTributary) {r : List (List Int) × List Int × Int} (h : M_impl_groomed linksZ0 listZ0 = some r) : Ok Try.prog 76 [.lst .o 3 (linksZ0.map (e_TLink .o)), .lst .o 3 (listZ0.map (e_TTributary .o))] ((fun r => .tup [.lst .u 1 (r.1.map (e_Li .u)), .lst .u 1 (r.2.1.map AV.i), .i r.2.2]) r) := by
  refine ok_of_body hmix m76 rfl ?_
  unfold M_impl_groomed at h
  simp only [A76, V76, body_eq]
  obtain ⟨oZ11, hoZ11, h⟩ := bind_s h
  try simp only [VS1, VS2, VS3, VS4, VS5, VS6, VT1, VT2, finM_ret, finM_nrm, decide_true, decide_false, List.nodup_nil, List.nodup_cons, oks_p, oks_m, Nat.reduceSub, Nat.reduceMul, ↓reduceIte, reduceCtorEq, Nat.reduceEqDiff, Nat.reduceAdd, Nat.reduceLeDiff, Int.reduceLE]
  refine join_rule0 (blk_rule0 (loop_rule (w_impl_groomedL1 linksZ0 listZ0) hoZ11 ?_)) ?_
  · all_goals simp [qL, qJ, qJ0, qS, qX, qR, qM, Shp, sub, VS1, VS2, VS3, VS4, VS5, VS6, VT1, VT2, S_impl_groomedL1, SX_impl_groomedL1]
  · simp only [SX_impl_groomedL1, A76R2]
    obtain ⟨oZ34, hoZ34, h⟩ := bind_s h
    try simp only [VS1, VS2, VS3, VS4, VS5, VS6, VT1, VT2, finM_ret, finM_nrm, decide_true, decide_false, List.nodup_nil, List.nodup_cons, oks_p, oks_m, Nat.reduceSub, Nat.reduceMul, ↓reduceIte, reduceCtorEq, Nat.reduceEqDiff, Nat.reduceAdd, Nat.reduceLeDiff, Int.reduceLE]
    refine join_rule0 (blk_rule0 (loop_rule (w_impl_groomedL2 linksZ0 listZ0) hoZ34 ?_)) ?_
    · all_goals simp [qL, qJ, qJ0, qS, qX, qR, qM, Shp, sub, VS1, VS2, VS3, VS4, VS5, VS6, VT1, VT2, S_impl_groomedL2, SX_impl_groomedL2]
    · simp only [SX_impl_groomedL2, A76R7]
      cases h
      try simp only [VS1, VS2, VS3, VS4, VS5, VS6, VT1, VT2, finM_ret, finM_nrm, decide_true, decide_false, List.nodup_nil, List.nodup_cons, oks_p, oks_m, Nat.reduceSub, Nat.reduceMul, ↓reduceIte, reduceCtorEq, Nat.reduceEqDiff, Nat.reduceAdd, Nat.reduceLeDiff, Int.reduceLE]
      all_goals simp [qL, qJ, qJ0, qS, qX, qR, qM, Shp, sub, VS1, VS2, VS3, VS4, VS5, VS6, VT1, VT2, V76]
theorem w_impl_BlockedRate (linksZ0 : List TLink) (nodesZ0 : Int) (listZ0 : List TTributary) {r : Int × Bool} (h : M_impl_BlockedRate linksZ0 nodesZ0 listZ0 = some r) : Ok Try.prog 33 [.lst .o 3 (linksZ0.map (e_TLink .o)), .i nodesZ0, .lst .o 3 (listZ0.map (e_TTributary .o))] ((fun r => .tup [.i r.1, .b r.2]) r) := by
  refine ok_of_body hmix m33 rfl ?_
  unfold M_impl_BlockedRate at h
  simp only [A33, V33, body_eq]
  obtain ⟨rZ1, hrZ1, h⟩ := bind_s h
  simp only [VS1, VS2, VS3, VS4, VS5, VS6, VT1, VT2, finM_ret, finM_nrm, decide_true, decide_false, List.nodup_nil, List.nodup_cons, oks_p, oks_m, Nat.reduceSub, Nat.reduceMul, ↓reduceIte, reduceCtorEq, Nat.reduceEqDiff, Nat.reduceAdd, Nat.reduceLeDiff, Int.reduceLE]
  refine call_s (by simp only [VS1, VS2, VS3, VS4, VS5, VS6, VT1, VT2, finM_ret, finM_nrm, decide_true, decide_false, List.nodup_nil, List.nodup_cons, oks_p, oks_m, Nat.reduceSub, Nat.reduceMul, ↓reduceIte, reduceCtorEq, Nat.reduceEqDiff, Nat.reduceAdd, Nat.reduceLeDiff, Int.reduceLE]; exact w_impl_isGrooming _ _ _ hrZ1 ) ?_
  simp only [VA, VF1, ↓reduceIte, Nat.reduceEqDiff, Nat.reduceAdd, Nat.reduceMul, Nat.reduceSub, Nat.reduceLeDiff]
  refine Or.elim (bt (!rZ1)) (fun cZ2 => ?_) (fun cZ2 => ?_)
  · replace h := cond_t cZ2 h
    cases h
    try simp only [VS1, VS2, VS3, VS4, VS5, VS6, VT1, VT2, finM_ret, finM_nrm, decide_true, decide_false, List.nodup_nil, List.nodup_cons, oks_p, oks_m, Nat.reduceSub, Nat.reduceMul, ↓reduceIte, reduceCtorEq, Nat.reduceEqDiff, Nat.reduceAdd, Nat.reduceLeDiff, Int.reduceLE, cZ2]
    all_goals simp [qL, qJ, qJ0, qS, qX, qR, qM, Shp, sub, VS1, VS2, VS3, VS4, VS5, VS6, VT1, VT2, V33]
  · replace h := cond_f cZ2 h
    obtain ⟨rZ3, hrZ3, h⟩ := bind_s h
    simp only [VS1, VS2, VS3, VS4, VS5, VS6, VT1, VT2, finM_ret, finM_nrm, decide_true, decide_false, List.nodup_nil, List.nodup_cons, oks_p, oks_m, Nat.reduceSub, Nat.reduceMul, ↓reduceIte, reduceCtorEq, Nat.reduceEqDiff, Nat.reduceAdd, Nat.reduceLeDiff, Int.reduceLE, cZ2]
    refine call_u (by simp only [VS1, VS2, VS3, VS4, VS5, VS6, VT1, VT2, finM_ret, finM_nrm, decide_true, decide_false, List.nodup_nil, List.nodup_cons, oks_p, oks_m, Nat.reduceSub, Nat.reduceMul, ↓reduceIte, reduceCtorEq, Nat.reduceEqDiff, Nat.reduceAdd, Nat.reduceLeDiff, Int.reduceLE, cZ2]; exact w_impl_groomed _ _ hrZ3 ) (by simp [AV.allU, allUL, allUL_iff, VT1, VT2]) (by simp only [VS1, VS2, VS3, VS4, VS5, VS6, VT1, VT2, finM_ret, finM_nrm, decide_true, decide_false, List.nodup_nil, List.nodup_cons, oks_p, oks_m, Nat.reduceSub, Nat.reduceMul, ↓reduceIte, reduceCtorEq, Nat.reduceEqDiff, Nat.reduceAdd, Nat.reduceLeDiff, Int.reduceLE, Nat.reduceLT]) ?_
    simp only [VA, VF1, ↓reduceIte, Nat.reduceEqDiff, Nat.reduceAdd, Nat.reduceMul, Nat.reduceSub, Nat.reduceLeDiff]
    cases h
    try simp only [VS1, VS2, VS3, VS4, VS5, VS6, VT1, VT2, finM_ret, finM_nrm, decide_true, decide_false, List.nodup_nil, List.nodup_cons, oks_p, oks_m, Nat.reduceSub, Nat.reduceMul, ↓reduceIte, reduceCtorEq, Nat.reduceEqDiff, Nat.reduceAdd, Nat.reduceLeDiff, Int.reduceLE, cZ2]
    all_goals simp [qL, qJ, qJ0, qS, qX, qR, qM, Shp, sub, VS1, VS2, VS3, VS4, VS5, VS6, VT1, VT2, V33]
theorem w_laws_FnExactBlockedRate (aLinksZ0 : List TLink) (aNodesZ0 : Int) (aListZ0 : List TTributary) {r : Bool} (h : M_laws_FnExactBlockedRate aLinksZ0 aNodesZ0 aListZ0 = some r) : Ok Try.prog 6 [.lst .o 3 (aLinksZ0.map (e_TLink .o)), .i aNodesZ0, .lst .o 3 (aListZ0.map (e_TTributary .o))] ((fun r => .b r) r) := by
  refine ok_of_body hmix m6 rfl ?_
  unfold M_laws_FnExactBlockedRate at h
  simp only [A6, V6, body_eq]
  obtain ⟨rZ1, hrZ1, h⟩ := bind_s h
  simp only [VS1, VS2, VS3, VS4, VS5, VS6, VT1, VT2, finM_ret, finM_nrm, decide_true, decide_false, List.nodup_nil, List.nodup_cons, oks_p, oks_m, Nat.reduceSub, Nat.reduceMul, ↓reduceIte, reduceCtorEq, Nat.reduceEqDiff, Nat.reduceAdd, Nat.reduceLeDiff, Int.reduceLE]
  refine call_s (by simp only [VS1, VS2, VS3, VS4, VS5, VS6, VT1, VT2, finM_ret, finM_nrm, decide_true, decide_false, List.nodup_nil, List.nodup_cons, oks_p, oks_m, Nat.reduceSub, Nat.reduceMul, ↓reduceIte, reduceCtorEq, Nat.reduceEqDiff, Nat.reduceAdd, Nat.reduceLeDiff, Int.reduceLE]; exact w_laws_szLinkS _ _ hrZ1 ) ?_
  simp only [VA, VF1, ↓reduceIte, Nat.reduceEqDiff, Nat.reduceAdd, Nat.reduceMul, Nat.reduceSub, Nat.reduceLeDiff]
  refine Or.elim (bt (decide (rZ1 < 0))) (fun cZ2 => ?_) (fun cZ2 => ?_)
  · replace h := cond_t cZ2 h
    cases h
    try simp only [VS1, VS2, VS3, VS4, VS5, VS6, VT1, VT2, finM_ret, finM_nrm, decide_true, decide_false, List.nodup_nil, List.nodup_cons, oks_p, oks_m, Nat.reduceSub, Nat.reduceMul, ↓reduceIte, reduceCtorEq, Nat.reduceEqDiff, Nat.reduceAdd, Nat.reduceLeDiff, Int.reduceLE, cZ2]
    all_goals simp [qL, qJ, qJ0, qS, qX, qR, qM, Shp, sub, VS1, VS2, VS3, VS4, VS5, VS6, VT1, VT2, V6]
  · replace h := cond_f cZ2 h
    obtain ⟨rZ3, hrZ3, h⟩ := bind_s h
    simp only [VS1, VS2, VS3, VS4, VS5, VS6, VT1, VT2, finM_ret, finM_nrm, decide_true, decide_false, List.nodup_nil, List.nodup_cons, oks_p, oks_m, Nat.reduceSub, Nat.reduceMul, ↓reduceIte, reduceCtorEq, Nat.reduceEqDiff, Nat.reduceAdd, Nat.reduceLeDiff, Int.reduceLE, cZ2]
    refine call_s (by simp only [VS1, VS2, VS3, VS4, VS5, VS6, VT1, VT2, finM_ret, finM_nrm, decide_true, decide_false, List.nodup_nil, List.nodup_cons, oks_p, oks_m, Nat.reduceSub, Nat.reduceMul, ↓reduceIte, reduceCtorEq, Nat.reduceEqDiff, Nat.reduceAdd, Nat.reduceLeDiff, Int.reduceLE, cZ2]; exact w_laws_szTributaryS _ _ hrZ3 ) ?_
    simp only [VA, VF1, ↓reduceIte, Nat.reduceEqDiff, Nat.reduceAdd, Nat.reduceMul, Nat.reduceSub, Nat.reduceLeDiff]
    refine Or.elim (bt (decide (rZ3 < 0))) (fun cZ4 => ?_) (fun cZ4 => ?_)
    · replace h := cond_t cZ4 h
      cases h
      try simp only [VS1, VS2, VS3, VS4, VS5, VS6, VT1, VT2, finM_ret, finM_nrm, decide_true, decide_false, List.nodup_nil, List.nodup_cons, oks_p, oks_m, Nat.reduceSub, Nat.reduceMul, ↓reduceIte, reduceCtorEq, Nat.reduceEqDiff, Nat.reduceAdd, Nat.reduceLeDiff, Int.reduceLE, cZ2, cZ4]
      all_goals simp [qL, qJ, qJ0, qS, qX, qR, qM, Shp, sub, VS1, VS2, VS3, VS4, VS5, VS6, VT1, VT2, V6]
    · replace h := cond_f cZ4 h
      obtain ⟨rZ5, hrZ5, h⟩ := bind_s h
      simp only [VS1, VS2, VS3, VS4, VS5, VS6, VT1, VT2, finM_ret, finM_nrm, decide_true, decide_false, List.nodup_nil, List.nodup_cons, oks_p, oks_m, Nat.reduceSub, Nat.reduceMul, ↓reduceIte, reduceCtorEq, Nat.reduceEqDiff, Nat.reduceAdd, Nat.reduceLeDiff, Int.reduceLE, cZ2, cZ4]
      refine call_u (by simp only [VS1, VS2, VS3, VS4, VS5, VS6, VT1, VT2, finM_ret, finM_nrm, decide_true, decide_false, List.nodup_nil, List.nodup_cons, oks_p, oks_m, Nat.reduceSub, Nat.reduceMul, ↓reduceIte, reduceCtorEq, Nat.reduceEqDiff, Nat.reduceAdd, Nat.reduceLeDiff, Int.reduceLE, cZ2, cZ4]; exact w_laws_toLinkS _ hrZ5 ) (by simp [AV.allU, allUL, allUL_iff, VT1, VT2]) (by simp only [VS1, VS2, VS3, VS4, VS5, VS6, VT1, VT2, finM_ret, finM_nrm, decide_true, decide_false, List.nodup_nil, List.nodup_cons, oks_p, oks_m, Nat.reduceSub, Nat.reduceMul, ↓reduceIte, reduceCtorEq, Nat.reduceEqDiff, Nat.reduceAdd, Nat.reduceLeDiff, Int.reduceLE, Nat.reduceLT]) ?_
      simp only [VA, VF1, ↓reduceIte, Nat.reduceEqDiff, Nat.reduceAdd, Nat.reduceMul, Nat.reduceSub, Nat.reduceLeDiff]
      obtain ⟨rZ6, hrZ6, h⟩ := bind_s h
      simp only [VS1, VS2, VS3, VS4, VS5, VS6, VT1, VT2, finM_ret, finM_nrm, decide_true, decide_false, List.nodup_nil, List.nodup_cons, oks_p, oks_m, Nat.reduceSub, Nat.reduceMul, ↓reduceIte, reduceCtorEq, Nat.reduceEqDiff, Nat.reduceAdd, Nat.reduceLeDiff, Int.reduceLE, cZ2, cZ4]
      refine call_u (by simp only [VS1, VS2, VS3, VS4, VS5, VS6, VT1, VT2, finM_ret, finM_nrm, decide_true, decide_false, List.nodup_nil, List.nodup_cons, oks_p, oks_m, Nat.reduceSub, Nat.reduceMul, ↓reduceIte, reduceCtorEq, Nat.reduceEqDiff, Nat.reduceAdd, Nat.reduceLeDiff, Int.reduceLE, cZ2, cZ4]; exact w_laws_toTributaryS _ hrZ6 ) (by simp [AV.allU, allUL, allUL_iff, VT1, VT2]) (by simp only [VS1, VS2, VS3, VS4, VS5, VS6, VT1, VT2, finM_ret, finM_nrm, decide_true, decide_false, List.nodup_nil, List.nodup_cons, oks_p, oks_m, Nat.reduceSub, Nat.reduceMul, ↓reduceIte, reduceCtorEq, Nat.reduceEqDiff, Nat.reduceAdd, Nat.reduceLeDiff, Int.reduceLE, Nat.reduceLT]) ?_
      simp only [VA, VF1, ↓reduceIte, Nat.reduceEqDiff, Nat.reduceAdd, Nat.reduceMul, Nat.reduceSub, Nat.reduceLeDiff]
      obtain ⟨rZ7, hrZ7, h⟩ := bind_s h
      simp only [VS1, VS2, VS3, VS4, VS5, VS6, VT1, VT2, finM_ret, finM_nrm, decide_true, decide_false, List.nodup_nil, List.nodup_cons, oks_p, oks_m, Nat.reduceSub, Nat.reduceMul, ↓reduceIte, reduceCtorEq, Nat.reduceEqDiff, Nat.reduceAdd, Nat.reduceLeDiff, Int.reduceLE, cZ2, cZ4]
      refine call_u (by simp only [VS1, VS2, VS3, VS4, VS5, VS6, VT1, VT2, finM_ret, finM_nrm, decide_true, decide_false, List.nodup_nil, List.nodup_cons, oks_p, oks_m, Nat.reduceSub, Nat.reduceMul, ↓reduceIte, reduceCtorEq, Nat.reduceEqDiff, Nat.reduceAdd, Nat.reduceLeDiff, Int.reduceLE, cZ2, cZ4]; exact w_spec_BlockedRate _ _ _ hrZ7 ) (by simp [AV.allU, allUL, allUL_iff, VT1, VT2]) (by simp only [VS1, VS2, VS3, VS4, VS5, VS6, VT1, VT2, finM_ret, finM_nrm, decide_true, decide_false, List.nodup_nil, List.nodup_cons, oks_p, oks_m, Nat.reduceSub, Nat.reduceMul, ↓reduceIte, reduceCtorEq, Nat.reduceEqDiff, Nat.reduceAdd, Nat.reduceLeDiff, Int.reduceLE, Nat.reduceLT]) ?_
      simp only [VA, VF1, ↓reduceIte, Nat.reduceEqDiff, Nat.reduceAdd, Nat.reduceMul, Nat.reduceSub, Nat.reduceLeDiff]
      obtain ⟨rZ8, hrZ8, h⟩ := bind_s h
      simp only [VS1, VS2, VS3, VS4, VS5, VS6, VT1, VT2, finM_ret, finM_nrm, decide_true, decide_false, List.nodup_nil, List.nodup_cons, oks_p, oks_m, Nat.reduceSub, Nat.reduceMul, ↓reduceIte, reduceCtorEq, Nat.reduceEqDiff, Nat.reduceAdd, Nat.reduceLeDiff, Int.reduceLE, cZ2, cZ4]
      refine call_u (by simp only [VS1, VS2, VS3, VS4, VS5, VS6, VT1, VT2, finM_ret, finM_nrm, decide_true, decide_false, List.nodup_nil, List.nodup_cons, oks_p, oks_m, Nat.reduceSub, Nat.reduceMul, ↓reduceIte, reduceCtorEq, Nat.reduceEqDiff, Nat.reduceAdd, Nat.reduceLeDiff, Int.reduceLE, cZ2, cZ4]; exact w_laws_toLinkS _ hrZ8 ) (by simp [AV.allU, allUL, allUL_iff, VT1, VT2]) (by simp only [VS1, VS2, VS3, VS4, VS5, VS6, VT1, VT2, finM_ret, finM_nrm, decide_true, decide_false, List.nodup_nil, List.nodup_cons, oks_p, oks_m, Nat.reduceSub, Nat.reduceMul, ↓reduceIte, reduceCtorEq, Nat.reduceEqDiff, Nat.reduceAdd, Nat.reduceLeDiff, Int.reduceLE, Nat.reduceLT]) ?_
      simp only [VA, VF1, ↓reduceIte, Nat.reduceEqDiff, Nat.reduceAdd, Nat.reduceMul, Nat.reduceSub, Nat.reduceLeDiff]
      obtain ⟨rZ9, hrZ9, h⟩ := bind_s h
      simp only [VS1, VS2, VS3, VS4, VS5, VS6, VT1, VT2, finM_ret, finM_nrm, decide_true, decide_false, List.nodup_nil, List.nodup_cons, oks_p, oks_m, Nat.reduceSub, Nat.reduceMul, ↓reduceIte, reduceCtorEq, Nat.reduceEqDiff, Nat.reduceAdd, Nat.reduceLeDiff, Int.reduceLE, cZ2, cZ4]
      refine call_u (by simp only [VS1, VS2, VS3, VS4, VS5, VS6, VT1, VT2, finM_ret, finM_nrm, decide_true, decide_false, List.nodup_nil, List.nodup_cons, oks_p, oks_m, Nat.reduceSub, Nat.reduceMul, ↓reduceIte, reduceCtorEq, Nat.reduceEqDiff, Nat.reduceAdd, Nat.reduceLeDiff, Int.reduceLE, cZ2, cZ4]; exact w_laws_toTributaryS _ hrZ9 ) (by simp [AV.allU, allUL, allUL_iff, VT1, VT2]) (by simp only [VS1, VS2, VS3, VS4, VS5, VS6, VT1, VT2, finM_ret, finM_nrm, decide_true, decide_false, List.nodup_nil, List.nodup_cons, oks_p, oks_m, Nat.reduceSub, Nat.reduceMul, ↓reduceIte, reduceCtorEq, Nat.reduceEqDiff, Nat.reduceAdd, Nat.reduceLeDiff, Int.reduceLE, Nat.reduceLT]) ?_
      simp only [VA, VF1, ↓reduceIte, Nat.reduceEqDiff, Nat.reduceAdd, Nat.reduceMul, Nat.reduceSub, Nat.reduceLeDiff]
      obtain ⟨rZ10, hrZ10, h⟩ := bind_s h
      simp only [VS1, VS2, VS3, VS4, VS5, VS6, VT1, VT2, finM_ret, finM_nrm, decide_true, decide_false, List.nodup_nil, List.nodup_cons, oks_p, oks_m, Nat.reduceSub, Nat.reduceMul, ↓reduceIte, reduceCtorEq, Nat.reduceEqDiff, Nat.reduceAdd, Nat.reduceLeDiff, Int.reduceLE, cZ2, cZ4]
      refine call_u (by simp only [VS1, VS2, VS3, VS4, VS5, VS6, VT1, VT2, finM_ret, finM_nrm, decide_true, decide_false, List.nodup_nil, List.nodup_cons, oks_p, oks_m, Nat.reduceSub, Nat.reduceMul, ↓reduceIte, reduceCtorEq, Nat.reduceEqDiff, Nat.reduceAdd, Nat.reduceLeDiff, Int.reduceLE, cZ2, cZ4]; exact w_impl_BlockedRate _ _ _ hrZ10 ) (by simp [AV.allU, allUL, allUL_iff, VT1, VT2]) (by simp only [VS1, VS2, VS3, VS4, VS5, VS6, VT1, VT2, finM_ret, finM_nrm, decide_true, decide_false, List.nodup_nil, List.nodup_cons, oks_p, oks_m, Nat.reduceSub, Nat.reduceMul, ↓reduceIte, reduceCtorEq, Nat.reduceEqDiff, Nat.reduceAdd, Nat.reduceLeDiff, Int.reduceLE, Nat.reduceLT]) ?_
      simp only [VA, VF1, ↓reduceIte, Nat.reduceEqDiff, Nat.reduceAdd, Nat.reduceMul, Nat.reduceSub, Nat.reduceLeDiff]
      obtain ⟨oZ12, hoZ12, h⟩ := bind_s h
      try simp only [VS1, VS2, VS3, VS4, VS5, VS6, VT1, VT2, finM_ret, finM_nrm, decide_true, decide_false, List.nodup_nil, List.nodup_cons, oks_p, oks_m, Nat.reduceSub, Nat.reduceMul, ↓reduceIte, reduceCtorEq, Nat.reduceEqDiff, Nat.reduceAdd, Nat.reduceLeDiff, Int.reduceLE, cZ2, cZ4]
      refine join_rule0 (sh := (fun v => ⟨[(0, .lst .o 3 (aLinksZ0.map (e_TLink .o))), (2, .lst .o 3 (aListZ0.map (e_TTributary .o))), (10, .sl 10 0 rZ8.length), (11, .sl 11 0 rZ9.length), (51, .b v)], [(10, .arr 3 (rZ8.map (e_TLink .u))), (11, .arr 3 (rZ9.map (e_TTributary .u)))]⟩)) (s := oZ12) ?_ ?_
      · replace h := hoZ12
        refine Or.elim (bt (rZ10.1 != rZ7.1)) (fun cZ11 => ?_) (fun cZ11 => ?_)
        · replace h := cond_t cZ11 h
          cases h
          try simp only [VS1, VS2, VS3, VS4, VS5, VS6, VT1, VT2, finM_ret, finM_nrm, decide_true, decide_false, List.nodup_nil, List.nodup_cons, oks_p, oks_m, Nat.reduceSub, Nat.reduceMul, ↓reduceIte, reduceCtorEq, Nat.reduceEqDiff, Nat.reduceAdd, Nat.reduceLeDiff, Int.reduceLE, cZ2, cZ4, cZ11]
          all_goals simp [qL, qJ, qJ0, qS, qX, qR, qM, Shp, sub, VS1, VS2, VS3, VS4, VS5, VS6, VT1, VT2]
        · replace h := cond_f cZ11 h
          cases h
          try simp only [VS1, VS2, VS3, VS4, VS5, VS6, VT1, VT2, finM_ret, finM_nrm, decide_true, decide_false, List.nodup_nil, List.nodup_cons, oks_p, oks_m, Nat.reduceSub, Nat.reduceMul, ↓reduceIte, reduceCtorEq, Nat.reduceEqDiff, Nat.reduceAdd, Nat.reduceLeDiff, Int.reduceLE, cZ2, cZ4, cZ11]
          all_goals simp [qL, qJ, qJ0, qS, qX, qR, qM, Shp, sub, VS1, VS2, VS3, VS4, VS5, VS6, VT1, VT2]
      · simp only [A6R1]
        refine Or.elim (bt (oZ12)) (fun cZ13 => ?_) (fun cZ13 => ?_)
        · replace h := cond_t cZ13 h
          cases h
          try simp only [VS1, VS2, VS3, VS4, VS5, VS6, VT1, VT2, finM_ret, finM_nrm, decide_true, decide_false, List.nodup_nil, List.nodup_cons, oks_p, oks_m, Nat.reduceSub, Nat.reduceMul, ↓reduceIte, reduceCtorEq, Nat.reduceEqDiff, Nat.reduceAdd, Nat.reduceLeDiff, Int.reduceLE, cZ2, cZ4, cZ13]
          all_goals simp [qL, qJ, qJ0, qS, qX, qR, qM, Shp, sub, VS1, VS2, VS3, VS4, VS5, VS6, VT1, VT2, V6]
        · replace h := cond_f cZ13 h
          obtain ⟨rZ14, hrZ14, h⟩ := bind_s h
          simp only [VS1, VS2, VS3, VS4, VS5, VS6, VT1, VT2, finM_ret, finM_nrm, decide_true, decide_false, List.nodup_nil, List.nodup_cons, oks_p, oks_m, Nat.reduceSub, Nat.reduceMul, ↓reduceIte, reduceCtorEq, Nat.reduceEqDiff, Nat.reduceAdd, Nat.reduceLeDiff, Int.reduceLE, cZ2, cZ4, cZ13]
          refine call_u (by simp only [VS1, VS2, VS3, VS4, VS5, VS6, VT1, VT2, finM_ret, finM_nrm, decide_true, decide_false, List.nodup_nil, List.nodup_cons, oks_p, oks_m, Nat.reduceSub, Nat.reduceMul, ↓reduceIte, reduceCtorEq, Nat.reduceEqDiff, Nat.reduceAdd, Nat.reduceLeDiff, Int.reduceLE, cZ2, cZ4, cZ13]; exact w_laws_toLinkS _ hrZ14 ) (by simp [AV.allU, allUL, allUL_iff, VT1, VT2]) (by simp only [VS1, VS2, VS3, VS4, VS5, VS6, VT1, VT2, finM_ret, finM_nrm, decide_true, decide_false, List.nodup_nil, List.nodup_cons, oks_p, oks_m, Nat.reduceSub, Nat.reduceMul, ↓reduceIte, reduceCtorEq, Nat.reduceEqDiff, Nat.reduceAdd, Nat.reduceLeDiff, Int.reduceLE, Nat.reduceLT]) ?_
          simp only [VA, VF1, ↓reduceIte, Nat.reduceEqDiff, Nat.reduceAdd, Nat.reduceMul, Nat.reduceSub, Nat.reduceLeDiff]
          obtain ⟨rZ15, hrZ15, h⟩ := bind_s h
          simp only [VS1, VS2, VS3, VS4, VS5, VS6, VT1, VT2, finM_ret, finM_nrm, decide_true, decide_false, List.nodup_nil, List.nodup_cons, oks_p, oks_m, Nat.reduceSub, Nat.reduceMul, ↓reduceIte, reduceCtorEq, Nat.reduceEqDiff, Nat.reduceAdd, Nat.reduceLeDiff, Int.reduceLE, cZ2, cZ4, cZ13]
          refine call_s (by simp only [VS1, VS2, VS3, VS4, VS5, VS6, VT1, VT2, finM_ret, finM_nrm, decide_true, decide_false, List.nodup_nil, List.nodup_cons, oks_p, oks_m, Nat.reduceSub, Nat.reduceMul, ↓reduceIte, reduceCtorEq, Nat.reduceEqDiff, Nat.reduceAdd, Nat.reduceLeDiff, Int.reduceLE, cZ2, cZ4, cZ13]; exact w_laws_eqLinkS _ _ hrZ15 ) ?_
          simp only [VA, VF1, ↓reduceIte, Nat.reduceEqDiff, Nat.reduceAdd, Nat.reduceMul, Nat.reduceSub, Nat.reduceLeDiff]
          refine Or.elim (bt (!rZ15)) (fun cZ16 => ?_) (fun cZ16 => ?_)
          · replace h := cond_t cZ16 h
            cases h
            try simp only [VS1, VS2, VS3, VS4, VS5, VS6, VT1, VT2, finM_ret, finM_nrm, decide_true, decide_false, List.nodup_nil, List.nodup_cons, oks_p, oks_m, Nat.reduceSub, Nat.reduceMul, ↓reduceIte, reduceCtorEq, Nat.reduceEqDiff, Nat.reduceAdd, Nat.reduceLeDiff, Int.reduceLE, cZ2, cZ4, cZ13, cZ16]
            all_goals simp [qL, qJ, qJ0, qS, qX, qR, qM, Shp, sub, VS1, VS2, VS3, VS4, VS5, VS6, VT1, VT2, V6]
          · replace h := cond_f cZ16 h
            obtain ⟨rZ17, hrZ17, h⟩ := bind_s h
            simp only [VS1, VS2, VS3, VS4, VS5, VS6, VT1, VT2, finM_ret, finM_nrm, decide_true, decide_false, List.nodup_nil, List.nodup_cons, oks_p, oks_m, Nat.reduceSub, Nat.reduceMul, ↓reduceIte, reduceCtorEq, Nat.reduceEqDiff, Nat.reduceAdd, Nat.reduceLeDiff, Int.reduceLE, cZ2, cZ4, cZ13, cZ16]
            refine call_u (by simp only [VS1, VS2, VS3, VS4, VS5, VS6, VT1, VT2, finM_ret, finM_nrm, decide_true, decide_false, List.nodup_nil, List.nodup_cons, oks_p, oks_m, Nat.reduceSub, Nat.reduceMul, ↓reduceIte, reduceCtorEq, Nat.reduceEqDiff, Nat.reduceAdd, Nat.reduceLeDiff, Int.reduceLE, cZ2, cZ4, cZ13, cZ16]; exact w_laws_toTributaryS _ hrZ17 ) (by simp [AV.allU, allUL, allUL_iff, VT1, VT2]) (by simp only [VS1, VS2, VS3, VS4, VS5, VS6, VT1, VT2, finM_ret, finM_nrm, decide_true, decide_false, List.nodup_nil, List.nodup_cons, oks_p, oks_m, Nat.reduceSub, Nat.reduceMul, ↓reduceIte, reduceCtorEq, Nat.reduceEqDiff, Nat.reduceAdd, Nat.reduceLeDiff, Int.reduceLE, Nat.reduceLT]) ?_
            simp only [VA, VF1, ↓reduceIte, Nat.reduceEqDiff, Nat.reduceAdd, Nat.reduceMul, Nat.reduceSub, Nat.reduceLeDiff]
            obtain ⟨rZ18, hrZ18, h⟩ := bind_s h
            simp only [VS1, VS2, VS3, VS4, VS5, VS6, VT1, VT2, finM_ret, finM_nrm, decide_true, decide_false, List.nodup_nil, List.nodup_cons, oks_p, oks_m, Nat.reduceSub, Nat.reduceMul, ↓reduceIte, reduceCtorEq, Nat.reduceEqDiff, Nat.reduceAdd, Nat.reduceLeDiff, Int.reduceLE, cZ2, cZ4, cZ13, cZ16]
            refine call_s (by simp only [VS1, VS2, VS3, VS4, VS5, VS6, VT1, VT2, finM_ret, finM_nrm, decide_true, decide_false, List.nodup_nil, List.nodup_cons, oks_p, oks_m, Nat.reduceSub, Nat.reduceMul, ↓reduceIte, reduceCtorEq, Nat.reduceEqDiff, Nat.reduceAdd, Nat.reduceLeDiff, Int.reduceLE, cZ2, cZ4, cZ13, cZ16]; exact w_laws_eqTributaryS _ _ hrZ18 ) ?_
            simp only [VA, VF1, ↓reduceIte, Nat.reduceEqDiff, Nat.reduceAdd, Nat.reduceMul, Nat.reduceSub, Nat.reduceLeDiff]
            refine Or.elim (bt (!rZ18)) (fun cZ19 => ?_) (fun cZ19 => ?_)
            · replace h := cond_t cZ19 h
              cases h
              try simp only [VS1, VS2, VS3, VS4, VS5, VS6, VT1, VT2, finM_ret, finM_nrm, decide_true, decide_false, List.nodup_nil, List.nodup_cons, oks_p, oks_m, Nat.reduceSub, Nat.reduceMul, ↓reduceIte, reduceCtorEq, Nat.reduceEqDiff, Nat.reduceAdd, Nat.reduceLeDiff, Int.reduceLE, cZ2, cZ4, cZ13, cZ16, cZ19]
              all_goals simp [qL, qJ, qJ0, qS, qX, qR, qM, Shp, sub, VS1, VS2, VS3, VS4, VS5, VS6, VT1, VT2, V6]
            · replace h := cond_f cZ19 h
              cases h
              try simp only [VS1, VS2, VS3, VS4, VS5, VS6, VT1, VT2, finM_ret, finM_nrm, decide_true, decide_false, List.nodup_nil, List.nodup_cons, oks_p, oks_m, Nat.reduceSub, Nat.reduceMul, ↓reduceIte, reduceCtorEq, Nat.reduceEqDiff, Nat.reduceAdd, Nat.reduceLeDiff, Int.reduceLE, cZ2, cZ4, cZ13, cZ16, cZ19]
              all_goals simp [qL, qJ, qJ0, qS, qX, qR, qM, Shp, sub, VS1, VS2, VS3, VS4, VS5, VS6, VT1, VT2, V6]
end Vs

