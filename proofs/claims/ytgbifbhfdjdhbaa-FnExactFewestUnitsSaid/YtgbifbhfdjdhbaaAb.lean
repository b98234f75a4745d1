/-
  Part of the proof that the law FnExactFewestUnits returns true at every input; no condition beside the row's own.
-/
import Derived.Test.YtgbifbhfdjdhbaaAa
set_option linter.defProp false
set_option linter.unusedSimpArgs false
set_option linter.unusedVariables false
set_option maxHeartbeats 1000000
set_option maxRecDepth 8000
namespace Vs
open Go Go.Proofs
attribute [local irreducible] AWP stOps eff awpC callA callM
theorem VT1 : True := trivial
theorem VT2 : True := trivial
theorem VF1 : True := trivial
theorem VZ1 : True := trivial
theorem Zr {α : Type} (n : Nat) (a : α) : (List.replicate n a).length = n := List.length_replicate
theorem ZA {A B : Prop} (a : A) (b : B) : A ∧ B := ⟨a, b⟩
theorem ZF {A : Prop} (a : A) {P Q : Prop} (k : Q) (e : A → P = Q := by intro a; simp only [VS1, VS2, VS3, VS4, VS5, VS6, VT1, VT2, finM_ret, finM_nrm, decide_true, decide_false, List.nodup_nil, List.nodup_cons, oks_p, oks_m, oks_h, ne_eq, not_false_eq_true, Int.reduceEq, Int.reduceNe, true_and, Nat.reduceSub, Nat.reduceMul, ↓reduceIte, reduceCtorEq, Nat.reduceEqDiff, Nat.reduceAdd, Nat.reduceLeDiff, Int.reduceLE, a]; exact Eq.refl _) : P := (e a).mpr k
theorem ZG {P Q : Prop} (k : Q) (e : P = Q := by simp only [VA, VF1, ↓reduceIte, Nat.reduceEqDiff, Nat.reduceAdd, Nat.reduceMul, Nat.reduceSub, Nat.reduceLeDiff]; exact Eq.refl _) : P := e.mpr k
theorem ZL {A : Prop} (a : A) {B : Prop} (b : B) {P : Prop} (e : A → B → P := by intro a b; (try simp only [VS1, VS2, VS3, VS4, VS5, VS6, VT1, VT2, finM_ret, finM_nrm, decide_true, decide_false, List.nodup_nil, List.nodup_cons, oks_p, oks_m, oks_h, ne_eq, not_false_eq_true, Int.reduceEq, Int.reduceNe, true_and, Nat.reduceSub, Nat.reduceMul, ↓reduceIte, reduceCtorEq, Nat.reduceEqDiff, Nat.reduceAdd, Nat.reduceLeDiff, Int.reduceLE, a]); all_goals simp [qL, qJ, qJ0, qS, qX, qR, qM, Shp, sub, tupd, finM_ret, finM_nrm, VS1, VS2, VS3, VS4, VS5, VS6, VT1, VT2, b]) : P := e a b
theorem ZK {B : Prop} (b : B) {P : Prop} (e : B → P := by intro b; simp [qL, qJ, qJ0, qS, qX, qR, qM, Shp, sub, tupd, finM_ret, finM_nrm, VS1, VS2, VS3, VS4, VS5, VS6, VT1, VT2, b]) : P := e b
theorem ZS {A : Prop} (a : A) {W : Prop} (w : W) {ok : Oks} {ρ : Nat → Option Row} {d f : Nat} {args : List AV} {K : AV → List (Nat × Row) → Prop} {v : Value} (hk : K (.sc v) [])
    (e : A → W → ok.p f (args.map (snp ρ 4)) (.sc v) := by intro a w; simp only [VS1, VS2, VS3, VS4, VS5, VS6, VT1, VT2, finM_ret, finM_nrm, decide_true, decide_false, List.nodup_nil, List.nodup_cons, oks_p, oks_m, oks_h, ne_eq, not_false_eq_true, Int.reduceEq, Int.reduceNe, true_and, Nat.reduceSub, Nat.reduceMul, ↓reduceIte, reduceCtorEq, Nat.reduceEqDiff, Nat.reduceAdd, Nat.reduceLeDiff, Int.reduceLE, a]; exact w) : callA ok ρ d f args K := call_s (e a w) hk
theorem ZU {A : Prop} (a : A) {W : Prop} (w : W) {ok : Oks} {ρ : Nat → Option Row} {d f : Nat} {args : List AV} {K : AV → List (Nat × Row) → Prop} {res : AV} (hk : K (adopt 4 d res).1 (adopt 4 d res).2.1)
    (e : A → W → ok.p f (args.map (snp ρ 4)) res := by intro a w; simp only [VS1, VS2, VS3, VS4, VS5, VS6, VT1, VT2, finM_ret, finM_nrm, decide_true, decide_false, List.nodup_nil, List.nodup_cons, oks_p, oks_m, oks_h, ne_eq, not_false_eq_true, Int.reduceEq, Int.reduceNe, true_and, Nat.reduceSub, Nat.reduceMul, ↓reduceIte, reduceCtorEq, Nat.reduceEqDiff, Nat.reduceAdd, Nat.reduceLeDiff, Int.reduceLE, a]; exact w) (hu : res.allU := by simp [AV.allU, allUL, allUL_iff, VT1, VT2]) (hn : ∀ p ∈ (adopt 4 d res).2.1, ρ p.1 = none ∧ p.1 < 1000000000 := by simp only [VS1, VS2, VS3, VS4, VS5, VS6, VT1, VT2, finM_ret, finM_nrm, decide_true, decide_false, List.nodup_nil, List.nodup_cons, oks_p, oks_m, oks_h, ne_eq, not_false_eq_true, Int.reduceEq, Int.reduceNe, true_and, Nat.reduceSub, Nat.reduceMul, ↓reduceIte, reduceCtorEq, Nat.reduceEqDiff, Nat.reduceAdd, Nat.reduceLeDiff, Int.reduceLE, Nat.reduceLT]) : callA ok ρ d f args K := call_u (e a w) hu hn hk
theorem ZQ {P : Prop} (e : P := by simp [VS1, VS2, VS3, VS4, VS5, VS6, VT1, VT2]) : P := e
theorem ZW {A : Prop} (a : A) {W : Prop} (w : W) {ok : Oks} {ρ : Nat → Option Row} {d f : Nat} {args : List AV} {rs : List Nat} {K : AV → List (Nat × Row) → Prop} {res : AV} {outs : List (Nat × Row)}
    (e : A → W → ok.m f (args.map (AV.rg (cnm rs))) (rs.map (rowIn ρ rs)) res outs := by intro a w; simp only [VS1, VS2, VS3, VS4, VS5, VS6, VT1, VT2, finM_ret, finM_nrm, decide_true, decide_false, List.nodup_nil, List.nodup_cons, oks_p, oks_m, oks_h, ne_eq, not_false_eq_true, Int.reduceEq, Int.reduceNe, true_and, Nat.reduceSub, Nat.reduceMul, ↓reduceIte, reduceCtorEq, Nat.reduceEqDiff, Nat.reduceAdd, Nat.reduceLeDiff, Int.reduceLE, a]; first | exact w | (simp only [VS1, VS2, VS3, VS4, VS5, VS6, VT1, VT2, finM_ret, finM_nrm, decide_true, decide_false, List.nodup_nil, List.nodup_cons, oks_p, oks_m, oks_h, ne_eq, not_false_eq_true, Int.reduceEq, Int.reduceNe, true_and, Nat.reduceSub, Nat.reduceMul, ↓reduceIte, reduceCtorEq, Nat.reduceEqDiff, Nat.reduceAdd, Nat.reduceLeDiff, Int.reduceLE, a] at w; exact w))
    (h1 : rs.Nodup ∧ (∀ r ∈ rs, isLive (ρ r)) ∧ (∀ r ∈ rs, ∀ q ∈ oments (ρ r), q ∈ rs) ∧ (∀ r ∈ mentsL args, r ∈ rs) := by simp [VS1, VS2, VS3, VS4, VS5, VS6, VT1, VT2])
    (h2 : (outs.map fun p => bkn d rs p.1).Nodup ∧ (∀ p ∈ outs, 1000000000 ≤ p.1 → p.1 - 1000000000 < rs.length) ∧ (∀ p ∈ outs, p.1 < 1000000000 → ρ (bkn d rs p.1) = none ∧ bkn d rs p.1 < 1000000000))
    (hk : K (res.rg (bkn d rs)) (gone rs ++ outs.map (rowBk d rs))) : callM ok ρ d f args rs K := call_m (e a w) h1 h2 hk
def S_laws_toIntSL1 (aZ0 : List Int) (v : Int × List Int) : St := ⟨[(0, .lst .o 1 (aZ0.map AV.i)), (3, .sl 3 0 v.2.length), (4, .i v.1)], [(3, .arr 1 (v.2.map AV.i))]⟩
def SX_laws_toIntSL1 (v : List Int) : St := ⟨[(3, .sl 3 0 v.length)], [(3, .arr 1 (v.map AV.i))]⟩
theorem w_laws_toIntSL1 (aZ0 : List Int) (sZ4 : Int × List Int) (o : (Int × List Int) ⊕ (List Int)) (h : M_laws_toIntSL1 aZ0 sZ4 = some o) : AWP (OkS Try.prog) A20L1 (qL [0, 3, 4] [3] (S_laws_toIntSL1 aZ0) (qX 0 [3] [3] (SX_laws_toIntSL1)) o) (S_laws_toIntSL1 aZ0 sZ4) := by
  unfold M_laws_toIntSL1 at h
  simp only [ZC, S_laws_toIntSL1, A20L1]
  obtain ⟨cZ5, h⟩ | ⟨cZ5, h⟩ := cond_s h
  · obtain ⟨yZ6, hyZ6, h⟩ := bind_s h
    obtain ⟨hyZ6a, hyZ6b⟩ := geti_s hyZ6
    obtain ⟨kZ7, hkZ7, h⟩ := bind_s h
    obtain ⟨hkZ7a, hkZ7b⟩ := grd_s hkZ7
    obtain ⟨yZ8, hyZ8, h⟩ := bind_s h
    obtain ⟨lZ9, hlZ9, h⟩ := bnd_s h
    have eZ10 : (sZ4.2.map AV.i).set (Int.toNat sZ4.1) (.i yZ6) = lZ9.map AV.i := by rw [← hlZ9, List.map_set]
    cases h
    exact ZL (ZA cZ5 (ZA hyZ6a (ZA hyZ6b (ZA hkZ7a (ZA hkZ7b (ZA hyZ8 eZ10)))))) (ZA S_laws_toIntSL1.eq_1 (ZA SX_laws_toIntSL1.eq_1 hlZ9.symm))
  · cases h
    exact ZL cZ5 (ZA S_laws_toIntSL1.eq_1 SX_laws_toIntSL1.eq_1)
theorem w_laws_toIntS (aZ0 : List Int) {r : List Int} (h : M_laws_toIntS aZ0 = some r) : Ok Try.prog 20 [.lst .o 1 (aZ0.map AV.i)] ((fun r => .lst .u 1 (r.map AV.i)) r) := by
  refine ok_of_body hmix m20 rfl ?_
  unfold M_laws_toIntS at h
  simp only [ZC, A20, V20, body_eq]
  obtain ⟨uZ1, huZ1, h⟩ := bind_s h
  obtain ⟨huZ11, huZ12, huZ13, huZ14⟩ := grd_s huZ1
  obtain ⟨lZ2, hlZ2, h⟩ := bnd_s h
  have eZ3 : List.replicate (Int.toNat (aZ0.length : Int)) (.i 0 : AV) = lZ2.map AV.i := by rw [← hlZ2, List.map_replicate]
  obtain ⟨oZ11, hoZ11, h⟩ := bind_s h
  try refine ZF (ZA huZ11 (ZA huZ12 (ZA huZ13 (ZA huZ14 eZ3)))) ?_
  refine join_rule0 (blk_rule0 (loop_rule (w_laws_toIntSL1 aZ0) hoZ11 ?_)) ?_
  · exact ZK (ZA S_laws_toIntSL1.eq_1 (ZA SX_laws_toIntSL1.eq_1 (ZA hlZ2.symm @Zr)))
  · simp only [ZC, SX_laws_toIntSL1, A20R2]
    cases h
    exact ZL (ZA huZ11 (ZA huZ12 (ZA huZ13 (ZA huZ14 eZ3)))) V20.eq_1
theorem w_spec_l1In (xZ0 : Int) (aZ0 : Int) (bZ0 : Int) {r : Bool} (h : M_spec_l1In xZ0 aZ0 bZ0 = some r) : Ok Try.prog 67 [.i xZ0, .i aZ0, .i bZ0] ((fun r => .b r) r) := by
  refine ok_of_body hmix m67 rfl ?_
  unfold M_spec_l1In at h
  simp only [ZC, A67, V67, body_eq]
  obtain ⟨cZ1, h⟩ | ⟨cZ1, h⟩ := cond_s h
  · cases h
    exact ZL cZ1 V67.eq_1
  · cases h
    exact ZL cZ1 V67.eq_1
def S_spec_l18RatesL1 (ratesZ0 : List Int) (capacityZ0 : Int) (v : Int) : St := ⟨[(0, .lst .o 1 (ratesZ0.map AV.i)), (1, .i capacityZ0), (5, .i v)], []⟩
def SX_spec_l18RatesL1 (ratesZ0 : List Int) (capacityZ0 : Int) (v : Unit) : St := ⟨[(0, .lst .o 1 (ratesZ0.map AV.i)), (1, .i capacityZ0)], []⟩
theorem w_spec_l18RatesL1 (ratesZ0 : List Int) (capacityZ0 : Int) (sZ1 : Int) (o : Int ⊕ (Unit ⊕ Bool)) (h : M_spec_l18RatesL1 ratesZ0 capacityZ0 sZ1 = some o) : AWP (OkS Try.prog) A60L2 (qL [0, 1, 5] [] (S_spec_l18RatesL1 ratesZ0 capacityZ0) (qS (qX 0 [0, 1] [] (SX_spec_l18RatesL1 ratesZ0 capacityZ0)) (qR V60 (fun r => .b r))) o) (S_spec_l18RatesL1 ratesZ0 capacityZ0 sZ1) := by
  unfold M_spec_l18RatesL1 at h
  simp only [ZC, S_spec_l18RatesL1, A60L2]
  obtain ⟨oZ3, hoZ3, h⟩ := bind_s h
  try refine ZF trivial ?_
  refine join_rule0 (sh := (fun v => ⟨[(0, .lst .o 1 (ratesZ0.map AV.i)), (1, .i capacityZ0), (5, .i sZ1), (13, .b v)], []⟩)) (s := oZ3) ?_ ?_
  · replace h := hoZ3
    obtain ⟨cZ2, h⟩ | ⟨cZ2, h⟩ := cond_s h
    · cases h
      exact ZL cZ2 trivial
    · cases h
      exact ZL cZ2 trivial
  · simp only [ZC, A60R1]
    obtain ⟨cZ4, h⟩ | ⟨cZ4, h⟩ := cond_s h
    · obtain ⟨yZ5, hyZ5, h⟩ := bind_s h
      obtain ⟨hyZ5a, hyZ5b⟩ := geti_s hyZ5
      obtain ⟨rZ6, hrZ6, h⟩ := bind_s h
      refine ZF (ZA cZ4 (ZA hyZ5a hyZ5b)) ?_
      refine ZS (ZA cZ4 (ZA hyZ5a hyZ5b)) (w_spec_l1In _ _ _ hrZ6) ?_
      refine ZG ?_
      obtain ⟨cZ7, h⟩ | ⟨cZ7, h⟩ := cond_s h
      · cases h
        exact ZL (ZA cZ4 (ZA hyZ5a (ZA hyZ5b cZ7))) V60.eq_1
      · cases h
        exact ZL (ZA cZ4 (ZA hyZ5a (ZA hyZ5b cZ7))) (ZA S_spec_l18RatesL1.eq_1 SX_spec_l18RatesL1.eq_1)
    · cases h
      exact ZL cZ4 (ZA S_spec_l18RatesL1.eq_1 SX_spec_l18RatesL1.eq_1)
theorem w_spec_l18Rates (ratesZ0 : List Int) (capacityZ0 : Int) {r : Bool} (h : M_spec_l18Rates ratesZ0 capacityZ0 = some r) : Ok Try.prog 60 [.lst .o 1 (ratesZ0.map AV.i), .i capacityZ0] ((fun r => .b r) r) := by
  refine ok_of_body hmix m60 rfl ?_
  unfold M_spec_l18Rates at h
  simp only [ZC, A60, V60, body_eq]
  obtain ⟨oZ8, hoZ8, h⟩ := bind_s h
  try refine ZF trivial ?_
  refine join_rule (o := oZ8) (blk_rule sideR (loop_rule (w_spec_l18RatesL1 ratesZ0 capacityZ0) hoZ8 ?_)) (fun vZ9 hv => ?_) (fun xZ10 hv e τ hne hq => ?_)
  · exact ZK (ZA S_spec_l18RatesL1.eq_1 SX_spec_l18RatesL1.eq_1)
  · subst hv
    simp only [] at h
    simp only [ZC, SX_spec_l18RatesL1, A60R3]
    obtain ⟨cZ11, h⟩ | ⟨cZ11, h⟩ := cond_s h
    · obtain ⟨rZ12, hrZ12, h⟩ := bind_s h
      refine ZF cZ11 ?_
      refine ZS cZ11 (w_spec_l1In _ _ _ hrZ12) ?_
      refine ZG ?_
      cases h
      exact ZL cZ11 V60.eq_1
    · cases h
      exact ZL cZ11 V60.eq_1
  · subst hv
    simp only [] at h
    obtain ⟨rfl, qZ13⟩ := hq
    cases h
    exact qZ13
def S_spec_FewestUnitsL2 (ratesZ0 : List Int) (capacityZ0 : Int) (sZ12 : Int × List Int × List Int) (v : Int × Int × Int) : St := ⟨[(0, .lst .o 1 (ratesZ0.map AV.i)), (1, .i capacityZ0), (6, .i (IntKind.wrap .i64 (1 * 2 ^ (min (Int.toNat (IntKind.wrap .u64 (ratesZ0.length : Int))) (IntKind.bits .i64))))), (7, .sl 7 0 sZ12.2.1.length), (8, .sl 8 0 sZ12.2.2.length), (9, .i sZ12.1), (10, .i v.1), (11, .i v.2.1), (12, .i v.2.2)], [(7, .arr 1 (sZ12.2.1.map AV.i)), (8, .arr 1 (sZ12.2.2.map AV.i))]⟩
def SX_spec_FewestUnitsL2 (ratesZ0 : List Int) (capacityZ0 : Int) (sZ12 : Int × List Int × List Int) (v : Int × Int) : St := ⟨[(0, .lst .o 1 (ratesZ0.map AV.i)), (1, .i capacityZ0), (6, .i (IntKind.wrap .i64 (1 * 2 ^ (min (Int.toNat (IntKind.wrap .u64 (ratesZ0.length : Int))) (IntKind.bits .i64))))), (7, .sl 7 0 sZ12.2.1.length), (8, .sl 8 0 sZ12.2.2.length), (9, .i sZ12.1), (10, .i v.1), (11, .i v.2)], [(7, .arr 1 (sZ12.2.1.map AV.i)), (8, .arr 1 (sZ12.2.2.map AV.i))]⟩
theorem w_spec_FewestUnitsL2 (ratesZ0 : List Int) (capacityZ0 : Int) (sZ12 : Int × List Int × List Int) (sZ14 : Int × Int × Int) (o : (Int × Int × Int) ⊕ (Int × Int)) (h : M_spec_FewestUnitsL2 ratesZ0 capacityZ0 sZ12 sZ14 = some o) : AWP (OkS Try.prog) A52L4 (qL [0, 1, 6, 7, 8, 9, 10, 11, 12] [7, 8] (S_spec_FewestUnitsL2 ratesZ0 capacityZ0 sZ12) (qX 2 [0, 1, 6, 7, 8, 9, 10, 11] [7, 8] (SX_spec_FewestUnitsL2 ratesZ0 capacityZ0 sZ12)) o) (S_spec_FewestUnitsL2 ratesZ0 capacityZ0 sZ12 sZ14) := by
  unfold M_spec_FewestUnitsL2 at h
  simp only [ZC, S_spec_FewestUnitsL2, A52L4]
  obtain ⟨cZ15, h⟩ | ⟨cZ15, h⟩ := cond_s h
  · obtain ⟨uZ16, huZ16, h⟩ := bind_s h
    have huZ16g := grd_s huZ16
    obtain ⟨cZ17, h⟩ | ⟨cZ17, h⟩ := cond_s h
    · cases h
      exact ZL (ZA cZ15 (ZA huZ16g cZ17)) (ZA S_spec_FewestUnitsL2.eq_1 SX_spec_FewestUnitsL2.eq_1)
    · obtain ⟨uZ18, huZ18, h⟩ := bind_s h
      have huZ18g := grd_s huZ18
      obtain ⟨kZ19, hkZ19, h⟩ := bind_s h
      obtain ⟨hkZ19a, hkZ19b⟩ := grd_s hkZ19
      obtain ⟨yZ20, hyZ20, h⟩ := bind_s h
      obtain ⟨uZ21, huZ21, h⟩ := bind_s h
      have huZ21g := grd_s huZ21
      obtain ⟨kZ22, hkZ22, h⟩ := bind_s h
      obtain ⟨hkZ22a, hkZ22b⟩ := grd_s hkZ22
      obtain ⟨yZ23, hyZ23, h⟩ := bind_s h
      obtain ⟨yZ24, hyZ24, h⟩ := bind_s h
      obtain ⟨hyZ24a, hyZ24b⟩ := geti_s hyZ24
      obtain ⟨oZ26, hoZ26, h⟩ := bind_s h
      try refine ZF (ZA cZ15 (ZA huZ16g (ZA cZ17 (ZA huZ18g (ZA hkZ19a (ZA hkZ19b (ZA hyZ20 (ZA huZ21g (ZA hkZ22a (ZA hkZ22b (ZA hyZ23 (ZA hyZ24a hyZ24b)))))))))))) ?_
      refine join_rule0 (sh := (fun v => ⟨[(0, .lst .o 1 (ratesZ0.map AV.i)), (1, .i capacityZ0), (6, .i (IntKind.wrap .i64 (1 * 2 ^ (min (Int.toNat (IntKind.wrap .u64 (ratesZ0.length : Int))) (IntKind.bits .i64))))), (7, .sl 7 0 sZ12.2.1.length), (8, .sl 8 0 sZ12.2.2.length), (9, .i sZ12.1), (10, .i sZ14.1), (11, .i sZ14.2.1), (12, .i sZ14.2.2), (13, .i v.1), (14, .i v.2)], [(7, .arr 1 (sZ12.2.1.map AV.i)), (8, .arr 1 (sZ12.2.2.map AV.i))]⟩)) (s := oZ26) ?_ ?_
      · replace h := hoZ26
        obtain ⟨cZ25, h⟩ | ⟨cZ25, h⟩ := cond_s h
        · cases h
          exact ZL (ZA cZ15 (ZA huZ16g (ZA cZ17 (ZA huZ18g (ZA hkZ19a (ZA hkZ19b (ZA hyZ20 (ZA huZ21g (ZA hkZ22a (ZA hkZ22b (ZA hyZ23 (ZA hyZ24a (ZA hyZ24b cZ25))))))))))))) trivial
        · cases h
          exact ZL (ZA cZ15 (ZA huZ16g (ZA cZ17 (ZA huZ18g (ZA hkZ19a (ZA hkZ19b (ZA hyZ20 (ZA huZ21g (ZA hkZ22a (ZA hkZ22b (ZA hyZ23 (ZA hyZ24a (ZA hyZ24b cZ25))))))))))))) trivial
      · simp only [ZC, A52R2]
        obtain ⟨oZ29, hoZ29, h⟩ := bind_s h
        try refine ZF (ZA cZ15 (ZA huZ16g (ZA cZ17 (ZA huZ18g (ZA hkZ19a (ZA hkZ19b (ZA hyZ20 (ZA huZ21g (ZA hkZ22a (ZA hkZ22b (ZA hyZ23 (ZA hyZ24a hyZ24b)))))))))))) ?_
        refine join_rule0 (sh := (fun v => ⟨[(0, .lst .o 1 (ratesZ0.map AV.i)), (1, .i capacityZ0), (6, .i (IntKind.wrap .i64 (1 * 2 ^ (min (Int.toNat (IntKind.wrap .u64 (ratesZ0.length : Int))) (IntKind.bits .i64))))), (7, .sl 7 0 sZ12.2.1.length), (8, .sl 8 0 sZ12.2.2.length), (9, .i sZ12.1), (10, .i sZ14.1), (11, .i sZ14.2.1), (12, .i sZ14.2.2), (13, .i oZ26.1), (14, .i oZ26.2), (91, .b v)], [(7, .arr 1 (sZ12.2.1.map AV.i)), (8, .arr 1 (sZ12.2.2.map AV.i))]⟩)) (s := oZ29) ?_ ?_
        · replace h := hoZ29
          obtain ⟨cZ27, h⟩ | ⟨cZ27, h⟩ := cond_s h
          · cases h
            exact ZL (ZA cZ15 (ZA huZ16g (ZA cZ17 (ZA huZ18g (ZA hkZ19a (ZA hkZ19b (ZA hyZ20 (ZA huZ21g (ZA hkZ22a (ZA hkZ22b (ZA hyZ23 (ZA hyZ24a (ZA hyZ24b cZ27))))))))))))) trivial
          · obtain ⟨cZ28, h⟩ | ⟨cZ28, h⟩ := cond_s h
            · cases h
              exact ZL (ZA cZ15 (ZA huZ16g (ZA cZ17 (ZA huZ18g (ZA hkZ19a (ZA hkZ19b (ZA hyZ20 (ZA huZ21g (ZA hkZ22a (ZA hkZ22b (ZA hyZ23 (ZA hyZ24a (ZA hyZ24b (ZA cZ27 cZ28)))))))))))))) trivial
            · cases h
              exact ZL (ZA cZ15 (ZA huZ16g (ZA cZ17 (ZA huZ18g (ZA hkZ19a (ZA hkZ19b (ZA hyZ20 (ZA huZ21g (ZA hkZ22a (ZA hkZ22b (ZA hyZ23 (ZA hyZ24a (ZA hyZ24b (ZA cZ27 cZ28)))))))))))))) trivial
        · simp only [ZC, A52R3]
          obtain ⟨cZ30, h⟩ | ⟨cZ30, h⟩ := cond_s h
          · cases h
            exact ZL (ZA cZ15 (ZA huZ16g (ZA cZ17 (ZA huZ18g (ZA hkZ19a (ZA hkZ19b (ZA hyZ20 (ZA huZ21g (ZA hkZ22a (ZA hkZ22b (ZA hyZ23 (ZA hyZ24a (ZA hyZ24b cZ30))))))))))))) (ZA S_spec_FewestUnitsL2.eq_1 SX_spec_FewestUnitsL2.eq_1)
          · cases h
            exact ZL (ZA cZ15 (ZA huZ16g (ZA cZ17 (ZA huZ18g (ZA hkZ19a (ZA hkZ19b (ZA hyZ20 (ZA huZ21g (ZA hkZ22a (ZA hkZ22b (ZA hyZ23 (ZA hyZ24a (ZA hyZ24b cZ30))))))))))))) (ZA S_spec_FewestUnitsL2.eq_1 SX_spec_FewestUnitsL2.eq_1)
  · cases h
    exact ZL cZ15 (ZA S_spec_FewestUnitsL2.eq_1 SX_spec_FewestUnitsL2.eq_1)
def S_spec_FewestUnitsL1 (ratesZ0 : List Int) (capacityZ0 : Int) (v : Int × List Int × List Int) : St := ⟨[(0, .lst .o 1 (ratesZ0.map AV.i)), (1, .i capacityZ0), (6, .i (IntKind.wrap .i64 (1 * 2 ^ (min (Int.toNat (IntKind.wrap .u64 (ratesZ0.length : Int))) (IntKind.bits .i64))))), (7, .sl 7 0 v.2.1.length), (8, .sl 8 0 v.2.2.length), (9, .i v.1)], [(7, .arr 1 (v.2.1.map AV.i)), (8, .arr 1 (v.2.2.map AV.i))]⟩
def SX_spec_FewestUnitsL1 (ratesZ0 : List Int) (v : List Int) : St := ⟨[(0, .lst .o 1 (ratesZ0.map AV.i)), (6, .i (IntKind.wrap .i64 (1 * 2 ^ (min (Int.toNat (IntKind.wrap .u64 (ratesZ0.length : Int))) (IntKind.bits .i64))))), (7, .sl 7 0 v.length)], [(7, .arr 1 (v.map AV.i))]⟩
theorem w_spec_FewestUnitsL1 (ratesZ0 : List Int) (capacityZ0 : Int) (sZ12 : Int × List Int × List Int) (o : (Int × List Int × List Int) ⊕ (List Int)) (h : M_spec_FewestUnitsL1 ratesZ0 capacityZ0 sZ12 = some o) : AWP (OkS Try.prog) A52L6 (qL [0, 1, 6, 7, 8, 9] [7, 8] (S_spec_FewestUnitsL1 ratesZ0 capacityZ0) (qX 0 [0, 6, 7] [7] (SX_spec_FewestUnitsL1 ratesZ0)) o) (S_spec_FewestUnitsL1 ratesZ0 capacityZ0 sZ12) := by
  unfold M_spec_FewestUnitsL1 at h
  simp only [ZC, S_spec_FewestUnitsL1, A52L6]
  obtain ⟨cZ13, h⟩ | ⟨cZ13, h⟩ := cond_s h
  · obtain ⟨oZ31, hoZ31, h⟩ := bind_s h
    try refine ZF cZ13 ?_
    refine join_rule0 (blk_rule0 (loop_rule (w_spec_FewestUnitsL2 ratesZ0 capacityZ0 sZ12) hoZ31 ?_)) ?_
    · exact ZK (ZA S_spec_FewestUnitsL2.eq_1 SX_spec_FewestUnitsL2.eq_1)
    · simp only [ZC, SX_spec_FewestUnitsL2, A52R5]
      obtain ⟨kZ32, hkZ32, h⟩ := bind_s h
      obtain ⟨hkZ32a, hkZ32b⟩ := grd_s hkZ32
      obtain ⟨yZ33, hyZ33, h⟩ := bind_s h
      obtain ⟨lZ34, hlZ34, h⟩ := bnd_s h
      have eZ35 : (sZ12.2.1.map AV.i).set (Int.toNat sZ12.1) (.i oZ31.1) = lZ34.map AV.i := by rw [← hlZ34, List.map_set]
      obtain ⟨kZ36, hkZ36, h⟩ := bind_s h
      obtain ⟨hkZ36a, hkZ36b⟩ := grd_s hkZ36
      obtain ⟨yZ37, hyZ37, h⟩ := bind_s h
      obtain ⟨lZ38, hlZ38, h⟩ := bnd_s h
      have eZ39 : (sZ12.2.2.map AV.i).set (Int.toNat sZ12.1) (.i oZ31.2) = lZ38.map AV.i := by rw [← hlZ38, List.map_set]
      cases h
      exact ZL (ZA cZ13 (ZA hkZ32a (ZA hkZ32b (ZA hyZ33 (ZA eZ35 (ZA hkZ36a (ZA hkZ36b (ZA hyZ37 eZ39)))))))) (ZA S_spec_FewestUnitsL1.eq_1 (ZA SX_spec_FewestUnitsL1.eq_1 (ZA hlZ34.symm hlZ38.symm)))
  · cases h
    exact ZL cZ13 (ZA S_spec_FewestUnitsL1.eq_1 SX_spec_FewestUnitsL1.eq_1)
theorem w_spec_FewestUnits (ratesZ0 : List Int) (capacityZ0 : Int) {r : Int × Bool} (h : M_spec_FewestUnits ratesZ0 capacityZ0 = some r) : Ok Try.prog 52 [.lst .o 1 (ratesZ0.map AV.i), .i capacityZ0] ((fun r => .tup [.i r.1, .b r.2]) r) := by
  refine ok_of_body hmix m52 rfl ?_
  unfold M_spec_FewestUnits at h
  simp only [ZC, A52, V52, body_eq]
  obtain ⟨oZ3, hoZ3, h⟩ := bind_s h
  try refine ZF trivial ?_
  refine join_rule0 (sh := (fun v => ⟨[(0, .lst .o 1 (ratesZ0.map AV.i)), (1, .i capacityZ0), (23, .b v)], []⟩)) (s := oZ3) ?_ ?_
  · replace h := hoZ3
    obtain ⟨rZ1, hrZ1, h⟩ := bind_s h
    refine ZF trivial ?_
    refine ZS trivial (w_spec_l18Rates _ _ hrZ1) ?_
    refine ZG ?_
    obtain ⟨cZ2, h⟩ | ⟨cZ2, h⟩ := cond_s h
    · cases h
      exact ZL cZ2 trivial
    · cases h
      exact ZL cZ2 trivial
  · simp only [ZC, A52R1]
    obtain ⟨cZ4, h⟩ | ⟨cZ4, h⟩ := cond_s h
    · cases h
      exact ZL cZ4 V52.eq_1
    · obtain ⟨uZ5, huZ5, h⟩ := bind_s h
      have huZ5g := grd_s huZ5
      obtain ⟨uZ6, huZ6, h⟩ := bind_s h
      obtain ⟨huZ61, huZ62, huZ63, huZ64⟩ := grd_s huZ6
      obtain ⟨lZ7, hlZ7, h⟩ := bnd_s h
      have eZ8 : List.replicate (Int.toNat (IntKind.wrap .i64 (1 * 2 ^ (min (Int.toNat (IntKind.wrap .u64 (ratesZ0.length : Int))) (IntKind.bits .i64))))) (.i 0 : AV) = lZ7.map AV.i := by rw [← hlZ7, List.map_replicate]
      obtain ⟨uZ9, huZ9, h⟩ := bind_s h
      obtain ⟨huZ91, huZ92, huZ93, huZ94⟩ := grd_s huZ9
      obtain ⟨lZ10, hlZ10, h⟩ := bnd_s h
      have eZ11 : List.replicate (Int.toNat (IntKind.wrap .i64 (1 * 2 ^ (min (Int.toNat (IntKind.wrap .u64 (ratesZ0.length : Int))) (IntKind.bits .i64))))) (.i 0 : AV) = lZ10.map AV.i := by rw [← hlZ10, List.map_replicate]
      obtain ⟨oZ40, hoZ40, h⟩ := bind_s h
      try refine ZF (ZA cZ4 (ZA huZ5g (ZA huZ61 (ZA huZ62 (ZA huZ63 (ZA huZ64 (ZA eZ8 (ZA huZ91 (ZA huZ92 (ZA huZ93 (ZA huZ94 eZ11))))))))))) ?_
      refine join_rule0 (blk_rule0 (loop_rule (w_spec_FewestUnitsL1 ratesZ0 capacityZ0) hoZ40 ?_)) ?_
      · exact ZK (ZA S_spec_FewestUnitsL1.eq_1 (ZA SX_spec_FewestUnitsL1.eq_1 (ZA hlZ7.symm (ZA @Zr hlZ10.symm))))
      · simp only [ZC, SX_spec_FewestUnitsL1, A52R7]
        obtain ⟨cZ41, h⟩ | ⟨cZ41, h⟩ := cond_s h
        · cases h
          exact ZL (ZA cZ4 (ZA huZ5g (ZA huZ61 (ZA huZ62 (ZA huZ63 (ZA huZ64 (ZA eZ8 (ZA huZ91 (ZA huZ92 (ZA huZ93 (ZA huZ94 (ZA eZ11 cZ41)))))))))))) V52.eq_1
        · obtain ⟨kZ42, hkZ42, h⟩ := bind_s h
          obtain ⟨hkZ42a, hkZ42b⟩ := grd_s hkZ42
          obtain ⟨yZ43, hyZ43, h⟩ := bind_s h
          cases h
          exact ZL (ZA cZ4 (ZA huZ5g (ZA huZ61 (ZA huZ62 (ZA huZ63 (ZA huZ64 (ZA eZ8 (ZA huZ91 (ZA huZ92 (ZA huZ93 (ZA huZ94 (ZA eZ11 (ZA cZ41 (ZA hkZ42a (ZA hkZ42b hyZ43))))))))))))))) V52.eq_1
theorem w_impl_within (nZ0 : Int) (lowZ0 : Int) (highZ0 : Int) {r : Bool} (h : M_impl_within nZ0 lowZ0 highZ0 = some r) : Ok Try.prog 55 [.i nZ0, .i lowZ0, .i highZ0] ((fun r => .b r) r) := by
  refine ok_of_body hmix m55 rfl ?_
  unfold M_impl_within at h
  simp only [ZC, A55, V55, body_eq]
  obtain ⟨cZ1, h⟩ | ⟨cZ1, h⟩ := cond_s h
  · cases h
    exact ZL cZ1 V55.eq_1
  · cases h
    exact ZL cZ1 V55.eq_1
def S_slices_IndexFunc_Lint_intL1 (sZ0 : List Int) (F_fZ0 : Nat) (C_fZ0 : List AV) (v : Int) : St := ⟨[(0, .lst .o 1 (sZ0.map AV.i)), (1, .fn F_fZ0 C_fZ0), (7, .i (sZ0.length : Int)), (8, .i v)], []⟩
def SX_slices_IndexFunc_Lint_intL1 (v : Unit) : St := ⟨[], []⟩
theorem w_slices_IndexFunc_Lint_intL1 (sZ0 : List Int) (fZ0 : Int → Option Bool) (F_fZ0 : Nat) (C_fZ0 : List AV) (hC_fZ0 : Fixed C_fZ0) (hf_fZ0 : ∀ (x0 : Int) (r : Bool), fZ0 x0 = some r → Ok Try.prog F_fZ0 ((.i x0) :: C_fZ0) (.b r)) (sZ1 : Int) (o : Int ⊕ (Unit ⊕ Int)) (h : M_slices_IndexFunc_Lint_intL1 sZ0 fZ0 sZ1 = some o) : AWP (OkS Try.prog) A98L1 (qL [0, 1, 7, 8] [] (S_slices_IndexFunc_Lint_intL1 sZ0 F_fZ0 C_fZ0) (qS (qX 0 [] [] (SX_slices_IndexFunc_Lint_intL1)) (qR V98 (fun r => .i r))) o) (S_slices_IndexFunc_Lint_intL1 sZ0 F_fZ0 C_fZ0 sZ1) := by
  unfold M_slices_IndexFunc_Lint_intL1 at h
  simp only [ZC, S_slices_IndexFunc_Lint_intL1, A98L1]
  obtain ⟨cZ2, h⟩ | ⟨cZ2, h⟩ := cond_s h
  · obtain ⟨yZ3, hyZ3, h⟩ := bind_s h
    obtain ⟨hyZ3a, hyZ3b⟩ := geti_s hyZ3
    obtain ⟨rZ4, hrZ4, h⟩ := bind_s h
    refine ZF (ZA cZ2 (ZA hyZ3a hyZ3b)) ?_
    refine ZS (ZA cZ2 (ZA hyZ3a (ZA hyZ3b hC_fZ0.1))) (hf_fZ0 _ _ hrZ4) ?_
    refine ZG ?_
    obtain ⟨cZ5, h⟩ | ⟨cZ5, h⟩ := cond_s h
    · cases h
      exact ZL (ZA cZ2 (ZA hyZ3a (ZA hyZ3b cZ5))) (ZA V98.eq_1 (ZA hC_fZ0.2 ((fixed_ren hC_fZ0))))
    · cases h
      exact ZL (ZA cZ2 (ZA hyZ3a (ZA hyZ3b cZ5))) (ZA S_slices_IndexFunc_Lint_intL1.eq_1 (ZA SX_slices_IndexFunc_Lint_intL1.eq_1 (ZA hC_fZ0.2 ((fixed_ren hC_fZ0)))))
  · cases h
    exact ZL cZ2 (ZA S_slices_IndexFunc_Lint_intL1.eq_1 (ZA SX_slices_IndexFunc_Lint_intL1.eq_1 (ZA hC_fZ0.2 ((fixed_ren hC_fZ0)))))
theorem w_slices_IndexFunc_Lint_int (sZ0 : List Int) (fZ0 : Int → Option Bool) {r : Int} (h : M_slices_IndexFunc_Lint_int sZ0 fZ0 = some r) (F_fZ0 : Nat) (C_fZ0 : List AV) (hC_fZ0 : Fixed C_fZ0) (hf_fZ0 : ∀ (x0 : Int) (r : Bool), fZ0 x0 = some r → Ok Try.prog F_fZ0 ((.i x0) :: C_fZ0) (.b r)) : Ok Try.prog 98 [.lst .o 1 (sZ0.map AV.i), .fn F_fZ0 C_fZ0] ((fun r => .i r) r) := by
  refine ok_of_body hmix m98 rfl ?_
  unfold M_slices_IndexFunc_Lint_int at h
  simp only [ZC, A98, V98, body_eq]
  obtain ⟨oZ6, hoZ6, h⟩ := bind_s h
  try refine ZF trivial ?_
  refine join_rule (o := oZ6) (blk_rule sideR (loop_rule (w_slices_IndexFunc_Lint_intL1 sZ0 fZ0 F_fZ0 C_fZ0 hC_fZ0 hf_fZ0) hoZ6 ?_)) (fun vZ7 hv => ?_) (fun xZ8 hv e τ hne hq => ?_)
  · exact ZK (ZA S_slices_IndexFunc_Lint_intL1.eq_1 (ZA SX_slices_IndexFunc_Lint_intL1.eq_1 (ZA hC_fZ0.2 ((fixed_ren hC_fZ0)))))
  · subst hv
    simp only [] at h
    simp only [ZC, SX_slices_IndexFunc_Lint_intL1, A98R2]
    cases h
    exact ZL trivial (ZA V98.eq_1 (ZA hC_fZ0.2 ((fixed_ren hC_fZ0))))
  · subst hv
    simp only [] at h
    obtain ⟨rfl, qZ9⟩ := hq
    cases h
    exact qZ9
theorem w_slices_ContainsFunc_Lint_int (sZ0 : List Int) (fZ0 : Int → Option Bool) {r : Bool} (h : M_slices_ContainsFunc_Lint_int sZ0 fZ0 = some r) (F_fZ0 : Nat) (C_fZ0 : List AV) (hC_fZ0 : Fixed C_fZ0) (hf_fZ0 : ∀ (x0 : Int) (r : Bool), fZ0 x0 = some r → Ok Try.prog F_fZ0 ((.i x0) :: C_fZ0) (.b r)) : Ok Try.prog 71 [.lst .o 1 (sZ0.map AV.i), .fn F_fZ0 C_fZ0] ((fun r => .b r) r) := by
  refine ok_of_body hmix m71 rfl ?_
  unfold M_slices_ContainsFunc_Lint_int at h
  simp only [ZC, A71, V71, body_eq]
  obtain ⟨rZ1, hrZ1, h⟩ := bind_s h
  refine ZF trivial ?_
  refine ZS hC_fZ0.1 (w_slices_IndexFunc_Lint_int _ _ hrZ1 F_fZ0 C_fZ0 hC_fZ0 hf_fZ0) ?_
  refine ZG ?_
  cases h
  exact ZL trivial (ZA V71.eq_1 (ZA hC_fZ0.2 ((fixed_ren hC_fZ0))))
theorem w_impl_isPacking_c1 (rateZ0 : Int) (p1Z0 : Int) {r : Bool} (h : M_impl_isPacking_c1 rateZ0 p1Z0 = some r) : Ok Try.prog 97 [.i rateZ0, .bp (.i p1Z0) 0] ((fun r => .b r) r) := by
  refine ok_of_body hmix m97 rfl ?_
  unfold M_impl_isPacking_c1 at h
  simp only [ZC, A97, V97, body_eq]
  obtain ⟨rZ1, hrZ1, h⟩ := bind_s h
  refine ZF trivial ?_
  refine ZS trivial (w_impl_within _ _ _ hrZ1) ?_
  refine ZG ?_
  cases h
  exact ZL trivial V97.eq_1
theorem w_impl_isPacking (ratesZ0 : List Int) (capacityZ0 : Int) (mostZ0 : Int) {r : Bool} (h : M_impl_isPacking ratesZ0 capacityZ0 mostZ0 = some r) : Ok Try.prog 63 [.lst .o 1 (ratesZ0.map AV.i), .i capacityZ0, .i mostZ0] ((fun r => .b r) r) := by
  refine ok_of_body hmix m63 rfl ?_
  unfold M_impl_isPacking at h
  simp only [ZC, A63, V63, body_eq]
  obtain ⟨rZ1, hrZ1, h⟩ := bind_s h
  refine ZF trivial ?_
  refine ZS trivial (w_impl_within _ _ _ hrZ1) ?_
  refine ZG ?_
  obtain ⟨cZ2, h⟩ | ⟨cZ2, h⟩ := cond_s h
  · obtain ⟨cZ3, h⟩ | ⟨cZ3, h⟩ := cond_s h
    · obtain ⟨rZ4, hrZ4, h⟩ := bind_s h
      refine ZF (ZA cZ2 cZ3) ?_
      refine ZS (ZA cZ2 cZ3) (w_slices_ContainsFunc_Lint_int _ _ hrZ4 97 [.bp (.i capacityZ0) 0] ⟨fun ρ k => by simp only [VS1, VS2, VS3, VS4, VS5, VS6, VT1, VT2, finM_ret, finM_nrm, decide_true, decide_false, List.nodup_nil, List.nodup_cons, oks_p, oks_m, oks_h, ne_eq, not_false_eq_true, Int.reduceEq, Int.reduceNe, true_and, Nat.reduceSub, Nat.reduceMul, ↓reduceIte, reduceCtorEq, Nat.reduceEqDiff, Nat.reduceAdd, Nat.reduceLeDiff, Int.reduceLE], by simp [mentsL, AV.ments]⟩ (fun _ _ h => w_impl_isPacking_c1 _ _ h)) ?_
      refine ZG ?_
      cases h
      exact ZL (ZA cZ2 cZ3) V63.eq_1
    · cases h
      exact ZL (ZA cZ2 cZ3) V63.eq_1
  · cases h
    exact ZL cZ2 V63.eq_1
theorem w_slices_Clone_Lint_int (sZ0 : List Int) {r : List Int} (h : M_slices_Clone_Lint_int sZ0 = some r) : Ok Try.prog 89 [.lst .o 1 (sZ0.map AV.i)] ((fun r => .lst .u 1 (r.map AV.i)) r) := by
  refine ok_of_body hmix m89 rfl ?_
  unfold M_slices_Clone_Lint_int at h
  simp only [ZC, A89, V89, body_eq]
  obtain ⟨cZ1, h⟩ | ⟨cZ1, h⟩ := cond_s h
  · refine ZF cZ1 ?_
    refine And.intro ?_ ?_
    · replace h := amb_l h
      cases h
      exact ZL cZ1 V89.eq_1
    · replace h := amb_r h
      obtain ⟨uZ2, huZ2, h⟩ := bind_s h
      have huZ2g := grd_s huZ2
      cases h
      exact ZL (ZA cZ1 huZ2g) V89.eq_1
  · obtain ⟨uZ3, huZ3, h⟩ := bind_s h
    have huZ3g := grd_s huZ3
    cases h
    exact ZL (ZA cZ1 huZ3g) V89.eq_1
theorem w_math_bits_Len64 (xZ0 : Int) {r : Int} (h : M_math_bits_Len64 xZ0 = some r) : Ok Try.prog 126 [.sc (.int .u64 xZ0)] ((fun r => .i r) r) := by
  refine ok_of_body hmix m126 rfl ?_
  unfold M_math_bits_Len64 at h
  simp only [ZC, A126, V126, body_eq]
  obtain ⟨oZ2, hoZ2, h⟩ := bind_s h
  try refine ZF trivial ?_
  refine join_rule0 (sh := (fun v => ⟨[(0, .sc (.int .u64 v.1)), (2, .i v.2)], []⟩)) (s := oZ2) ?_ ?_
  · replace h := hoZ2
    obtain ⟨cZ1, h⟩ | ⟨cZ1, h⟩ := cond_s h
    · cases h
      exact ZL cZ1 trivial
    · cases h
      exact ZL cZ1 trivial
  · simp only [ZC, A126R1]
    obtain ⟨oZ4, hoZ4, h⟩ := bind_s h
    try refine ZF trivial ?_
    refine join_rule0 (sh := (fun v => ⟨[(0, .sc (.int .u64 v.1)), (2, .i v.2)], []⟩)) (s := oZ4) ?_ ?_
    · replace h := hoZ4
      obtain ⟨cZ3, h⟩ | ⟨cZ3, h⟩ := cond_s h
      · cases h
        exact ZL cZ3 trivial
      · cases h
        exact ZL cZ3 trivial
    · simp only [ZC, A126R2]
      obtain ⟨oZ6, hoZ6, h⟩ := bind_s h
      try refine ZF trivial ?_
      refine join_rule0 (sh := (fun v => ⟨[(0, .sc (.int .u64 v.1)), (2, .i v.2)], []⟩)) (s := oZ6) ?_ ?_
      · replace h := hoZ6
        obtain ⟨cZ5, h⟩ | ⟨cZ5, h⟩ := cond_s h
        · cases h
          exact ZL cZ5 trivial
        · cases h
          exact ZL cZ5 trivial
      · simp only [ZC, A126R3]
        obtain ⟨yZ7, hyZ7, h⟩ := bind_s h
        obtain ⟨hyZ7a, hyZ7b⟩ := getz_s hyZ7
        cases h
        exact ZL (ZA hyZ7a hyZ7b) V126.eq_1
theorem w_math_bits_Len (xZ0 : Int) {r : Int} (h : M_math_bits_Len xZ0 = some r) : Ok Try.prog 109 [.sc (.int .u64 xZ0)] ((fun r => .i r) r) := by
  refine ok_of_body hmix m109 rfl ?_
  unfold M_math_bits_Len at h
  simp only [ZC, A109, V109, body_eq]
  obtain ⟨rZ1, hrZ1, h⟩ := bind_s h
  refine ZF trivial ?_
  refine ZS trivial (w_math_bits_Len64 _ hrZ1) ?_
  refine ZG ?_
  cases h
  exact ZL trivial V109.eq_1
theorem w_cmp_isNaN_int (xZ0 : Int) {r : Bool} (h : M_cmp_isNaN_int xZ0 = some r) : Ok Try.prog 110 [.i xZ0] ((fun r => .b r) r) := by
  refine ok_of_body hmix m110 rfl ?_
  unfold M_cmp_isNaN_int at h
  simp only [ZC, A110, V110, body_eq]
  cases h
  exact ZL trivial V110.eq_1
theorem w_cmp_Compare_int (xZ0 : Int) (yZ0 : Int) {r : Int} (h : M_cmp_Compare_int xZ0 yZ0 = some r) : Ok Try.prog 92 [.i xZ0, .i yZ0] ((fun r => .i r) r) := by
  refine ok_of_body hmix m92 rfl ?_
  unfold M_cmp_Compare_int at h
  simp only [ZC, A92, V92, body_eq]
  obtain ⟨rZ1, hrZ1, h⟩ := bind_s h
  refine ZF trivial ?_
  refine ZS trivial (w_cmp_isNaN_int _ hrZ1) ?_
  refine ZG ?_
  obtain ⟨rZ2, hrZ2, h⟩ := bind_s h
  refine ZF trivial ?_
  refine ZS trivial (w_cmp_isNaN_int _ hrZ2) ?_
  refine ZG ?_
  obtain ⟨cZ3, h⟩ | ⟨cZ3, h⟩ := cond_s h
  · obtain ⟨cZ4, h⟩ | ⟨cZ4, h⟩ := cond_s h
    · cases h
      exact ZL (ZA cZ3 cZ4) V92.eq_1
    · cases h
      exact ZL (ZA cZ3 cZ4) V92.eq_1
  · obtain ⟨cZ5, h⟩ | ⟨cZ5, h⟩ := cond_s h
    · cases h
      exact ZL (ZA cZ3 cZ5) V92.eq_1
    · obtain ⟨cZ6, h⟩ | ⟨cZ6, h⟩ := cond_s h
      · cases h
        exact ZL (ZA cZ3 (ZA cZ5 cZ6)) V92.eq_1
      · obtain ⟨cZ7, h⟩ | ⟨cZ7, h⟩ := cond_s h
        · cases h
          exact ZL (ZA cZ3 (ZA cZ5 (ZA cZ6 cZ7))) V92.eq_1
        · cases h
          exact ZL (ZA cZ3 (ZA cZ5 (ZA cZ6 cZ7))) V92.eq_1
theorem w_impl_FewestUnits_c1 (aZ0 : Int) (bZ0 : Int) {r : Int} (h : M_impl_FewestUnits_c1 aZ0 bZ0 = some r) : Ok Try.prog 91 [.i aZ0, .i bZ0] ((fun r => .i r) r) := by
  refine ok_of_body hmix m91 rfl ?_
  unfold M_impl_FewestUnits_c1 at h
  simp only [ZC, A91, V91, body_eq]
  obtain ⟨rZ1, hrZ1, h⟩ := bind_s h
  refine ZF trivial ?_
  refine ZS trivial (w_cmp_Compare_int _ _ hrZ1) ?_
  refine ZG ?_
  cases h
  exact ZL trivial V91.eq_1
def S_slices_insertionSortCmpFunc_intM1L2 (aaZ0 : Int) (abZ0 : Int) (sZ1 : Int × List Int) (v : Int × List Int) : St := ⟨[(0, .sl 1000000000 0 v.2.length), (1, .i aaZ0), (2, .i abZ0), (3, .fn 91 []), (8, .i sZ1.1), (9, .i v.1)], [(1000000000, .arr 1 (v.2.map AV.i))]⟩
def SX_slices_insertionSortCmpFunc_intM1L2 (aaZ0 : Int) (abZ0 : Int) (sZ1 : Int × List Int) (v : List Int) : St := ⟨[(0, .sl 1000000000 0 v.length), (1, .i aaZ0), (2, .i abZ0), (3, .fn 91 []), (8, .i sZ1.1)], [(1000000000, .arr 1 (v.map AV.i))]⟩
theorem w_slices_insertionSortCmpFunc_intM1L2 (aaZ0 : Int) (abZ0 : Int) (sZ1 : Int × List Int) (sZ3 : Int × List Int) (o : (Int × List Int) ⊕ (List Int)) (h : M_slices_insertionSortCmpFunc_intM1L2 aaZ0 sZ3 = some o) : AWP (OkS Try.prog) A117M1L2 (qL [0, 1, 2, 3, 8, 9] [1000000000] (S_slices_insertionSortCmpFunc_intM1L2 aaZ0 abZ0 sZ1) (qX 2 [0, 1, 2, 3, 8] [1000000000] (SX_slices_insertionSortCmpFunc_intM1L2 aaZ0 abZ0 sZ1)) o) (S_slices_insertionSortCmpFunc_intM1L2 aaZ0 abZ0 sZ1 sZ3) := by
  unfold M_slices_insertionSortCmpFunc_intM1L2 at h
  simp only [ZC, S_slices_insertionSortCmpFunc_intM1L2, A117M1L2]
  obtain ⟨oZ10, hoZ10, h⟩ := bind_s h
  try refine ZF trivial ?_
  refine join_rule0 (sh := (fun v => ⟨[(0, .sl 1000000000 0 sZ3.2.length), (1, .i aaZ0), (2, .i abZ0), (3, .fn 91 []), (8, .i sZ1.1), (9, .i sZ3.1), (34, .b v)], [(1000000000, .arr 1 (sZ3.2.map AV.i))]⟩)) (s := oZ10) ?_ ?_
  · replace h := hoZ10
    obtain ⟨cZ4, h⟩ | ⟨cZ4, h⟩ := cond_s h
    · obtain ⟨kZ5, hkZ5, h⟩ := bind_s h
      obtain ⟨hkZ5a, hkZ5b⟩ := grd_s hkZ5
      obtain ⟨yZ6, hyZ6, h⟩ := bind_s h
      obtain ⟨kZ7, hkZ7, h⟩ := bind_s h
      obtain ⟨hkZ7a, hkZ7b⟩ := grd_s hkZ7
      obtain ⟨yZ8, hyZ8, h⟩ := bind_s h
      obtain ⟨rZ9, hrZ9, h⟩ := bind_s h
      refine ZF (ZA cZ4 (ZA hkZ5a (ZA hkZ5b (ZA hyZ6 (ZA hkZ7a (ZA hkZ7b hyZ8)))))) ?_
      refine ZS (ZA cZ4 (ZA hkZ5a (ZA hkZ5b (ZA hyZ6 (ZA hkZ7a (ZA hkZ7b hyZ8)))))) (w_impl_FewestUnits_c1 _ _ hrZ9) ?_
      refine ZG ?_
      cases h
      exact ZL (ZA cZ4 (ZA hkZ5a (ZA hkZ5b (ZA hyZ6 (ZA hkZ7a (ZA hkZ7b hyZ8)))))) trivial
    · cases h
      exact ZL cZ4 trivial
  · simp only [ZC, A117M1R1]
    obtain ⟨cZ11, h⟩ | ⟨cZ11, h⟩ := cond_s h
    · obtain ⟨kZ12, hkZ12, h⟩ := bind_s h
      obtain ⟨hkZ12a, hkZ12b⟩ := grd_s hkZ12
      obtain ⟨yZ13, hyZ13, h⟩ := bind_s h
      obtain ⟨kZ14, hkZ14, h⟩ := bind_s h
      obtain ⟨hkZ14a, hkZ14b⟩ := grd_s hkZ14
      obtain ⟨yZ15, hyZ15, h⟩ := bind_s h
      obtain ⟨lZ16, hlZ16, h⟩ := bnd_s h
      have eZ17 : (sZ3.2.map AV.i).set (Int.toNat sZ3.1) (.i yZ13) = lZ16.map AV.i := by rw [← hlZ16, List.map_set]
      obtain ⟨yZ18, hyZ18, h⟩ := bind_s h
      obtain ⟨lZ19, hlZ19, h⟩ := bnd_s h
      have eZ20 : (lZ16.map AV.i).set (Int.toNat (IntKind.wrap .i64 (sZ3.1 - 1))) (.i yZ15) = lZ19.map AV.i := by rw [← hlZ19, List.map_set]
      cases h
      exact ZL (ZA cZ11 (ZA hkZ12a (ZA hkZ12b (ZA hyZ13 (ZA hkZ14a (ZA hkZ14b (ZA hyZ15 (ZA eZ17 (ZA hyZ18 eZ20))))))))) (ZA S_slices_insertionSortCmpFunc_intM1L2.eq_1 (ZA SX_slices_insertionSortCmpFunc_intM1L2.eq_1 (ZA hlZ16.symm hlZ19.symm)))
    · cases h
      exact ZL cZ11 (ZA S_slices_insertionSortCmpFunc_intM1L2.eq_1 SX_slices_insertionSortCmpFunc_intM1L2.eq_1)
def S_slices_insertionSortCmpFunc_intM1L1 (aaZ0 : Int) (abZ0 : Int) (v : Int × List Int) : St := ⟨[(0, .sl 1000000000 0 v.2.length), (1, .i aaZ0), (2, .i abZ0), (3, .fn 91 []), (8, .i v.1)], [(1000000000, .arr 1 (v.2.map AV.i))]⟩
def SX_slices_insertionSortCmpFunc_intM1L1 (v : List Int) : St := ⟨[], [(1000000000, .arr 1 (v.map AV.i))]⟩
theorem w_slices_insertionSortCmpFunc_intM1L1 (aaZ0 : Int) (abZ0 : Int) (sZ1 : Int × List Int) (o : (Int × List Int) ⊕ (List Int)) (h : M_slices_insertionSortCmpFunc_intM1L1 aaZ0 abZ0 sZ1 = some o) : AWP (OkS Try.prog) A117M1L4 (qL [0, 1, 2, 3, 8] [1000000000] (S_slices_insertionSortCmpFunc_intM1L1 aaZ0 abZ0) (qX 0 [] [1000000000] (SX_slices_insertionSortCmpFunc_intM1L1)) o) (S_slices_insertionSortCmpFunc_intM1L1 aaZ0 abZ0 sZ1) := by
  unfold M_slices_insertionSortCmpFunc_intM1L1 at h
  simp only [ZC, S_slices_insertionSortCmpFunc_intM1L1, A117M1L4]
  obtain ⟨cZ2, h⟩ | ⟨cZ2, h⟩ := cond_s h
  · obtain ⟨oZ23, hoZ23, h⟩ := bind_s h
    try refine ZF cZ2 ?_
    refine join_rule0 (sh := (fun v => ⟨[(0, .sl 1000000000 0 v.length), (1, .i aaZ0), (2, .i abZ0), (3, .fn 91 []), (8, .i sZ1.1)], [(1000000000, .arr 1 (v.map AV.i))]⟩)) (s := oZ23) ?_ ?_
    · replace h := hoZ23
      obtain ⟨oZ21, hoZ21, h⟩ := bind_s h
      try refine ZF cZ2 ?_
      first | refine tail_rule0 (blk_rule0 (loop_rule (w_slices_insertionSortCmpFunc_intM1L2 aaZ0 abZ0 sZ1) hoZ21 ?_)) (fun τ qZ22 => ?_) | refine tail_blk0 (loop_rule (w_slices_insertionSortCmpFunc_intM1L2 aaZ0 abZ0 sZ1) hoZ21 ?_) (fun τ qZ22 => ?_)
      · exact ZK (ZA S_slices_insertionSortCmpFunc_intM1L2.eq_1 SX_slices_insertionSortCmpFunc_intM1L2.eq_1)
      · cases h
        try refine ZF trivial ?_
        refine ⟨rfl, Shp.sub qZ22 (by decide) (by decide) ?_⟩
        exact ZK SX_slices_insertionSortCmpFunc_intM1L2.eq_1
    · simp only [ZC, A117M1R3]
      cases h
      exact ZL cZ2 (ZA S_slices_insertionSortCmpFunc_intM1L1.eq_1 SX_slices_insertionSortCmpFunc_intM1L1.eq_1)
  · cases h
    exact ZL cZ2 (ZA S_slices_insertionSortCmpFunc_intM1L1.eq_1 SX_slices_insertionSortCmpFunc_intM1L1.eq_1)
theorem w_slices_insertionSortCmpFunc_intM1 (aaZ0 : Int) (abZ0 : Int) (acZ0 : List Int) {r : List Int} (h : M_slices_insertionSortCmpFunc_intM1 aaZ0 abZ0 acZ0 = some r) : OkM Try.prog 117 [.sl 1000000000 0 acZ0.length, .i aaZ0, .i abZ0, .fn 91 []] [(1000000000, .arr 1 (acZ0.map AV.i))] ((fun (r : List Int) => .tup []) r) ((fun (r : List Int) => [(1000000000, .arr 1 (r.map AV.i))]) r) := by
  refine okM_of_body (lr := [1000000000]) hmix m117M1 rfl rfl ?_
  unfold M_slices_insertionSortCmpFunc_intM1 at h
  simp only [ZC, A117M1, V117M1]
  obtain ⟨oZ24, hoZ24, h⟩ := bind_s h
  try refine ZF trivial ?_
  first | refine tail_rule0 (blk_rule0 (loop_rule (w_slices_insertionSortCmpFunc_intM1L1 aaZ0 abZ0) hoZ24 ?_)) (fun τ qZ25 => ?_) | refine tail_blk0 (loop_rule (w_slices_insertionSortCmpFunc_intM1L1 aaZ0 abZ0) hoZ24 ?_) (fun τ qZ25 => ?_)
  · exact ZK (ZA S_slices_insertionSortCmpFunc_intM1L1.eq_1 SX_slices_insertionSortCmpFunc_intM1L1.eq_1)
  · cases h
    refine finM_shp qZ25 (by decide) ?_ rfl
    exact ZK (ZA V117M1.eq_1 SX_slices_insertionSortCmpFunc_intM1L1.eq_1)
def S_slices_siftDownCmpFunc_intM1L1 (abZ0 : Int) (acZ0 : Int) (v : Int × List Int) : St := ⟨[(0, .sl 1000000000 0 v.2.length), (2, .i abZ0), (3, .i acZ0), (4, .fn 91 []), (10, .i v.1)], [(1000000000, .arr 1 (v.2.map AV.i))]⟩
def SX_slices_siftDownCmpFunc_intM1L1 (v : List Int) : St := ⟨[], [(1000000000, .arr 1 (v.map AV.i))]⟩
theorem w_slices_siftDownCmpFunc_intM1L1 (abZ0 : Int) (acZ0 : Int) (sZ1 : Int × List Int) (o : (Int × List Int) ⊕ ((List Int) ⊕ (List Int))) (h : M_slices_siftDownCmpFunc_intM1L1 abZ0 acZ0 sZ1 = some o) : AWP (OkS Try.prog) A130M1L3 (qL [0, 2, 3, 4, 10] [1000000000] (S_slices_siftDownCmpFunc_intM1L1 abZ0 acZ0) (qS (qX 0 [] [1000000000] (SX_slices_siftDownCmpFunc_intM1L1)) (qM V130M1 [1000000000] (fun (r : List Int) => .tup []) (fun (r : List Int) => [(1000000000, .arr 1 (r.map AV.i))]))) o) (S_slices_siftDownCmpFunc_intM1L1 abZ0 acZ0 sZ1) := by
  unfold M_slices_siftDownCmpFunc_intM1L1 at h
  simp only [ZC, S_slices_siftDownCmpFunc_intM1L1, A130M1L3]
  obtain ⟨cZ2, h⟩ | ⟨cZ2, h⟩ := cond_s h
  · cases h
    exact ZL cZ2 (ZA S_slices_siftDownCmpFunc_intM1L1.eq_1 SX_slices_siftDownCmpFunc_intM1L1.eq_1)
  · obtain ⟨oZ10, hoZ10, h⟩ := bind_s h
    try refine ZF cZ2 ?_
    refine join_rule0 (sh := (fun v => ⟨[(0, .sl 1000000000 0 sZ1.2.length), (2, .i abZ0), (3, .i acZ0), (4, .fn 91 []), (10, .i sZ1.1), (11, .i v)], [(1000000000, .arr 1 (sZ1.2.map AV.i))]⟩)) (s := oZ10) ?_ ?_
    · replace h := hoZ10
      obtain ⟨cZ3, h⟩ | ⟨cZ3, h⟩ := cond_s h
      · obtain ⟨kZ4, hkZ4, h⟩ := bind_s h
        obtain ⟨hkZ4a, hkZ4b⟩ := grd_s hkZ4
        obtain ⟨yZ5, hyZ5, h⟩ := bind_s h
        obtain ⟨kZ6, hkZ6, h⟩ := bind_s h
        obtain ⟨hkZ6a, hkZ6b⟩ := grd_s hkZ6
        obtain ⟨yZ7, hyZ7, h⟩ := bind_s h
        obtain ⟨rZ8, hrZ8, h⟩ := bind_s h
        refine ZF (ZA cZ2 (ZA cZ3 (ZA hkZ4a (ZA hkZ4b (ZA hyZ5 (ZA hkZ6a (ZA hkZ6b hyZ7))))))) ?_
        refine ZS (ZA cZ2 (ZA cZ3 (ZA hkZ4a (ZA hkZ4b (ZA hyZ5 (ZA hkZ6a (ZA hkZ6b hyZ7))))))) (w_impl_FewestUnits_c1 _ _ hrZ8) ?_
        refine ZG ?_
        try refine ZF (ZA cZ2 (ZA cZ3 (ZA hkZ4a (ZA hkZ4b (ZA hyZ5 (ZA hkZ6a (ZA hkZ6b hyZ7))))))) ?_
        simp only [ZC, A130M1R1]
        obtain ⟨cZ9, h⟩ | ⟨cZ9, h⟩ := cond_s h
        · cases h
          exact ZL (ZA cZ2 (ZA cZ3 (ZA hkZ4a (ZA hkZ4b (ZA hyZ5 (ZA hkZ6a (ZA hkZ6b (ZA hyZ7 cZ9)))))))) trivial
        · cases h
          exact ZL (ZA cZ2 (ZA cZ3 (ZA hkZ4a (ZA hkZ4b (ZA hyZ5 (ZA hkZ6a (ZA hkZ6b (ZA hyZ7 cZ9)))))))) trivial
      · try refine ZF (ZA cZ2 cZ3) ?_
        simp only [ZC, A130M1R1]
        cases h
        exact ZL (ZA cZ2 cZ3) trivial
    · simp only [ZC, A130M1R2]
      obtain ⟨kZ11, hkZ11, h⟩ := bind_s h
      obtain ⟨hkZ11a, hkZ11b⟩ := grd_s hkZ11
      obtain ⟨yZ12, hyZ12, h⟩ := bind_s h
      obtain ⟨kZ13, hkZ13, h⟩ := bind_s h
      obtain ⟨hkZ13a, hkZ13b⟩ := grd_s hkZ13
      obtain ⟨yZ14, hyZ14, h⟩ := bind_s h
      obtain ⟨rZ15, hrZ15, h⟩ := bind_s h
      refine ZF (ZA cZ2 (ZA hkZ11a (ZA hkZ11b (ZA hyZ12 (ZA hkZ13a (ZA hkZ13b hyZ14)))))) ?_
      refine ZS (ZA cZ2 (ZA hkZ11a (ZA hkZ11b (ZA hyZ12 (ZA hkZ13a (ZA hkZ13b hyZ14)))))) (w_impl_FewestUnits_c1 _ _ hrZ15) ?_
      refine ZG ?_
      obtain ⟨cZ16, h⟩ | ⟨cZ16, h⟩ := cond_s h
      · cases h
        exact ZL (ZA cZ2 (ZA hkZ11a (ZA hkZ11b (ZA hyZ12 (ZA hkZ13a (ZA hkZ13b (ZA hyZ14 cZ16))))))) V130M1.eq_1
      · obtain ⟨lZ17, hlZ17, h⟩ := bnd_s h
        have eZ18 : (sZ1.2.map AV.i).set (Int.toNat (IntKind.wrap .i64 (acZ0 + sZ1.1))) (.i yZ14) = lZ17.map AV.i := by rw [← hlZ17, List.map_set]
        obtain ⟨yZ19, hyZ19, h⟩ := bind_s h
        obtain ⟨lZ20, hlZ20, h⟩ := bnd_s h
        have eZ21 : (lZ17.map AV.i).set (Int.toNat (IntKind.wrap .i64 (acZ0 + oZ10))) (.i yZ12) = lZ20.map AV.i := by rw [← hlZ20, List.map_set]
        cases h
        exact ZL (ZA cZ2 (ZA hkZ11a (ZA hkZ11b (ZA hyZ12 (ZA hkZ13a (ZA hkZ13b (ZA hyZ14 (ZA cZ16 (ZA eZ18 (ZA hyZ19 eZ21)))))))))) (ZA S_slices_siftDownCmpFunc_intM1L1.eq_1 (ZA SX_slices_siftDownCmpFunc_intM1L1.eq_1 (ZA hlZ17.symm hlZ20.symm)))
theorem w_slices_siftDownCmpFunc_intM1 (aaZ0 : Int) (abZ0 : Int) (acZ0 : Int) (adZ0 : List Int) {r : List Int} (h : M_slices_siftDownCmpFunc_intM1 aaZ0 abZ0 acZ0 adZ0 = some r) : OkM Try.prog 130 [.sl 1000000000 0 adZ0.length, .i aaZ0, .i abZ0, .i acZ0, .fn 91 []] [(1000000000, .arr 1 (adZ0.map AV.i))] ((fun (r : List Int) => .tup []) r) ((fun (r : List Int) => [(1000000000, .arr 1 (r.map AV.i))]) r) := by
  refine okM_of_body (lr := [1000000000]) hmix m130M1 rfl rfl ?_
  unfold M_slices_siftDownCmpFunc_intM1 at h
  simp only [ZC, A130M1, V130M1]
  obtain ⟨oZ22, hoZ22, h⟩ := bind_s h
  try refine ZF trivial ?_
  first | refine tail_rule (o := oZ22) (blk_rule sideM (loop_rule (w_slices_siftDownCmpFunc_intM1L1 abZ0 acZ0) hoZ22 ?_)) (fun vZ23 hv τ qZ25 => ?_) (fun xZ24 hv e τ hne hq => ?_) | refine tail_blk (o := oZ22) sideM (loop_rule (w_slices_siftDownCmpFunc_intM1L1 abZ0 acZ0) hoZ22 ?_) (fun vZ23 hv τ qZ25 => ?_) (fun xZ24 hv e τ hne hq => ?_)
  · exact ZK (ZA S_slices_siftDownCmpFunc_intM1L1.eq_1 SX_slices_siftDownCmpFunc_intM1L1.eq_1)
  · subst hv
    simp only [] at h
    cases h
    refine finM_shp qZ25 (by decide) ?_ rfl
    exact ZK (ZA V130M1.eq_1 SX_slices_siftDownCmpFunc_intM1L1.eq_1)
  · subst hv
    simp only [] at h
    obtain ⟨rfl, qZ26⟩ := hq
    cases h
    exact qZ26
def S_slices_siftDownCmpFunc_intM2L1 (aaZ0 : Nat) (abZ0 : Nat) (adZ0 : Int) (aeZ0 : Int) (v : Int × List Int) : St := ⟨[(0, .sl 1000000000 aaZ0 abZ0), (2, .i adZ0), (3, .i aeZ0), (4, .fn 91 []), (10, .i v.1)], [(1000000000, .arr 1 (v.2.map AV.i))]⟩
def SX_slices_siftDownCmpFunc_intM2L1 (v : List Int) : St := ⟨[], [(1000000000, .arr 1 (v.map AV.i))]⟩
theorem w_slices_siftDownCmpFunc_intM2L1 (aaZ0 : Nat) (abZ0 : Nat) (adZ0 : Int) (aeZ0 : Int) (sZ1 : Int × List Int) (o : (Int × List Int) ⊕ ((List Int) ⊕ (List Int))) (h : M_slices_siftDownCmpFunc_intM2L1 aaZ0 abZ0 adZ0 aeZ0 sZ1 = some o) : AWP (OkS Try.prog) A130M2L3 (qL [0, 2, 3, 4, 10] [1000000000] (S_slices_siftDownCmpFunc_intM2L1 aaZ0 abZ0 adZ0 aeZ0) (qS (qX 0 [] [1000000000] (SX_slices_siftDownCmpFunc_intM2L1)) (qM V130M2 [1000000000] (fun (r : List Int) => .tup []) (fun (r : List Int) => [(1000000000, .arr 1 (r.map AV.i))]))) o) (S_slices_siftDownCmpFunc_intM2L1 aaZ0 abZ0 adZ0 aeZ0 sZ1) := by
  unfold M_slices_siftDownCmpFunc_intM2L1 at h
  simp only [ZC, S_slices_siftDownCmpFunc_intM2L1, A130M2L3]
  obtain ⟨cZ2, h⟩ | ⟨cZ2, h⟩ := cond_s h
  · cases h
    exact ZL cZ2 (ZA S_slices_siftDownCmpFunc_intM2L1.eq_1 SX_slices_siftDownCmpFunc_intM2L1.eq_1)
  · obtain ⟨oZ10, hoZ10, h⟩ := bind_s h
    try refine ZF cZ2 ?_
    refine join_rule0 (sh := (fun v => ⟨[(0, .sl 1000000000 aaZ0 abZ0), (2, .i adZ0), (3, .i aeZ0), (4, .fn 91 []), (10, .i sZ1.1), (11, .i v)], [(1000000000, .arr 1 (sZ1.2.map AV.i))]⟩)) (s := oZ10) ?_ ?_
    · replace h := hoZ10
      obtain ⟨cZ3, h⟩ | ⟨cZ3, h⟩ := cond_s h
      · obtain ⟨kZ4, hkZ4, h⟩ := bind_s h
        obtain ⟨hkZ4a, hkZ4b⟩ := grd_s hkZ4
        obtain ⟨yZ5, hyZ5, h⟩ := bind_s h
        obtain ⟨kZ6, hkZ6, h⟩ := bind_s h
        obtain ⟨hkZ6a, hkZ6b⟩ := grd_s hkZ6
        obtain ⟨yZ7, hyZ7, h⟩ := bind_s h
        obtain ⟨rZ8, hrZ8, h⟩ := bind_s h
        refine ZF (ZA cZ2 (ZA cZ3 (ZA hkZ4a (ZA hkZ4b (ZA hyZ5 (ZA hkZ6a (ZA hkZ6b hyZ7))))))) ?_
        refine ZS (ZA cZ2 (ZA cZ3 (ZA hkZ4a (ZA hkZ4b (ZA hyZ5 (ZA hkZ6a (ZA hkZ6b hyZ7))))))) (w_impl_FewestUnits_c1 _ _ hrZ8) ?_
        refine ZG ?_
        try refine ZF (ZA cZ2 (ZA cZ3 (ZA hkZ4a (ZA hkZ4b (ZA hyZ5 (ZA hkZ6a (ZA hkZ6b hyZ7))))))) ?_
        simp only [ZC, A130M2R1]
        obtain ⟨cZ9, h⟩ | ⟨cZ9, h⟩ := cond_s h
        · cases h
          exact ZL (ZA cZ2 (ZA cZ3 (ZA hkZ4a (ZA hkZ4b (ZA hyZ5 (ZA hkZ6a (ZA hkZ6b (ZA hyZ7 cZ9)))))))) trivial
        · cases h
          exact ZL (ZA cZ2 (ZA cZ3 (ZA hkZ4a (ZA hkZ4b (ZA hyZ5 (ZA hkZ6a (ZA hkZ6b (ZA hyZ7 cZ9)))))))) trivial
      · try refine ZF (ZA cZ2 cZ3) ?_
        simp only [ZC, A130M2R1]
        cases h
        exact ZL (ZA cZ2 cZ3) trivial
    · simp only [ZC, A130M2R2]
      obtain ⟨kZ11, hkZ11, h⟩ := bind_s h
      obtain ⟨hkZ11a, hkZ11b⟩ := grd_s hkZ11
      obtain ⟨yZ12, hyZ12, h⟩ := bind_s h
      obtain ⟨kZ13, hkZ13, h⟩ := bind_s h
      obtain ⟨hkZ13a, hkZ13b⟩ := grd_s hkZ13
      obtain ⟨yZ14, hyZ14, h⟩ := bind_s h
      obtain ⟨rZ15, hrZ15, h⟩ := bind_s h
      refine ZF (ZA cZ2 (ZA hkZ11a (ZA hkZ11b (ZA hyZ12 (ZA hkZ13a (ZA hkZ13b hyZ14)))))) ?_
      refine ZS (ZA cZ2 (ZA hkZ11a (ZA hkZ11b (ZA hyZ12 (ZA hkZ13a (ZA hkZ13b hyZ14)))))) (w_impl_FewestUnits_c1 _ _ hrZ15) ?_
      refine ZG ?_
      obtain ⟨cZ16, h⟩ | ⟨cZ16, h⟩ := cond_s h
      · cases h
        exact ZL (ZA cZ2 (ZA hkZ11a (ZA hkZ11b (ZA hyZ12 (ZA hkZ13a (ZA hkZ13b (ZA hyZ14 cZ16))))))) V130M2.eq_1
      · obtain ⟨lZ17, hlZ17, h⟩ := bnd_s h
        have eZ18 : (sZ1.2.map AV.i).set (aaZ0 + (Int.toNat (IntKind.wrap .i64 (aeZ0 + sZ1.1)))) (.i yZ14) = lZ17.map AV.i := by rw [← hlZ17, List.map_set]
        obtain ⟨yZ19, hyZ19, h⟩ := bind_s h
        obtain ⟨lZ20, hlZ20, h⟩ := bnd_s h
        have eZ21 : (lZ17.map AV.i).set (aaZ0 + (Int.toNat (IntKind.wrap .i64 (aeZ0 + oZ10)))) (.i yZ12) = lZ20.map AV.i := by rw [← hlZ20, List.map_set]
        cases h
        exact ZL (ZA cZ2 (ZA hkZ11a (ZA hkZ11b (ZA hyZ12 (ZA hkZ13a (ZA hkZ13b (ZA hyZ14 (ZA cZ16 (ZA eZ18 (ZA hyZ19 eZ21)))))))))) (ZA S_slices_siftDownCmpFunc_intM2L1.eq_1 (ZA SX_slices_siftDownCmpFunc_intM2L1.eq_1 (ZA hlZ17.symm hlZ20.symm)))
theorem w_slices_siftDownCmpFunc_intM2 (aaZ0 : Nat) (abZ0 : Nat) (acZ0 : Int) (adZ0 : Int) (aeZ0 : Int) (afZ0 : List Int) {r : List Int} (h : M_slices_siftDownCmpFunc_intM2 aaZ0 abZ0 acZ0 adZ0 aeZ0 afZ0 = some r) : OkM Try.prog 130 [.sl 1000000000 aaZ0 abZ0, .i acZ0, .i adZ0, .i aeZ0, .fn 91 []] [(1000000000, .arr 1 (afZ0.map AV.i))] ((fun (r : List Int) => .tup []) r) ((fun (r : List Int) => [(1000000000, .arr 1 (r.map AV.i))]) r) := by
  refine okM_of_body (lr := [1000000000]) hmix m130M2 rfl rfl ?_
  unfold M_slices_siftDownCmpFunc_intM2 at h
  simp only [ZC, A130M2, V130M2]
  obtain ⟨oZ22, hoZ22, h⟩ := bind_s h
  try refine ZF trivial ?_
  first | refine tail_rule (o := oZ22) (blk_rule sideM (loop_rule (w_slices_siftDownCmpFunc_intM2L1 aaZ0 abZ0 adZ0 aeZ0) hoZ22 ?_)) (fun vZ23 hv τ qZ25 => ?_) (fun xZ24 hv e τ hne hq => ?_) | refine tail_blk (o := oZ22) sideM (loop_rule (w_slices_siftDownCmpFunc_intM2L1 aaZ0 abZ0 adZ0 aeZ0) hoZ22 ?_) (fun vZ23 hv τ qZ25 => ?_) (fun xZ24 hv e τ hne hq => ?_)
  · exact ZK (ZA S_slices_siftDownCmpFunc_intM2L1.eq_1 SX_slices_siftDownCmpFunc_intM2L1.eq_1)
  · subst hv
    simp only [] at h
    cases h
    refine finM_shp qZ25 (by decide) ?_ rfl
    exact ZK (ZA V130M2.eq_1 SX_slices_siftDownCmpFunc_intM2L1.eq_1)
  · subst hv
    simp only [] at h
    obtain ⟨rfl, qZ26⟩ := hq
    cases h
    exact qZ26
def S_slices_heapSortCmpFunc_intM1L1 (aaZ0 : Int) (abZ0 : Int) (v : Nat × Int × List Int) : St := ⟨[(0, .sl 1000000000 0 v.1), (3, .fn 91 []), (8, .i aaZ0), (9, .i 0), (10, .i (IntKind.wrap .i64 (abZ0 - aaZ0))), (11, .i v.2.1)], [(1000000000, .arr 1 (v.2.2.map AV.i))]⟩
def SX_slices_heapSortCmpFunc_intM1L1 (aaZ0 : Int) (abZ0 : Int) (v : Nat × List Int) : St := ⟨[(0, .sl 1000000000 0 v.1), (3, .fn 91 []), (8, .i aaZ0), (9, .i 0), (10, .i (IntKind.wrap .i64 (abZ0 - aaZ0)))], [(1000000000, .arr 1 (v.2.map AV.i))]⟩
theorem w_slices_heapSortCmpFunc_intM1L1 (aaZ0 : Int) (abZ0 : Int) (sZ2 : Nat × Int × List Int) (o : (Nat × Int × List Int) ⊕ (Nat × List Int)) (h : M_slices_heapSortCmpFunc_intM1L1 aaZ0 abZ0 sZ2 = some o) : AWP (OkS Try.prog) A118M1L1 (qL [0, 3, 8, 9, 10, 11] [1000000000] (S_slices_heapSortCmpFunc_intM1L1 aaZ0 abZ0) (qX 0 [0, 3, 8, 9, 10] [1000000000] (SX_slices_heapSortCmpFunc_intM1L1 aaZ0 abZ0)) o) (S_slices_heapSortCmpFunc_intM1L1 aaZ0 abZ0 sZ2) := by
  unfold M_slices_heapSortCmpFunc_intM1L1 at h
  simp only [ZC, S_slices_heapSortCmpFunc_intM1L1, A118M1L1]
  obtain ⟨cZ3, h⟩ | ⟨cZ3, h⟩ := cond_s h
  · obtain ⟨rZ4, hrZ4, h⟩ := bind_s h
    refine ZF cZ3 ?_
    refine ZW cZ3 (w_slices_siftDownCmpFunc_intM2 _ _ _ _ _ _ hrZ4) (h2 := by first | exact nm_ok [1000000000] rfl (by decide +kernel) | exact nm_ok2 [1000000000] [] rfl (by decide +kernel) ZQ | exact ZQ) (hk := ?_)
    refine ZG ?_
    cases h
    exact ZL cZ3 (ZA S_slices_heapSortCmpFunc_intM1L1.eq_1 SX_slices_heapSortCmpFunc_intM1L1.eq_1)
  · cases h
    exact ZL cZ3 (ZA S_slices_heapSortCmpFunc_intM1L1.eq_1 SX_slices_heapSortCmpFunc_intM1L1.eq_1)
def S_slices_heapSortCmpFunc_intM1L2 (aaZ0 : Int) (oZ5 : Nat × List Int) (v : Int × List Int) : St := ⟨[(0, .sl 1000000000 0 oZ5.1), (3, .fn 91 []), (8, .i aaZ0), (9, .i 0), (12, .i v.1)], [(1000000000, .arr 1 (v.2.map AV.i))]⟩
def SX_slices_heapSortCmpFunc_intM1L2 (v : List Int) : St := ⟨[], [(1000000000, .arr 1 (v.map AV.i))]⟩
theorem w_slices_heapSortCmpFunc_intM1L2 (aaZ0 : Int) (oZ5 : Nat × List Int) (sZ6 : Int × List Int) (o : (Int × List Int) ⊕ (List Int)) (h : M_slices_heapSortCmpFunc_intM1L2 aaZ0 oZ5 sZ6 = some o) : AWP (OkS Try.prog) A118M1L3 (qL [0, 3, 8, 9, 12] [1000000000] (S_slices_heapSortCmpFunc_intM1L2 aaZ0 oZ5) (qX 2 [] [1000000000] (SX_slices_heapSortCmpFunc_intM1L2)) o) (S_slices_heapSortCmpFunc_intM1L2 aaZ0 oZ5 sZ6) := by
  unfold M_slices_heapSortCmpFunc_intM1L2 at h
  simp only [ZC, S_slices_heapSortCmpFunc_intM1L2, A118M1L3]
  obtain ⟨cZ7, h⟩ | ⟨cZ7, h⟩ := cond_s h
  · obtain ⟨kZ8, hkZ8, h⟩ := bind_s h
    obtain ⟨hkZ8a, hkZ8b⟩ := grd_s hkZ8
    obtain ⟨yZ9, hyZ9, h⟩ := bind_s h
    obtain ⟨kZ10, hkZ10, h⟩ := bind_s h
    obtain ⟨hkZ10a, hkZ10b⟩ := grd_s hkZ10
    obtain ⟨yZ11, hyZ11, h⟩ := bind_s h
    obtain ⟨lZ12, hlZ12, h⟩ := bnd_s h
    have eZ13 : (sZ6.2.map AV.i).set (Int.toNat aaZ0) (.i yZ9) = lZ12.map AV.i := by rw [← hlZ12, List.map_set]
    obtain ⟨yZ14, hyZ14, h⟩ := bind_s h
    obtain ⟨lZ15, hlZ15, h⟩ := bnd_s h
    have eZ16 : (lZ12.map AV.i).set (Int.toNat (IntKind.wrap .i64 (aaZ0 + sZ6.1))) (.i yZ11) = lZ15.map AV.i := by rw [← hlZ15, List.map_set]
    obtain ⟨rZ17, hrZ17, h⟩ := bind_s h
    refine ZF (ZA cZ7 (ZA hkZ8a (ZA hkZ8b (ZA hyZ9 (ZA hkZ10a (ZA hkZ10b (ZA hyZ11 (ZA eZ13 (ZA hyZ14 eZ16))))))))) ?_
    refine ZW (ZA cZ7 (ZA hkZ8a (ZA hkZ8b (ZA hyZ9 (ZA hkZ10a (ZA hkZ10b (ZA hyZ11 (ZA eZ13 (ZA hyZ14 eZ16))))))))) (w_slices_siftDownCmpFunc_intM2 _ _ _ _ _ _ hrZ17) (h2 := by first | exact nm_ok [1000000000] rfl (by decide +kernel) | exact nm_ok2 [1000000000] [] rfl (by decide +kernel) ZQ | exact ZQ) (hk := ?_)
    refine ZG ?_
    cases h
    exact ZL (ZA cZ7 (ZA hkZ8a (ZA hkZ8b (ZA hyZ9 (ZA hkZ10a (ZA hkZ10b (ZA hyZ11 (ZA eZ13 (ZA hyZ14 eZ16))))))))) (ZA S_slices_heapSortCmpFunc_intM1L2.eq_1 (ZA SX_slices_heapSortCmpFunc_intM1L2.eq_1 (ZA hlZ12.symm hlZ15.symm)))
  · cases h
    exact ZL cZ7 (ZA S_slices_heapSortCmpFunc_intM1L2.eq_1 SX_slices_heapSortCmpFunc_intM1L2.eq_1)
theorem w_slices_heapSortCmpFunc_intM1 (aaZ0 : Int) (abZ0 : Int) (acZ0 : List Int) {r : List Int} (h : M_slices_heapSortCmpFunc_intM1 aaZ0 abZ0 acZ0 = some r) : OkM Try.prog 118 [.sl 1000000000 0 acZ0.length, .i aaZ0, .i abZ0, .fn 91 []] [(1000000000, .arr 1 (acZ0.map AV.i))] ((fun (r : List Int) => .tup []) r) ((fun (r : List Int) => [(1000000000, .arr 1 (r.map AV.i))]) r) := by
  refine okM_of_body (lr := [1000000000]) hmix m118M1 rfl rfl ?_
  unfold M_slices_heapSortCmpFunc_intM1 at h
  simp only [ZC, A118M1, V118M1]
  obtain ⟨uZ1, huZ1, h⟩ := bind_s h
  have huZ1g := grd_s huZ1
  obtain ⟨oZ5, hoZ5, h⟩ := bind_s h
  try refine ZF huZ1g ?_
  refine join_rule0 (blk_rule0 (loop_rule (w_slices_heapSortCmpFunc_intM1L1 aaZ0 abZ0) hoZ5 ?_)) ?_
  · exact ZK (ZA S_slices_heapSortCmpFunc_intM1L1.eq_1 SX_slices_heapSortCmpFunc_intM1L1.eq_1)
  · simp only [ZC, SX_slices_heapSortCmpFunc_intM1L1, A118M1R2]
    obtain ⟨oZ18, hoZ18, h⟩ := bind_s h
    try refine ZF huZ1g ?_
    first | refine tail_rule0 (blk_rule0 (loop_rule (w_slices_heapSortCmpFunc_intM1L2 aaZ0 oZ5) hoZ18 ?_)) (fun τ qZ19 => ?_) | refine tail_blk0 (loop_rule (w_slices_heapSortCmpFunc_intM1L2 aaZ0 oZ5) hoZ18 ?_) (fun τ qZ19 => ?_)
    · exact ZK (ZA S_slices_heapSortCmpFunc_intM1L2.eq_1 SX_slices_heapSortCmpFunc_intM1L2.eq_1)
    · cases h
      refine finM_shp qZ19 (by decide) ?_ rfl
      exact ZK (ZA V118M1.eq_1 SX_slices_heapSortCmpFunc_intM1L2.eq_1)
theorem w_slices_order2CmpFunc_intM1 (aaZ0 : Int) (abZ0 : Int) (acZ0 : List Int) (adZ0 : Int) {r : Int × Int × List Int × Int} (h : M_slices_order2CmpFunc_intM1 aaZ0 abZ0 acZ0 adZ0 = some r) : OkM Try.prog 136 [.sl 1000000000 0 acZ0.length, .i aaZ0, .i abZ0, .pt 1000000001 0 0, .fn 91 []] [(1000000000, .arr 1 (acZ0.map AV.i)), (1000000001, .var (.i adZ0))] ((fun (r : Int × Int × List Int × Int) => .tup [.i r.1, .i r.2.1]) r) ((fun (r : Int × Int × List Int × Int) => [(1000000000, .arr 1 (r.2.2.1.map AV.i)), (1000000001, .var (.i r.2.2.2))]) r) := by
  refine okM_of_body (lr := [1000000000, 1000000001]) hmix m136M1 rfl rfl ?_
  unfold M_slices_order2CmpFunc_intM1 at h
  simp only [ZC, A136M1, V136M1]
  obtain ⟨kZ1, hkZ1, h⟩ := bind_s h
  obtain ⟨hkZ1a, hkZ1b⟩ := grd_s hkZ1
  obtain ⟨yZ2, hyZ2, h⟩ := bind_s h
  obtain ⟨kZ3, hkZ3, h⟩ := bind_s h
  obtain ⟨hkZ3a, hkZ3b⟩ := grd_s hkZ3
  obtain ⟨yZ4, hyZ4, h⟩ := bind_s h
  obtain ⟨rZ5, hrZ5, h⟩ := bind_s h
  refine ZF (ZA hkZ1a (ZA hkZ1b (ZA hyZ2 (ZA hkZ3a (ZA hkZ3b hyZ4))))) ?_
  refine ZS (ZA hkZ1a (ZA hkZ1b (ZA hyZ2 (ZA hkZ3a (ZA hkZ3b hyZ4))))) (w_impl_FewestUnits_c1 _ _ hrZ5) ?_
  refine ZG ?_
  obtain ⟨cZ6, h⟩ | ⟨cZ6, h⟩ := cond_s h
  · cases h
    exact ZL (ZA hkZ1a (ZA hkZ1b (ZA hyZ2 (ZA hkZ3a (ZA hkZ3b (ZA hyZ4 cZ6)))))) V136M1.eq_1
  · cases h
    exact ZL (ZA hkZ1a (ZA hkZ1b (ZA hyZ2 (ZA hkZ3a (ZA hkZ3b (ZA hyZ4 cZ6)))))) V136M1.eq_1
theorem w_slices_order2CmpFunc_intM2 (aaZ0 : Nat) (abZ0 : Nat) (acZ0 : Int) (adZ0 : Int) (aeZ0 : List Int) (afZ0 : Int) {r : Int × Int × List Int × Int} (h : M_slices_order2CmpFunc_intM2 aaZ0 abZ0 acZ0 adZ0 aeZ0 afZ0 = some r) : OkM Try.prog 136 [.sl 1000000000 aaZ0 abZ0, .i acZ0, .i adZ0, .pt 1000000001 0 0, .fn 91 []] [(1000000000, .arr 1 (aeZ0.map AV.i)), (1000000001, .var (.i afZ0))] ((fun (r : Int × Int × List Int × Int) => .tup [.i r.1, .i r.2.1]) r) ((fun (r : Int × Int × List Int × Int) => [(1000000000, .arr 1 (r.2.2.1.map AV.i)), (1000000001, .var (.i r.2.2.2))]) r) := by
  refine okM_of_body (lr := [1000000000, 1000000001]) hmix m136M2 rfl rfl ?_
  unfold M_slices_order2CmpFunc_intM2 at h
  simp only [ZC, A136M2, V136M2]
  obtain ⟨kZ1, hkZ1, h⟩ := bind_s h
  obtain ⟨hkZ1a, hkZ1b⟩ := grd_s hkZ1
  obtain ⟨yZ2, hyZ2, h⟩ := bind_s h
  obtain ⟨kZ3, hkZ3, h⟩ := bind_s h
  obtain ⟨hkZ3a, hkZ3b⟩ := grd_s hkZ3
  obtain ⟨yZ4, hyZ4, h⟩ := bind_s h
  obtain ⟨rZ5, hrZ5, h⟩ := bind_s h
  refine ZF (ZA hkZ1a (ZA hkZ1b (ZA hyZ2 (ZA hkZ3a (ZA hkZ3b hyZ4))))) ?_
  refine ZS (ZA hkZ1a (ZA hkZ1b (ZA hyZ2 (ZA hkZ3a (ZA hkZ3b hyZ4))))) (w_impl_FewestUnits_c1 _ _ hrZ5) ?_
  refine ZG ?_
  obtain ⟨cZ6, h⟩ | ⟨cZ6, h⟩ := cond_s h
  · cases h
    exact ZL (ZA hkZ1a (ZA hkZ1b (ZA hyZ2 (ZA hkZ3a (ZA hkZ3b (ZA hyZ4 cZ6)))))) V136M2.eq_1
  · cases h
    exact ZL (ZA hkZ1a (ZA hkZ1b (ZA hyZ2 (ZA hkZ3a (ZA hkZ3b (ZA hyZ4 cZ6)))))) V136M2.eq_1
theorem w_slices_medianCmpFunc_intM1 (aaZ0 : Int) (abZ0 : Int) (acZ0 : Int) (adZ0 : List Int) (aeZ0 : Int) {r : Int × List Int × Int} (h : M_slices_medianCmpFunc_intM1 aaZ0 abZ0 acZ0 adZ0 aeZ0 = some r) : OkM Try.prog 134 [.sl 1000000000 0 adZ0.length, .i aaZ0, .i abZ0, .i acZ0, .pt 1000000001 0 0, .fn 91 []] [(1000000000, .arr 1 (adZ0.map AV.i)), (1000000001, .var (.i aeZ0))] ((fun (r : Int × List Int × Int) => .i r.1) r) ((fun (r : Int × List Int × Int) => [(1000000000, .arr 1 (r.2.1.map AV.i)), (1000000001, .var (.i r.2.2))]) r) := by
  refine okM_of_body (lr := [1000000000, 1000000001]) hmix m134M1 rfl rfl ?_
  unfold M_slices_medianCmpFunc_intM1 at h
  simp only [ZC, A134M1, V134M1]
  obtain ⟨rZ1, hrZ1, h⟩ := bind_s h
  refine ZF trivial ?_
  refine ZW trivial (w_slices_order2CmpFunc_intM1 _ _ _ _ hrZ1) (h2 := by first | exact nm_ok [1000000000, 1000000001] rfl (by decide +kernel) | exact nm_ok2 [1000000000, 1000000001] [] rfl (by decide +kernel) ZQ | exact ZQ) (hk := ?_)
  refine ZG ?_
  obtain ⟨rZ2, hrZ2, h⟩ := bind_s h
  refine ZF trivial ?_
  refine ZW trivial (w_slices_order2CmpFunc_intM2 _ _ _ _ _ _ hrZ2) (h2 := by first | exact nm_ok [1000000000, 1000000001] rfl (by decide +kernel) | exact nm_ok2 [1000000000, 1000000001] [] rfl (by decide +kernel) ZQ | exact ZQ) (hk := ?_)
  refine ZG ?_
  obtain ⟨rZ3, hrZ3, h⟩ := bind_s h
  refine ZF trivial ?_
  refine ZW trivial (w_slices_order2CmpFunc_intM2 _ _ _ _ _ _ hrZ3) (h2 := by first | exact nm_ok [1000000000, 1000000001] rfl (by decide +kernel) | exact nm_ok2 [1000000000, 1000000001] [] rfl (by decide +kernel) ZQ | exact ZQ) (hk := ?_)
  refine ZG ?_
  cases h
  exact ZL trivial V134M1.eq_1
theorem w_slices_medianAdjacentCmpFunc_intM1 (aaZ0 : Int) (abZ0 : List Int) (acZ0 : Int) {r : Int × List Int × Int} (h : M_slices_medianAdjacentCmpFunc_intM1 aaZ0 abZ0 acZ0 = some r) : OkM Try.prog 133 [.sl 1000000000 0 abZ0.length, .i aaZ0, .pt 1000000001 0 0, .fn 91 []] [(1000000000, .arr 1 (abZ0.map AV.i)), (1000000001, .var (.i acZ0))] ((fun (r : Int × List Int × Int) => .i r.1) r) ((fun (r : Int × List Int × Int) => [(1000000000, .arr 1 (r.2.1.map AV.i)), (1000000001, .var (.i r.2.2))]) r) := by
  refine okM_of_body (lr := [1000000000, 1000000001]) hmix m133M1 rfl rfl ?_
  unfold M_slices_medianAdjacentCmpFunc_intM1 at h
  simp only [ZC, A133M1, V133M1]
  obtain ⟨rZ1, hrZ1, h⟩ := bind_s h
  refine ZF trivial ?_
  refine ZW trivial (w_slices_medianCmpFunc_intM1 _ _ _ _ _ hrZ1) (h2 := by first | exact nm_ok [1000000000, 1000000001] rfl (by decide +kernel) | exact nm_ok2 [1000000000, 1000000001] [] rfl (by decide +kernel) ZQ | exact ZQ) (hk := ?_)
  refine ZG ?_
  cases h
  exact ZL trivial V133M1.eq_1
theorem w_slices_medianCmpFunc_intM2 (aaZ0 : Nat) (abZ0 : Nat) (acZ0 : Int) (adZ0 : Int) (aeZ0 : Int) (afZ0 : List Int) (agZ0 : Int) {r : Int × List Int × Int} (h : M_slices_medianCmpFunc_intM2 aaZ0 abZ0 acZ0 adZ0 aeZ0 afZ0 agZ0 = some r) : OkM Try.prog 134 [.sl 1000000000 aaZ0 abZ0, .i acZ0, .i adZ0, .i aeZ0, .pt 1000000001 0 0, .fn 91 []] [(1000000000, .arr 1 (afZ0.map AV.i)), (1000000001, .var (.i agZ0))] ((fun (r : Int × List Int × Int) => .i r.1) r) ((fun (r : Int × List Int × Int) => [(1000000000, .arr 1 (r.2.1.map AV.i)), (1000000001, .var (.i r.2.2))]) r) := by
  refine okM_of_body (lr := [1000000000, 1000000001]) hmix m134M2 rfl rfl ?_
  unfold M_slices_medianCmpFunc_intM2 at h
  simp only [ZC, A134M2, V134M2]
  obtain ⟨rZ1, hrZ1, h⟩ := bind_s h
  refine ZF trivial ?_
  refine ZW trivial (w_slices_order2CmpFunc_intM2 _ _ _ _ _ _ hrZ1) (h2 := by first | exact nm_ok [1000000000, 1000000001] rfl (by decide +kernel) | exact nm_ok2 [1000000000, 1000000001] [] rfl (by decide +kernel) ZQ | exact ZQ) (hk := ?_)
  refine ZG ?_
  obtain ⟨rZ2, hrZ2, h⟩ := bind_s h
  refine ZF trivial ?_
  refine ZW trivial (w_slices_order2CmpFunc_intM2 _ _ _ _ _ _ hrZ2) (h2 := by first | exact nm_ok [1000000000, 1000000001] rfl (by decide +kernel) | exact nm_ok2 [1000000000, 1000000001] [] rfl (by decide +kernel) ZQ | exact ZQ) (hk := ?_)
  refine ZG ?_
  obtain ⟨rZ3, hrZ3, h⟩ := bind_s h
  refine ZF trivial ?_
  refine ZW trivial (w_slices_order2CmpFunc_intM2 _ _ _ _ _ _ hrZ3) (h2 := by first | exact nm_ok [1000000000, 1000000001] rfl (by decide +kernel) | exact nm_ok2 [1000000000, 1000000001] [] rfl (by decide +kernel) ZQ | exact ZQ) (hk := ?_)
  refine ZG ?_
  cases h
  exact ZL trivial V134M2.eq_1
theorem w_slices_medianAdjacentCmpFunc_intM2 (aaZ0 : Nat) (abZ0 : Nat) (acZ0 : Int) (adZ0 : List Int) (aeZ0 : Int) {r : Int × List Int × Int} (h : M_slices_medianAdjacentCmpFunc_intM2 aaZ0 abZ0 acZ0 adZ0 aeZ0 = some r) : OkM Try.prog 133 [.sl 1000000000 aaZ0 abZ0, .i acZ0, .pt 1000000001 0 0, .fn 91 []] [(1000000000, .arr 1 (adZ0.map AV.i)), (1000000001, .var (.i aeZ0))] ((fun (r : Int × List Int × Int) => .i r.1) r) ((fun (r : Int × List Int × Int) => [(1000000000, .arr 1 (r.2.1.map AV.i)), (1000000001, .var (.i r.2.2))]) r) := by
  refine okM_of_body (lr := [1000000000, 1000000001]) hmix m133M2 rfl rfl ?_
  unfold M_slices_medianAdjacentCmpFunc_intM2 at h
  simp only [ZC, A133M2, V133M2]
  obtain ⟨rZ1, hrZ1, h⟩ := bind_s h
  refine ZF trivial ?_
  refine ZW trivial (w_slices_medianCmpFunc_intM2 _ _ _ _ _ _ _ hrZ1) (h2 := by first | exact nm_ok [1000000000, 1000000001] rfl (by decide +kernel) | exact nm_ok2 [1000000000, 1000000001] [] rfl (by decide +kernel) ZQ | exact ZQ) (hk := ?_)
  refine ZG ?_
  cases h
  exact ZL trivial V133M2.eq_1
theorem w_slices_choosePivotCmpFunc_intM1 (aaZ0 : Int) (abZ0 : Int) (acZ0 : List Int) {r : Int × Int × List Int} (h : M_slices_choosePivotCmpFunc_intM1 aaZ0 abZ0 acZ0 = some r) : OkM Try.prog 120 [.sl 1000000000 0 acZ0.length, .i aaZ0, .i abZ0, .fn 91 []] [(1000000000, .arr 1 (acZ0.map AV.i))] ((fun (r : Int × Int × List Int) => .tup [.i r.1, .i r.2.1]) r) ((fun (r : Int × Int × List Int) => [(1000000000, .arr 1 (r.2.2.map AV.i))]) r) := by
  refine okM_of_body (lr := [1000000000]) hmix m120M1 rfl rfl ?_
  unfold M_slices_choosePivotCmpFunc_intM1 at h
  simp only [ZC, A120M1, V120M1]
  obtain ⟨uZ1, huZ1, h⟩ := bind_s h
  have huZ1g := grd_s huZ1
  obtain ⟨uZ2, huZ2, h⟩ := bind_s h
  have huZ2g := grd_s huZ2
  obtain ⟨uZ3, huZ3, h⟩ := bind_s h
  have huZ3g := grd_s huZ3
  obtain ⟨oZ11, hoZ11, h⟩ := bind_s h
  try refine ZF (ZA huZ1g (ZA huZ2g huZ3g)) ?_
  refine join_rule0 (sh := (fun v => ⟨[(11, .pt 11 0 0), (13, .i v.1)], [(11, .var (.i v.2.1)), (1000000000, .arr 1 (v.2.2.map AV.i))]⟩)) (s := oZ11) ?_ ?_
  · replace h := hoZ11
    obtain ⟨cZ4, h⟩ | ⟨cZ4, h⟩ := cond_s h
    · obtain ⟨oZ9, hoZ9, h⟩ := bind_s h
      try refine ZF (ZA huZ1g (ZA huZ2g (ZA huZ3g cZ4))) ?_
      refine join_rule0 (sh := (fun v => ⟨[(0, .sl 1000000000 0 acZ0.length), (3, .fn 91 []), (11, .pt 11 0 0), (12, .i v.1), (13, .i v.2.1), (14, .i v.2.2.1)], [(11, .var (.i v.2.2.2.1)), (1000000000, .arr 1 (v.2.2.2.2.map AV.i))]⟩)) (s := oZ9) ?_ ?_
      · replace h := hoZ9
        obtain ⟨cZ5, h⟩ | ⟨cZ5, h⟩ := cond_s h
        · obtain ⟨rZ6, hrZ6, h⟩ := bind_s h
          refine ZF (ZA huZ1g (ZA huZ2g (ZA huZ3g (ZA cZ4 cZ5)))) ?_
          refine ZW (ZA huZ1g (ZA huZ2g (ZA huZ3g (ZA cZ4 cZ5)))) (w_slices_medianAdjacentCmpFunc_intM1 _ _ _ hrZ6) (h2 := by first | exact nm_ok [1000000000, 1000000001] rfl (by decide +kernel) | exact nm_ok2 [1000000000, 1000000001] [] rfl (by decide +kernel) ZQ | exact ZQ) (hk := ?_)
          refine ZG ?_
          obtain ⟨rZ7, hrZ7, h⟩ := bind_s h
          refine ZF (ZA huZ1g (ZA huZ2g (ZA huZ3g (ZA cZ4 cZ5)))) ?_
          refine ZW (ZA huZ1g (ZA huZ2g (ZA huZ3g (ZA cZ4 cZ5)))) (w_slices_medianAdjacentCmpFunc_intM2 _ _ _ _ _ hrZ7) (h2 := by first | exact nm_ok [1000000000, 1000000001] rfl (by decide +kernel) | exact nm_ok2 [1000000000, 1000000001] [] rfl (by decide +kernel) ZQ | exact ZQ) (hk := ?_)
          refine ZG ?_
          obtain ⟨rZ8, hrZ8, h⟩ := bind_s h
          refine ZF (ZA huZ1g (ZA huZ2g (ZA huZ3g (ZA cZ4 cZ5)))) ?_
          refine ZW (ZA huZ1g (ZA huZ2g (ZA huZ3g (ZA cZ4 cZ5)))) (w_slices_medianAdjacentCmpFunc_intM2 _ _ _ _ _ hrZ8) (h2 := by first | exact nm_ok [1000000000, 1000000001] rfl (by decide +kernel) | exact nm_ok2 [1000000000, 1000000001] [] rfl (by decide +kernel) ZQ | exact ZQ) (hk := ?_)
          refine ZG ?_
          cases h
          exact ZL (ZA huZ1g (ZA huZ2g (ZA huZ3g (ZA cZ4 cZ5)))) trivial
        · cases h
          exact ZL (ZA huZ1g (ZA huZ2g (ZA huZ3g (ZA cZ4 cZ5)))) trivial
      · simp only [ZC, A120M1R1]
        obtain ⟨rZ10, hrZ10, h⟩ := bind_s h
        refine ZF (ZA huZ1g (ZA huZ2g (ZA huZ3g cZ4))) ?_
        refine ZW (ZA huZ1g (ZA huZ2g (ZA huZ3g cZ4))) (w_slices_medianCmpFunc_intM2 _ _ _ _ _ _ _ hrZ10) (h2 := by first | exact nm_ok [1000000000, 1000000001] rfl (by decide +kernel) | exact nm_ok2 [1000000000, 1000000001] [] rfl (by decide +kernel) ZQ | exact ZQ) (hk := ?_)
        refine ZG ?_
        cases h
        exact ZL (ZA huZ1g (ZA huZ2g (ZA huZ3g cZ4))) trivial
    · cases h
      exact ZL (ZA huZ1g (ZA huZ2g (ZA huZ3g cZ4))) trivial
  · simp only [ZC, A120M1R2]
    obtain ⟨cZ12, h⟩ | ⟨cZ12, h⟩ := cond_s h
    · cases h
      exact ZL (ZA huZ1g (ZA huZ2g (ZA huZ3g cZ12))) V120M1.eq_1
    · obtain ⟨cZ13, h⟩ | ⟨cZ13, h⟩ := cond_s h
      · cases h
        exact ZL (ZA huZ1g (ZA huZ2g (ZA huZ3g (ZA cZ12 cZ13)))) V120M1.eq_1
      · cases h
        exact ZL (ZA huZ1g (ZA huZ2g (ZA huZ3g (ZA cZ12 cZ13)))) V120M1.eq_1
def S_slices_reverseRangeCmpFunc_intM1L1 (aaZ0 : Nat) (abZ0 : Nat) (v : Int × Int × List Int) : St := ⟨[(0, .sl 1000000000 aaZ0 abZ0), (8, .i v.1), (9, .i v.2.1)], [(1000000000, .arr 1 (v.2.2.map AV.i))]⟩
def SX_slices_reverseRangeCmpFunc_intM1L1 (v : List Int) : St := ⟨[], [(1000000000, .arr 1 (v.map AV.i))]⟩
theorem w_slices_reverseRangeCmpFunc_intM1L1 (aaZ0 : Nat) (abZ0 : Nat) (sZ1 : Int × Int × List Int) (o : (Int × Int × List Int) ⊕ (List Int)) (h : M_slices_reverseRangeCmpFunc_intM1L1 aaZ0 abZ0 sZ1 = some o) : AWP (OkS Try.prog) A121M1L1 (qL [0, 8, 9] [1000000000] (S_slices_reverseRangeCmpFunc_intM1L1 aaZ0 abZ0) (qX 0 [] [1000000000] (SX_slices_reverseRangeCmpFunc_intM1L1)) o) (S_slices_reverseRangeCmpFunc_intM1L1 aaZ0 abZ0 sZ1) := by
  unfold M_slices_reverseRangeCmpFunc_intM1L1 at h
  simp only [ZC, S_slices_reverseRangeCmpFunc_intM1L1, A121M1L1]
  obtain ⟨cZ2, h⟩ | ⟨cZ2, h⟩ := cond_s h
  · obtain ⟨kZ3, hkZ3, h⟩ := bind_s h
    obtain ⟨hkZ3a, hkZ3b⟩ := grd_s hkZ3
    obtain ⟨yZ4, hyZ4, h⟩ := bind_s h
    obtain ⟨kZ5, hkZ5, h⟩ := bind_s h
    obtain ⟨hkZ5a, hkZ5b⟩ := grd_s hkZ5
    obtain ⟨yZ6, hyZ6, h⟩ := bind_s h
    obtain ⟨lZ7, hlZ7, h⟩ := bnd_s h
    have eZ8 : (sZ1.2.2.map AV.i).set (aaZ0 + (Int.toNat sZ1.1)) (.i yZ4) = lZ7.map AV.i := by rw [← hlZ7, List.map_set]
    obtain ⟨yZ9, hyZ9, h⟩ := bind_s h
    obtain ⟨lZ10, hlZ10, h⟩ := bnd_s h
    have eZ11 : (lZ7.map AV.i).set (aaZ0 + (Int.toNat sZ1.2.1)) (.i yZ6) = lZ10.map AV.i := by rw [← hlZ10, List.map_set]
    cases h
    exact ZL (ZA cZ2 (ZA hkZ3a (ZA hkZ3b (ZA hyZ4 (ZA hkZ5a (ZA hkZ5b (ZA hyZ6 (ZA eZ8 (ZA hyZ9 eZ11))))))))) (ZA S_slices_reverseRangeCmpFunc_intM1L1.eq_1 (ZA SX_slices_reverseRangeCmpFunc_intM1L1.eq_1 (ZA hlZ7.symm hlZ10.symm)))
  · cases h
    exact ZL cZ2 (ZA S_slices_reverseRangeCmpFunc_intM1L1.eq_1 SX_slices_reverseRangeCmpFunc_intM1L1.eq_1)
theorem w_slices_reverseRangeCmpFunc_intM1 (aaZ0 : Nat) (abZ0 : Nat) (acZ0 : Int) (adZ0 : Int) (aeZ0 : List Int) {r : List Int} (h : M_slices_reverseRangeCmpFunc_intM1 aaZ0 abZ0 acZ0 adZ0 aeZ0 = some r) : OkM Try.prog 121 [.sl 1000000000 aaZ0 abZ0, .i acZ0, .i adZ0, .fn 91 []] [(1000000000, .arr 1 (aeZ0.map AV.i))] ((fun (r : List Int) => .tup []) r) ((fun (r : List Int) => [(1000000000, .arr 1 (r.map AV.i))]) r) := by
  refine okM_of_body (lr := [1000000000]) hmix m121M1 rfl rfl ?_
  unfold M_slices_reverseRangeCmpFunc_intM1 at h
  simp only [ZC, A121M1, V121M1]
  obtain ⟨oZ12, hoZ12, h⟩ := bind_s h
  try refine ZF trivial ?_
  first | refine tail_rule0 (blk_rule0 (loop_rule (w_slices_reverseRangeCmpFunc_intM1L1 aaZ0 abZ0) hoZ12 ?_)) (fun τ qZ13 => ?_) | refine tail_blk0 (loop_rule (w_slices_reverseRangeCmpFunc_intM1L1 aaZ0 abZ0) hoZ12 ?_) (fun τ qZ13 => ?_)
  · exact ZK (ZA S_slices_reverseRangeCmpFunc_intM1L1.eq_1 SX_slices_reverseRangeCmpFunc_intM1L1.eq_1)
  · cases h
    refine finM_shp qZ13 (by decide) ?_ rfl
    exact ZK (ZA V121M1.eq_1 SX_slices_reverseRangeCmpFunc_intM1L1.eq_1)
def S_slices_partialInsertionSortCmpFunc_intM1L2 (aaZ0 : Nat) (abZ0 : Nat) (acZ0 : Int) (adZ0 : Int) (sZ1 : Int × Int × List Int) (v : Int) : St := ⟨[(0, .sl 1000000000 aaZ0 abZ0), (1, .i acZ0), (2, .i adZ0), (3, .fn 91 []), (9, .i v), (10, .i sZ1.2.1)], [(1000000000, .arr 1 (sZ1.2.2.map AV.i))]⟩
def SX_slices_partialInsertionSortCmpFunc_intM1L2 (aaZ0 : Nat) (abZ0 : Nat) (acZ0 : Int) (adZ0 : Int) (sZ1 : Int × Int × List Int) (v : Int) : St := ⟨[(0, .sl 1000000000 aaZ0 abZ0), (1, .i acZ0), (2, .i adZ0), (3, .fn 91 []), (9, .i v), (10, .i sZ1.2.1)], [(1000000000, .arr 1 (sZ1.2.2.map AV.i))]⟩
theorem w_slices_partialInsertionSortCmpFunc_intM1L2 (aaZ0 : Nat) (abZ0 : Nat) (acZ0 : Int) (adZ0 : Int) (sZ1 : Int × Int × List Int) (sZ3 : Int) (o : Int ⊕ Int) (h : M_slices_partialInsertionSortCmpFunc_intM1L2 aaZ0 abZ0 adZ0 sZ1 sZ3 = some o) : AWP (OkS Try.prog) A122M1L1 (qL [0, 1, 2, 3, 9, 10] [1000000000] (S_slices_partialInsertionSortCmpFunc_intM1L2 aaZ0 abZ0 acZ0 adZ0 sZ1) (qX 2 [0, 1, 2, 3, 9, 10] [1000000000] (SX_slices_partialInsertionSortCmpFunc_intM1L2 aaZ0 abZ0 acZ0 adZ0 sZ1)) o) (S_slices_partialInsertionSortCmpFunc_intM1L2 aaZ0 abZ0 acZ0 adZ0 sZ1 sZ3) := by
  unfold M_slices_partialInsertionSortCmpFunc_intM1L2 at h
  simp only [ZC, S_slices_partialInsertionSortCmpFunc_intM1L2, A122M1L1]
  obtain ⟨cZ4, h⟩ | ⟨cZ4, h⟩ := cond_s h
  · obtain ⟨kZ5, hkZ5, h⟩ := bind_s h
    obtain ⟨hkZ5a, hkZ5b⟩ := grd_s hkZ5
    obtain ⟨yZ6, hyZ6, h⟩ := bind_s h
    obtain ⟨kZ7, hkZ7, h⟩ := bind_s h
    obtain ⟨hkZ7a, hkZ7b⟩ := grd_s hkZ7
    obtain ⟨yZ8, hyZ8, h⟩ := bind_s h
    obtain ⟨rZ9, hrZ9, h⟩ := bind_s h
    refine ZF (ZA cZ4 (ZA hkZ5a (ZA hkZ5b (ZA hyZ6 (ZA hkZ7a (ZA hkZ7b hyZ8)))))) ?_
    refine ZS (ZA cZ4 (ZA hkZ5a (ZA hkZ5b (ZA hyZ6 (ZA hkZ7a (ZA hkZ7b hyZ8)))))) (w_impl_FewestUnits_c1 _ _ hrZ9) ?_
    refine ZG ?_
    obtain ⟨cZ10, h⟩ | ⟨cZ10, h⟩ := cond_s h
    · cases h
      exact ZL (ZA cZ4 (ZA hkZ5a (ZA hkZ5b (ZA hyZ6 (ZA hkZ7a (ZA hkZ7b (ZA hyZ8 cZ10))))))) (ZA S_slices_partialInsertionSortCmpFunc_intM1L2.eq_1 SX_slices_partialInsertionSortCmpFunc_intM1L2.eq_1)
    · cases h
      exact ZL (ZA cZ4 (ZA hkZ5a (ZA hkZ5b (ZA hyZ6 (ZA hkZ7a (ZA hkZ7b (ZA hyZ8 cZ10))))))) (ZA S_slices_partialInsertionSortCmpFunc_intM1L2.eq_1 SX_slices_partialInsertionSortCmpFunc_intM1L2.eq_1)
  · cases h
    exact ZL cZ4 (ZA S_slices_partialInsertionSortCmpFunc_intM1L2.eq_1 SX_slices_partialInsertionSortCmpFunc_intM1L2.eq_1)
def S_slices_partialInsertionSortCmpFunc_intM1L3 (aaZ0 : Nat) (abZ0 : Nat) (acZ0 : Int) (adZ0 : Int) (sZ1 : Int × Int × List Int) (oZ11 : Int) (v : Int × List Int) : St := ⟨[(0, .sl 1000000000 aaZ0 abZ0), (1, .i acZ0), (2, .i adZ0), (3, .fn 91 []), (9, .i oZ11), (10, .i sZ1.2.1), (11, .i v.1)], [(1000000000, .arr 1 (v.2.map AV.i))]⟩
def SX_slices_partialInsertionSortCmpFunc_intM1L3 (aaZ0 : Nat) (abZ0 : Nat) (acZ0 : Int) (adZ0 : Int) (sZ1 : Int × Int × List Int) (oZ11 : Int) (v : List Int) : St := ⟨[(0, .sl 1000000000 aaZ0 abZ0), (1, .i acZ0), (2, .i adZ0), (3, .fn 91 []), (9, .i oZ11), (10, .i sZ1.2.1)], [(1000000000, .arr 1 (v.map AV.i))]⟩
theorem w_slices_partialInsertionSortCmpFunc_intM1L3 (aaZ0 : Nat) (abZ0 : Nat) (acZ0 : Int) (adZ0 : Int) (sZ1 : Int × Int × List Int) (oZ11 : Int) (sZ24 : Int × List Int) (o : (Int × List Int) ⊕ (List Int)) (h : M_slices_partialInsertionSortCmpFunc_intM1L3 aaZ0 abZ0 sZ24 = some o) : AWP (OkS Try.prog) A122M1L3 (qL [0, 1, 2, 3, 9, 10, 11] [1000000000] (S_slices_partialInsertionSortCmpFunc_intM1L3 aaZ0 abZ0 acZ0 adZ0 sZ1 oZ11) (qX 4 [0, 1, 2, 3, 9, 10] [1000000000] (SX_slices_partialInsertionSortCmpFunc_intM1L3 aaZ0 abZ0 acZ0 adZ0 sZ1 oZ11)) o) (S_slices_partialInsertionSortCmpFunc_intM1L3 aaZ0 abZ0 acZ0 adZ0 sZ1 oZ11 sZ24) := by
  unfold M_slices_partialInsertionSortCmpFunc_intM1L3 at h
  simp only [ZC, S_slices_partialInsertionSortCmpFunc_intM1L3, A122M1L3]
  obtain ⟨cZ25, h⟩ | ⟨cZ25, h⟩ := cond_s h
  · obtain ⟨kZ26, hkZ26, h⟩ := bind_s h
    obtain ⟨hkZ26a, hkZ26b⟩ := grd_s hkZ26
    obtain ⟨yZ27, hyZ27, h⟩ := bind_s h
    obtain ⟨kZ28, hkZ28, h⟩ := bind_s h
    obtain ⟨hkZ28a, hkZ28b⟩ := grd_s hkZ28
    obtain ⟨yZ29, hyZ29, h⟩ := bind_s h
    obtain ⟨rZ30, hrZ30, h⟩ := bind_s h
    refine ZF (ZA cZ25 (ZA hkZ26a (ZA hkZ26b (ZA hyZ27 (ZA hkZ28a (ZA hkZ28b hyZ29)))))) ?_
    refine ZS (ZA cZ25 (ZA hkZ26a (ZA hkZ26b (ZA hyZ27 (ZA hkZ28a (ZA hkZ28b hyZ29)))))) (w_impl_FewestUnits_c1 _ _ hrZ30) ?_
    refine ZG ?_
    obtain ⟨cZ31, h⟩ | ⟨cZ31, h⟩ := cond_s h
    · cases h
      exact ZL (ZA cZ25 (ZA hkZ26a (ZA hkZ26b (ZA hyZ27 (ZA hkZ28a (ZA hkZ28b (ZA hyZ29 cZ31))))))) (ZA S_slices_partialInsertionSortCmpFunc_intM1L3.eq_1 SX_slices_partialInsertionSortCmpFunc_intM1L3.eq_1)
    · obtain ⟨lZ32, hlZ32, h⟩ := bnd_s h
      have eZ33 : (sZ24.2.map AV.i).set (aaZ0 + (Int.toNat sZ24.1)) (.i yZ29) = lZ32.map AV.i := by rw [← hlZ32, List.map_set]
      obtain ⟨yZ34, hyZ34, h⟩ := bind_s h
      obtain ⟨lZ35, hlZ35, h⟩ := bnd_s h
      have eZ36 : (lZ32.map AV.i).set (aaZ0 + (Int.toNat (IntKind.wrap .i64 (sZ24.1 - 1)))) (.i yZ27) = lZ35.map AV.i := by rw [← hlZ35, List.map_set]
      cases h
      exact ZL (ZA cZ25 (ZA hkZ26a (ZA hkZ26b (ZA hyZ27 (ZA hkZ28a (ZA hkZ28b (ZA hyZ29 (ZA cZ31 (ZA eZ33 (ZA hyZ34 eZ36)))))))))) (ZA S_slices_partialInsertionSortCmpFunc_intM1L3.eq_1 (ZA SX_slices_partialInsertionSortCmpFunc_intM1L3.eq_1 (ZA hlZ32.symm hlZ35.symm)))
  · cases h
    exact ZL cZ25 (ZA S_slices_partialInsertionSortCmpFunc_intM1L3.eq_1 SX_slices_partialInsertionSortCmpFunc_intM1L3.eq_1)
def S_slices_partialInsertionSortCmpFunc_intM1L4 (aaZ0 : Nat) (abZ0 : Nat) (acZ0 : Int) (adZ0 : Int) (sZ1 : Int × Int × List Int) (oZ11 : Int) (v : Int × List Int) : St := ⟨[(0, .sl 1000000000 aaZ0 abZ0), (1, .i acZ0), (2, .i adZ0), (3, .fn 91 []), (9, .i oZ11), (10, .i sZ1.2.1), (12, .i v.1)], [(1000000000, .arr 1 (v.2.map AV.i))]⟩
def SX_slices_partialInsertionSortCmpFunc_intM1L4 (aaZ0 : Nat) (abZ0 : Nat) (acZ0 : Int) (adZ0 : Int) (sZ1 : Int × Int × List Int) (oZ11 : Int) (v : List Int) : St := ⟨[(0, .sl 1000000000 aaZ0 abZ0), (1, .i acZ0), (2, .i adZ0), (3, .fn 91 []), (9, .i oZ11), (10, .i sZ1.2.1)], [(1000000000, .arr 1 (v.map AV.i))]⟩
theorem w_slices_partialInsertionSortCmpFunc_intM1L4 (aaZ0 : Nat) (abZ0 : Nat) (acZ0 : Int) (adZ0 : Int) (sZ1 : Int × Int × List Int) (oZ11 : Int) (sZ41 : Int × List Int) (o : (Int × List Int) ⊕ (List Int)) (h : M_slices_partialInsertionSortCmpFunc_intM1L4 aaZ0 abZ0 adZ0 sZ41 = some o) : AWP (OkS Try.prog) A122M1L5 (qL [0, 1, 2, 3, 9, 10, 12] [1000000000] (S_slices_partialInsertionSortCmpFunc_intM1L4 aaZ0 abZ0 acZ0 adZ0 sZ1 oZ11) (qX 6 [0, 1, 2, 3, 9, 10] [1000000000] (SX_slices_partialInsertionSortCmpFunc_intM1L4 aaZ0 abZ0 acZ0 adZ0 sZ1 oZ11)) o) (S_slices_partialInsertionSortCmpFunc_intM1L4 aaZ0 abZ0 acZ0 adZ0 sZ1 oZ11 sZ41) := by
  unfold M_slices_partialInsertionSortCmpFunc_intM1L4 at h
  simp only [ZC, S_slices_partialInsertionSortCmpFunc_intM1L4, A122M1L5]
  obtain ⟨cZ42, h⟩ | ⟨cZ42, h⟩ := cond_s h
  · obtain ⟨kZ43, hkZ43, h⟩ := bind_s h
    obtain ⟨hkZ43a, hkZ43b⟩ := grd_s hkZ43
    obtain ⟨yZ44, hyZ44, h⟩ := bind_s h
    obtain ⟨kZ45, hkZ45, h⟩ := bind_s h
    obtain ⟨hkZ45a, hkZ45b⟩ := grd_s hkZ45
    obtain ⟨yZ46, hyZ46, h⟩ := bind_s h
    obtain ⟨rZ47, hrZ47, h⟩ := bind_s h
    refine ZF (ZA cZ42 (ZA hkZ43a (ZA hkZ43b (ZA hyZ44 (ZA hkZ45a (ZA hkZ45b hyZ46)))))) ?_
    refine ZS (ZA cZ42 (ZA hkZ43a (ZA hkZ43b (ZA hyZ44 (ZA hkZ45a (ZA hkZ45b hyZ46)))))) (w_impl_FewestUnits_c1 _ _ hrZ47) ?_
    refine ZG ?_
    obtain ⟨cZ48, h⟩ | ⟨cZ48, h⟩ := cond_s h
    · cases h
      exact ZL (ZA cZ42 (ZA hkZ43a (ZA hkZ43b (ZA hyZ44 (ZA hkZ45a (ZA hkZ45b (ZA hyZ46 cZ48))))))) (ZA S_slices_partialInsertionSortCmpFunc_intM1L4.eq_1 SX_slices_partialInsertionSortCmpFunc_intM1L4.eq_1)
    · obtain ⟨lZ49, hlZ49, h⟩ := bnd_s h
      have eZ50 : (sZ41.2.map AV.i).set (aaZ0 + (Int.toNat sZ41.1)) (.i yZ46) = lZ49.map AV.i := by rw [← hlZ49, List.map_set]
      obtain ⟨yZ51, hyZ51, h⟩ := bind_s h
      obtain ⟨lZ52, hlZ52, h⟩ := bnd_s h
      have eZ53 : (lZ49.map AV.i).set (aaZ0 + (Int.toNat (IntKind.wrap .i64 (sZ41.1 - 1)))) (.i yZ44) = lZ52.map AV.i := by rw [← hlZ52, List.map_set]
      cases h
      exact ZL (ZA cZ42 (ZA hkZ43a (ZA hkZ43b (ZA hyZ44 (ZA hkZ45a (ZA hkZ45b (ZA hyZ46 (ZA cZ48 (ZA eZ50 (ZA hyZ51 eZ53)))))))))) (ZA S_slices_partialInsertionSortCmpFunc_intM1L4.eq_1 (ZA SX_slices_partialInsertionSortCmpFunc_intM1L4.eq_1 (ZA hlZ49.symm hlZ52.symm)))
  · cases h
    exact ZL cZ42 (ZA S_slices_partialInsertionSortCmpFunc_intM1L4.eq_1 SX_slices_partialInsertionSortCmpFunc_intM1L4.eq_1)
def S_slices_partialInsertionSortCmpFunc_intM1L1 (aaZ0 : Nat) (abZ0 : Nat) (acZ0 : Int) (adZ0 : Int) (v : Int × Int × List Int) : St := ⟨[(0, .sl 1000000000 aaZ0 abZ0), (1, .i acZ0), (2, .i adZ0), (3, .fn 91 []), (9, .i v.1), (10, .i v.2.1)], [(1000000000, .arr 1 (v.2.2.map AV.i))]⟩
def SX_slices_partialInsertionSortCmpFunc_intM1L1 (v : List Int) : St := ⟨[], [(1000000000, .arr 1 (v.map AV.i))]⟩
theorem w_slices_partialInsertionSortCmpFunc_intM1L1 (aaZ0 : Nat) (abZ0 : Nat) (acZ0 : Int) (adZ0 : Int) (sZ1 : Int × Int × List Int) (o : (Int × Int × List Int) ⊕ ((List Int) ⊕ (Bool × List Int))) (h : M_slices_partialInsertionSortCmpFunc_intM1L1 aaZ0 abZ0 acZ0 adZ0 sZ1 = some o) : AWP (OkS Try.prog) A122M1L7 (qL [0, 1, 2, 3, 9, 10] [1000000000] (S_slices_partialInsertionSortCmpFunc_intM1L1 aaZ0 abZ0 acZ0 adZ0) (qS (qX 0 [] [1000000000] (SX_slices_partialInsertionSortCmpFunc_intM1L1)) (qM V122M1 [1000000000] (fun (r : Bool × List Int) => .b r.1) (fun (r : Bool × List Int) => [(1000000000, .arr 1 (r.2.map AV.i))]))) o) (S_slices_partialInsertionSortCmpFunc_intM1L1 aaZ0 abZ0 acZ0 adZ0 sZ1) := by
  unfold M_slices_partialInsertionSortCmpFunc_intM1L1 at h
  simp only [ZC, S_slices_partialInsertionSortCmpFunc_intM1L1, A122M1L7]
  obtain ⟨cZ2, h⟩ | ⟨cZ2, h⟩ := cond_s h
  · obtain ⟨oZ56, hoZ56, h⟩ := bind_s h
    try refine ZF cZ2 ?_
    refine join_rule (sh := (fun v => ⟨[(0, .sl 1000000000 aaZ0 abZ0), (1, .i acZ0), (2, .i adZ0), (3, .fn 91 []), (9, .i v.1), (10, .i sZ1.2.1)], [(1000000000, .arr 1 (v.2.map AV.i))]⟩)) (q := (qM V122M1 [1000000000] (fun (r : Bool × List Int) => .b r.1) (fun (r : Bool × List Int) => [(1000000000, .arr 1 (r.2.map AV.i))]))) (o := oZ56) ?_ (fun vZ57 hv => ?_) (fun xZ58 hv e τ hne hq => ?_)
    · replace h := hoZ56
      obtain ⟨oZ11, hoZ11, h⟩ := bind_s h
      try refine ZF cZ2 ?_
      refine join_rule0 (blk_rule0 (loop_rule (w_slices_partialInsertionSortCmpFunc_intM1L2 aaZ0 abZ0 acZ0 adZ0 sZ1) hoZ11 ?_)) ?_
      · exact ZK (ZA S_slices_partialInsertionSortCmpFunc_intM1L2.eq_1 SX_slices_partialInsertionSortCmpFunc_intM1L2.eq_1)
      · simp only [ZC, SX_slices_partialInsertionSortCmpFunc_intM1L2, A122M1R2]
        obtain ⟨cZ12, h⟩ | ⟨cZ12, h⟩ := cond_s h
        · cases h
          exact ZL (ZA cZ2 cZ12) V122M1.eq_1
        · obtain ⟨cZ13, h⟩ | ⟨cZ13, h⟩ := cond_s h
          · cases h
            exact ZL (ZA cZ2 (ZA cZ12 cZ13)) V122M1.eq_1
          · obtain ⟨kZ14, hkZ14, h⟩ := bind_s h
            obtain ⟨hkZ14a, hkZ14b⟩ := grd_s hkZ14
            obtain ⟨yZ15, hyZ15, h⟩ := bind_s h
            obtain ⟨kZ16, hkZ16, h⟩ := bind_s h
            obtain ⟨hkZ16a, hkZ16b⟩ := grd_s hkZ16
            obtain ⟨yZ17, hyZ17, h⟩ := bind_s h
            obtain ⟨lZ18, hlZ18, h⟩ := bnd_s h
            have eZ19 : (sZ1.2.2.map AV.i).set (aaZ0 + (Int.toNat oZ11)) (.i yZ15) = lZ18.map AV.i := by rw [← hlZ18, List.map_set]
            obtain ⟨yZ20, hyZ20, h⟩ := bind_s h
            obtain ⟨lZ21, hlZ21, h⟩ := bnd_s h
            have eZ22 : (lZ18.map AV.i).set (aaZ0 + (Int.toNat (IntKind.wrap .i64 (oZ11 - 1)))) (.i yZ17) = lZ21.map AV.i := by rw [← hlZ21, List.map_set]
            obtain ⟨oZ39, hoZ39, h⟩ := bind_s h
            try refine ZF (ZA cZ2 (ZA cZ12 (ZA cZ13 (ZA hkZ14a (ZA hkZ14b (ZA hyZ15 (ZA hkZ16a (ZA hkZ16b (ZA hyZ17 (ZA eZ19 (ZA hyZ20 eZ22))))))))))) ?_
            refine join_rule0 (sh := (fun v => ⟨[(0, .sl 1000000000 aaZ0 abZ0), (1, .i acZ0), (2, .i adZ0), (3, .fn 91 []), (9, .i oZ11), (10, .i sZ1.2.1)], [(1000000000, .arr 1 (v.map AV.i))]⟩)) (s := oZ39) ?_ ?_
            · replace h := hoZ39
              obtain ⟨cZ23, h⟩ | ⟨cZ23, h⟩ := cond_s h
              · obtain ⟨oZ37, hoZ37, h⟩ := bind_s h
                try refine ZF (ZA cZ2 (ZA cZ12 (ZA cZ13 (ZA hkZ14a (ZA hkZ14b (ZA hyZ15 (ZA hkZ16a (ZA hkZ16b (ZA hyZ17 (ZA eZ19 (ZA hyZ20 (ZA eZ22 cZ23)))))))))))) ?_
                first | refine tail_rule0 (blk_rule0 (loop_rule (w_slices_partialInsertionSortCmpFunc_intM1L3 aaZ0 abZ0 acZ0 adZ0 sZ1 oZ11) hoZ37 ?_)) (fun τ qZ38 => ?_) | refine tail_blk0 (loop_rule (w_slices_partialInsertionSortCmpFunc_intM1L3 aaZ0 abZ0 acZ0 adZ0 sZ1 oZ11) hoZ37 ?_) (fun τ qZ38 => ?_)
                · exact ZK (ZA S_slices_partialInsertionSortCmpFunc_intM1L3.eq_1 (ZA SX_slices_partialInsertionSortCmpFunc_intM1L3.eq_1 (ZA hlZ18.symm hlZ21.symm)))
                · cases h
                  try refine ZF trivial ?_
                  refine ⟨rfl, Shp.sub qZ38 (by decide) (by decide) ?_⟩
                  exact ZK SX_slices_partialInsertionSortCmpFunc_intM1L3.eq_1
              · cases h
                exact ZL (ZA cZ2 (ZA cZ12 (ZA cZ13 (ZA hkZ14a (ZA hkZ14b (ZA hyZ15 (ZA hkZ16a (ZA hkZ16b (ZA hyZ17 (ZA eZ19 (ZA hyZ20 (ZA eZ22 cZ23)))))))))))) (ZA hlZ18.symm hlZ21.symm)
            · simp only [ZC, A122M1R4]
              obtain ⟨cZ40, h⟩ | ⟨cZ40, h⟩ := cond_s h
              · obtain ⟨oZ54, hoZ54, h⟩ := bind_s h
                try refine ZF (ZA cZ2 (ZA cZ12 (ZA cZ13 (ZA hkZ14a (ZA hkZ14b (ZA hyZ15 (ZA hkZ16a (ZA hkZ16b (ZA hyZ17 (ZA eZ19 (ZA hyZ20 (ZA eZ22 cZ40)))))))))))) ?_
                first | refine tail_rule0 (blk_rule0 (loop_rule (w_slices_partialInsertionSortCmpFunc_intM1L4 aaZ0 abZ0 acZ0 adZ0 sZ1 oZ11) hoZ54 ?_)) (fun τ qZ55 => ?_) | refine tail_blk0 (loop_rule (w_slices_partialInsertionSortCmpFunc_intM1L4 aaZ0 abZ0 acZ0 adZ0 sZ1 oZ11) hoZ54 ?_) (fun τ qZ55 => ?_)
                · exact ZK (ZA S_slices_partialInsertionSortCmpFunc_intM1L4.eq_1 SX_slices_partialInsertionSortCmpFunc_intM1L4.eq_1)
                · cases h
                  try refine ZF trivial ?_
                  refine ⟨rfl, Shp.sub qZ55 (by decide) (by decide) ?_⟩
                  exact ZK SX_slices_partialInsertionSortCmpFunc_intM1L4.eq_1
              · cases h
                exact ZL (ZA cZ2 (ZA cZ12 (ZA cZ13 (ZA hkZ14a (ZA hkZ14b (ZA hyZ15 (ZA hkZ16a (ZA hkZ16b (ZA hyZ17 (ZA eZ19 (ZA hyZ20 (ZA eZ22 cZ40)))))))))))) trivial
    · subst hv
      simp only [] at h
      simp only [ZC, A122M1R6]
      cases h
      exact ZL cZ2 (ZA S_slices_partialInsertionSortCmpFunc_intM1L1.eq_1 SX_slices_partialInsertionSortCmpFunc_intM1L1.eq_1)
    · subst hv
      simp only [] at h
      obtain ⟨rfl, qZ59⟩ := hq
      cases h
      try refine ZF trivial ?_
      first | exact ⟨by simp, qZ59⟩ | exact ⟨by simp, rfl, qZ59⟩
  · cases h
    exact ZL cZ2 (ZA S_slices_partialInsertionSortCmpFunc_intM1L1.eq_1 SX_slices_partialInsertionSortCmpFunc_intM1L1.eq_1)
theorem w_slices_partialInsertionSortCmpFunc_intM1 (aaZ0 : Nat) (abZ0 : Nat) (acZ0 : Int) (adZ0 : Int) (aeZ0 : List Int) {r : Bool × List Int} (h : M_slices_partialInsertionSortCmpFunc_intM1 aaZ0 abZ0 acZ0 adZ0 aeZ0 = some r) : OkM Try.prog 122 [.sl 1000000000 aaZ0 abZ0, .i acZ0, .i adZ0, .fn 91 []] [(1000000000, .arr 1 (aeZ0.map AV.i))] ((fun (r : Bool × List Int) => .b r.1) r) ((fun (r : Bool × List Int) => [(1000000000, .arr 1 (r.2.map AV.i))]) r) := by
  refine okM_of_body (lr := [1000000000]) hmix m122M1 rfl rfl ?_
  unfold M_slices_partialInsertionSortCmpFunc_intM1 at h
  simp only [ZC, A122M1, V122M1]
  obtain ⟨oZ60, hoZ60, h⟩ := bind_s h
  try refine ZF trivial ?_
  refine join_rule (o := oZ60) (blk_rule sideM (loop_rule (w_slices_partialInsertionSortCmpFunc_intM1L1 aaZ0 abZ0 acZ0 adZ0) hoZ60 ?_)) (fun vZ61 hv => ?_) (fun xZ62 hv e τ hne hq => ?_)
  · exact ZK (ZA S_slices_partialInsertionSortCmpFunc_intM1L1.eq_1 SX_slices_partialInsertionSortCmpFunc_intM1L1.eq_1)
  · subst hv
    simp only [] at h
    simp only [ZC, SX_slices_partialInsertionSortCmpFunc_intM1L1, A122M1R8]
    cases h
    exact ZL trivial V122M1.eq_1
  · subst hv
    simp only [] at h
    obtain ⟨rfl, qZ63⟩ := hq
    cases h
    exact qZ63
def S_slices_partitionEqualCmpFunc_intM1L2 (aaZ0 : Nat) (abZ0 : Nat) (acZ0 : Int) (sZ10 : Int × Int × List Int) (v : Int) : St := ⟨[(0, .sl 1000000000 aaZ0 abZ0), (1, .i acZ0), (4, .fn 91 []), (11, .i v), (12, .i sZ10.2.1)], [(1000000000, .arr 1 (sZ10.2.2.map AV.i))]⟩
def SX_slices_partitionEqualCmpFunc_intM1L2 (aaZ0 : Nat) (abZ0 : Nat) (acZ0 : Int) (sZ10 : Int × Int × List Int) (v : Int) : St := ⟨[(0, .sl 1000000000 aaZ0 abZ0), (1, .i acZ0), (4, .fn 91 []), (11, .i v), (12, .i sZ10.2.1)], [(1000000000, .arr 1 (sZ10.2.2.map AV.i))]⟩
theorem w_slices_partitionEqualCmpFunc_intM1L2 (aaZ0 : Nat) (abZ0 : Nat) (acZ0 : Int) (sZ10 : Int × Int × List Int) (sZ11 : Int) (o : Int ⊕ Int) (h : M_slices_partitionEqualCmpFunc_intM1L2 aaZ0 abZ0 acZ0 sZ10 sZ11 = some o) : AWP (OkS Try.prog) A123M1L1 (qL [0, 1, 4, 11, 12] [1000000000] (S_slices_partitionEqualCmpFunc_intM1L2 aaZ0 abZ0 acZ0 sZ10) (qX 2 [0, 1, 4, 11, 12] [1000000000] (SX_slices_partitionEqualCmpFunc_intM1L2 aaZ0 abZ0 acZ0 sZ10)) o) (S_slices_partitionEqualCmpFunc_intM1L2 aaZ0 abZ0 acZ0 sZ10 sZ11) := by
  unfold M_slices_partitionEqualCmpFunc_intM1L2 at h
  simp only [ZC, S_slices_partitionEqualCmpFunc_intM1L2, A123M1L1]
  obtain ⟨cZ12, h⟩ | ⟨cZ12, h⟩ := cond_s h
  · obtain ⟨kZ13, hkZ13, h⟩ := bind_s h
    obtain ⟨hkZ13a, hkZ13b⟩ := grd_s hkZ13
    obtain ⟨yZ14, hyZ14, h⟩ := bind_s h
    obtain ⟨kZ15, hkZ15, h⟩ := bind_s h
    obtain ⟨hkZ15a, hkZ15b⟩ := grd_s hkZ15
    obtain ⟨yZ16, hyZ16, h⟩ := bind_s h
    obtain ⟨rZ17, hrZ17, h⟩ := bind_s h
    refine ZF (ZA cZ12 (ZA hkZ13a (ZA hkZ13b (ZA hyZ14 (ZA hkZ15a (ZA hkZ15b hyZ16)))))) ?_
    refine ZS (ZA cZ12 (ZA hkZ13a (ZA hkZ13b (ZA hyZ14 (ZA hkZ15a (ZA hkZ15b hyZ16)))))) (w_impl_FewestUnits_c1 _ _ hrZ17) ?_
    refine ZG ?_
    obtain ⟨cZ18, h⟩ | ⟨cZ18, h⟩ := cond_s h
    · cases h
      exact ZL (ZA cZ12 (ZA hkZ13a (ZA hkZ13b (ZA hyZ14 (ZA hkZ15a (ZA hkZ15b (ZA hyZ16 cZ18))))))) (ZA S_slices_partitionEqualCmpFunc_intM1L2.eq_1 SX_slices_partitionEqualCmpFunc_intM1L2.eq_1)
    · cases h
      exact ZL (ZA cZ12 (ZA hkZ13a (ZA hkZ13b (ZA hyZ14 (ZA hkZ15a (ZA hkZ15b (ZA hyZ16 cZ18))))))) (ZA S_slices_partitionEqualCmpFunc_intM1L2.eq_1 SX_slices_partitionEqualCmpFunc_intM1L2.eq_1)
  · cases h
    exact ZL cZ12 (ZA S_slices_partitionEqualCmpFunc_intM1L2.eq_1 SX_slices_partitionEqualCmpFunc_intM1L2.eq_1)
def S_slices_partitionEqualCmpFunc_intM1L3 (aaZ0 : Nat) (abZ0 : Nat) (acZ0 : Int) (sZ10 : Int × Int × List Int) (oZ19 : Int) (v : Int) : St := ⟨[(0, .sl 1000000000 aaZ0 abZ0), (1, .i acZ0), (4, .fn 91 []), (11, .i oZ19), (12, .i v)], [(1000000000, .arr 1 (sZ10.2.2.map AV.i))]⟩
def SX_slices_partitionEqualCmpFunc_intM1L3 (aaZ0 : Nat) (abZ0 : Nat) (acZ0 : Int) (sZ10 : Int × Int × List Int) (oZ19 : Int) (v : Int) : St := ⟨[(0, .sl 1000000000 aaZ0 abZ0), (1, .i acZ0), (4, .fn 91 []), (11, .i oZ19), (12, .i v)], [(1000000000, .arr 1 (sZ10.2.2.map AV.i))]⟩
theorem w_slices_partitionEqualCmpFunc_intM1L3 (aaZ0 : Nat) (abZ0 : Nat) (acZ0 : Int) (sZ10 : Int × Int × List Int) (oZ19 : Int) (sZ20 : Int) (o : Int ⊕ Int) (h : M_slices_partitionEqualCmpFunc_intM1L3 aaZ0 abZ0 acZ0 sZ10 oZ19 sZ20 = some o) : AWP (OkS Try.prog) A123M1L3 (qL [0, 1, 4, 11, 12] [1000000000] (S_slices_partitionEqualCmpFunc_intM1L3 aaZ0 abZ0 acZ0 sZ10 oZ19) (qX 4 [0, 1, 4, 11, 12] [1000000000] (SX_slices_partitionEqualCmpFunc_intM1L3 aaZ0 abZ0 acZ0 sZ10 oZ19)) o) (S_slices_partitionEqualCmpFunc_intM1L3 aaZ0 abZ0 acZ0 sZ10 oZ19 sZ20) := by
  unfold M_slices_partitionEqualCmpFunc_intM1L3 at h
  simp only [ZC, S_slices_partitionEqualCmpFunc_intM1L3, A123M1L3]
  obtain ⟨cZ21, h⟩ | ⟨cZ21, h⟩ := cond_s h
  · obtain ⟨kZ22, hkZ22, h⟩ := bind_s h
    obtain ⟨hkZ22a, hkZ22b⟩ := grd_s hkZ22
    obtain ⟨yZ23, hyZ23, h⟩ := bind_s h
    obtain ⟨kZ24, hkZ24, h⟩ := bind_s h
    obtain ⟨hkZ24a, hkZ24b⟩ := grd_s hkZ24
    obtain ⟨yZ25, hyZ25, h⟩ := bind_s h
    obtain ⟨rZ26, hrZ26, h⟩ := bind_s h
    refine ZF (ZA cZ21 (ZA hkZ22a (ZA hkZ22b (ZA hyZ23 (ZA hkZ24a (ZA hkZ24b hyZ25)))))) ?_
    refine ZS (ZA cZ21 (ZA hkZ22a (ZA hkZ22b (ZA hyZ23 (ZA hkZ24a (ZA hkZ24b hyZ25)))))) (w_impl_FewestUnits_c1 _ _ hrZ26) ?_
    refine ZG ?_
    obtain ⟨cZ27, h⟩ | ⟨cZ27, h⟩ := cond_s h
    · cases h
      exact ZL (ZA cZ21 (ZA hkZ22a (ZA hkZ22b (ZA hyZ23 (ZA hkZ24a (ZA hkZ24b (ZA hyZ25 cZ27))))))) (ZA S_slices_partitionEqualCmpFunc_intM1L3.eq_1 SX_slices_partitionEqualCmpFunc_intM1L3.eq_1)
    · cases h
      exact ZL (ZA cZ21 (ZA hkZ22a (ZA hkZ22b (ZA hyZ23 (ZA hkZ24a (ZA hkZ24b (ZA hyZ25 cZ27))))))) (ZA S_slices_partitionEqualCmpFunc_intM1L3.eq_1 SX_slices_partitionEqualCmpFunc_intM1L3.eq_1)
  · cases h
    exact ZL cZ21 (ZA S_slices_partitionEqualCmpFunc_intM1L3.eq_1 SX_slices_partitionEqualCmpFunc_intM1L3.eq_1)
def S_slices_partitionEqualCmpFunc_intM1L1 (aaZ0 : Nat) (abZ0 : Nat) (acZ0 : Int) (v : Int × Int × List Int) : St := ⟨[(0, .sl 1000000000 aaZ0 abZ0), (1, .i acZ0), (4, .fn 91 []), (11, .i v.1), (12, .i v.2.1)], [(1000000000, .arr 1 (v.2.2.map AV.i))]⟩
def SX_slices_partitionEqualCmpFunc_intM1L1 (v : Int × List Int) : St := ⟨[(11, .i v.1)], [(1000000000, .arr 1 (v.2.map AV.i))]⟩
theorem w_slices_partitionEqualCmpFunc_intM1L1 (aaZ0 : Nat) (abZ0 : Nat) (acZ0 : Int) (sZ10 : Int × Int × List Int) (o : (Int × Int × List Int) ⊕ (Int × List Int)) (h : M_slices_partitionEqualCmpFunc_intM1L1 aaZ0 abZ0 acZ0 sZ10 = some o) : AWP (OkS Try.prog) A123M1L5 (qL [0, 1, 4, 11, 12] [1000000000] (S_slices_partitionEqualCmpFunc_intM1L1 aaZ0 abZ0 acZ0) (qX 0 [11] [1000000000] (SX_slices_partitionEqualCmpFunc_intM1L1)) o) (S_slices_partitionEqualCmpFunc_intM1L1 aaZ0 abZ0 acZ0 sZ10) := by
  unfold M_slices_partitionEqualCmpFunc_intM1L1 at h
  simp only [ZC, S_slices_partitionEqualCmpFunc_intM1L1, A123M1L5]
  obtain ⟨oZ19, hoZ19, h⟩ := bind_s h
  try refine ZF trivial ?_
  refine join_rule0 (blk_rule0 (loop_rule (w_slices_partitionEqualCmpFunc_intM1L2 aaZ0 abZ0 acZ0 sZ10) hoZ19 ?_)) ?_
  · exact ZK (ZA S_slices_partitionEqualCmpFunc_intM1L2.eq_1 SX_slices_partitionEqualCmpFunc_intM1L2.eq_1)
  · simp only [ZC, SX_slices_partitionEqualCmpFunc_intM1L2, A123M1R2]
    obtain ⟨oZ28, hoZ28, h⟩ := bind_s h
    try refine ZF trivial ?_
    refine join_rule0 (blk_rule0 (loop_rule (w_slices_partitionEqualCmpFunc_intM1L3 aaZ0 abZ0 acZ0 sZ10 oZ19) hoZ28 ?_)) ?_
    · exact ZK (ZA S_slices_partitionEqualCmpFunc_intM1L3.eq_1 SX_slices_partitionEqualCmpFunc_intM1L3.eq_1)
    · simp only [ZC, SX_slices_partitionEqualCmpFunc_intM1L3, A123M1R4]
      obtain ⟨cZ29, h⟩ | ⟨cZ29, h⟩ := cond_s h
      · cases h
        exact ZL cZ29 (ZA S_slices_partitionEqualCmpFunc_intM1L1.eq_1 SX_slices_partitionEqualCmpFunc_intM1L1.eq_1)
      · obtain ⟨kZ30, hkZ30, h⟩ := bind_s h
        obtain ⟨hkZ30a, hkZ30b⟩ := grd_s hkZ30
        obtain ⟨yZ31, hyZ31, h⟩ := bind_s h
        obtain ⟨kZ32, hkZ32, h⟩ := bind_s h
        obtain ⟨hkZ32a, hkZ32b⟩ := grd_s hkZ32
        obtain ⟨yZ33, hyZ33, h⟩ := bind_s h
        obtain ⟨lZ34, hlZ34, h⟩ := bnd_s h
        have eZ35 : (sZ10.2.2.map AV.i).set (aaZ0 + (Int.toNat oZ19)) (.i yZ31) = lZ34.map AV.i := by rw [← hlZ34, List.map_set]
        obtain ⟨yZ36, hyZ36, h⟩ := bind_s h
        obtain ⟨lZ37, hlZ37, h⟩ := bnd_s h
        have eZ38 : (lZ34.map AV.i).set (aaZ0 + (Int.toNat oZ28)) (.i yZ33) = lZ37.map AV.i := by rw [← hlZ37, List.map_set]
        cases h
        exact ZL (ZA cZ29 (ZA hkZ30a (ZA hkZ30b (ZA hyZ31 (ZA hkZ32a (ZA hkZ32b (ZA hyZ33 (ZA eZ35 (ZA hyZ36 eZ38))))))))) (ZA S_slices_partitionEqualCmpFunc_intM1L1.eq_1 (ZA SX_slices_partitionEqualCmpFunc_intM1L1.eq_1 (ZA hlZ34.symm hlZ37.symm)))
theorem w_slices_partitionEqualCmpFunc_intM1 (aaZ0 : Nat) (abZ0 : Nat) (acZ0 : Int) (adZ0 : Int) (aeZ0 : Int) (afZ0 : List Int) {r : Int × List Int} (h : M_slices_partitionEqualCmpFunc_intM1 aaZ0 abZ0 acZ0 adZ0 aeZ0 afZ0 = some r) : OkM Try.prog 123 [.sl 1000000000 aaZ0 abZ0, .i acZ0, .i adZ0, .i aeZ0, .fn 91 []] [(1000000000, .arr 1 (afZ0.map AV.i))] ((fun (r : Int × List Int) => .i r.1) r) ((fun (r : Int × List Int) => [(1000000000, .arr 1 (r.2.map AV.i))]) r) := by
  refine okM_of_body (lr := [1000000000]) hmix m123M1 rfl rfl ?_
  unfold M_slices_partitionEqualCmpFunc_intM1 at h
  simp only [ZC, A123M1, V123M1]
  obtain ⟨kZ1, hkZ1, h⟩ := bind_s h
  obtain ⟨hkZ1a, hkZ1b⟩ := grd_s hkZ1
  obtain ⟨yZ2, hyZ2, h⟩ := bind_s h
  obtain ⟨kZ3, hkZ3, h⟩ := bind_s h
  obtain ⟨hkZ3a, hkZ3b⟩ := grd_s hkZ3
  obtain ⟨yZ4, hyZ4, h⟩ := bind_s h
  obtain ⟨lZ5, hlZ5, h⟩ := bnd_s h
  have eZ6 : (afZ0.map AV.i).set (aaZ0 + (Int.toNat acZ0)) (.i yZ2) = lZ5.map AV.i := by rw [← hlZ5, List.map_set]
  obtain ⟨yZ7, hyZ7, h⟩ := bind_s h
  obtain ⟨lZ8, hlZ8, h⟩ := bnd_s h
  have eZ9 : (lZ5.map AV.i).set (aaZ0 + (Int.toNat aeZ0)) (.i yZ4) = lZ8.map AV.i := by rw [← hlZ8, List.map_set]
  obtain ⟨oZ39, hoZ39, h⟩ := bind_s h
  try refine ZF (ZA hkZ1a (ZA hkZ1b (ZA hyZ2 (ZA hkZ3a (ZA hkZ3b (ZA hyZ4 (ZA eZ6 (ZA hyZ7 eZ9)))))))) ?_
  refine join_rule0 (blk_rule0 (loop_rule (w_slices_partitionEqualCmpFunc_intM1L1 aaZ0 abZ0 acZ0) hoZ39 ?_)) ?_
  · exact ZK (ZA S_slices_partitionEqualCmpFunc_intM1L1.eq_1 (ZA SX_slices_partitionEqualCmpFunc_intM1L1.eq_1 (ZA hlZ5.symm hlZ8.symm)))
  · simp only [ZC, SX_slices_partitionEqualCmpFunc_intM1L1, A123M1R6]
    cases h
    exact ZL (ZA hkZ1a (ZA hkZ1b (ZA hyZ2 (ZA hkZ3a (ZA hkZ3b (ZA hyZ4 (ZA eZ6 (ZA hyZ7 eZ9)))))))) V123M1.eq_1
def S_slices_partitionCmpFunc_intM1L1 (aaZ0 : Nat) (abZ0 : Nat) (acZ0 : Int) (adZ0 : Int) (lZ8 : List Int) (v : Int) : St := ⟨[(0, .sl 1000000000 aaZ0 abZ0), (1, .i acZ0), (4, .fn 91 []), (12, .i v), (13, .i (IntKind.wrap .i64 (adZ0 - 1)))], [(1000000000, .arr 1 (lZ8.map AV.i))]⟩
def SX_slices_partitionCmpFunc_intM1L1 (aaZ0 : Nat) (abZ0 : Nat) (acZ0 : Int) (adZ0 : Int) (lZ8 : List Int) (v : Int) : St := ⟨[(0, .sl 1000000000 aaZ0 abZ0), (1, .i acZ0), (4, .fn 91 []), (12, .i v), (13, .i (IntKind.wrap .i64 (adZ0 - 1)))], [(1000000000, .arr 1 (lZ8.map AV.i))]⟩
theorem w_slices_partitionCmpFunc_intM1L1 (aaZ0 : Nat) (abZ0 : Nat) (acZ0 : Int) (adZ0 : Int) (lZ8 : List Int) (sZ10 : Int) (o : Int ⊕ Int) (h : M_slices_partitionCmpFunc_intM1L1 aaZ0 abZ0 acZ0 adZ0 lZ8 sZ10 = some o) : AWP (OkS Try.prog) A124M1L1 (qL [0, 1, 4, 12, 13] [1000000000] (S_slices_partitionCmpFunc_intM1L1 aaZ0 abZ0 acZ0 adZ0 lZ8) (qX 0 [0, 1, 4, 12, 13] [1000000000] (SX_slices_partitionCmpFunc_intM1L1 aaZ0 abZ0 acZ0 adZ0 lZ8)) o) (S_slices_partitionCmpFunc_intM1L1 aaZ0 abZ0 acZ0 adZ0 lZ8 sZ10) := by
  unfold M_slices_partitionCmpFunc_intM1L1 at h
  simp only [ZC, S_slices_partitionCmpFunc_intM1L1, A124M1L1]
  obtain ⟨cZ11, h⟩ | ⟨cZ11, h⟩ := cond_s h
  · obtain ⟨kZ12, hkZ12, h⟩ := bind_s h
    obtain ⟨hkZ12a, hkZ12b⟩ := grd_s hkZ12
    obtain ⟨yZ13, hyZ13, h⟩ := bind_s h
    obtain ⟨kZ14, hkZ14, h⟩ := bind_s h
    obtain ⟨hkZ14a, hkZ14b⟩ := grd_s hkZ14
    obtain ⟨yZ15, hyZ15, h⟩ := bind_s h
    obtain ⟨rZ16, hrZ16, h⟩ := bind_s h
    refine ZF (ZA cZ11 (ZA hkZ12a (ZA hkZ12b (ZA hyZ13 (ZA hkZ14a (ZA hkZ14b hyZ15)))))) ?_
    refine ZS (ZA cZ11 (ZA hkZ12a (ZA hkZ12b (ZA hyZ13 (ZA hkZ14a (ZA hkZ14b hyZ15)))))) (w_impl_FewestUnits_c1 _ _ hrZ16) ?_
    refine ZG ?_
    obtain ⟨cZ17, h⟩ | ⟨cZ17, h⟩ := cond_s h
    · cases h
      exact ZL (ZA cZ11 (ZA hkZ12a (ZA hkZ12b (ZA hyZ13 (ZA hkZ14a (ZA hkZ14b (ZA hyZ15 cZ17))))))) (ZA S_slices_partitionCmpFunc_intM1L1.eq_1 SX_slices_partitionCmpFunc_intM1L1.eq_1)
    · cases h
      exact ZL (ZA cZ11 (ZA hkZ12a (ZA hkZ12b (ZA hyZ13 (ZA hkZ14a (ZA hkZ14b (ZA hyZ15 cZ17))))))) (ZA S_slices_partitionCmpFunc_intM1L1.eq_1 SX_slices_partitionCmpFunc_intM1L1.eq_1)
  · cases h
    exact ZL cZ11 (ZA S_slices_partitionCmpFunc_intM1L1.eq_1 SX_slices_partitionCmpFunc_intM1L1.eq_1)
def S_slices_partitionCmpFunc_intM1L2 (aaZ0 : Nat) (abZ0 : Nat) (acZ0 : Int) (lZ8 : List Int) (oZ18 : Int) (v : Int) : St := ⟨[(0, .sl 1000000000 aaZ0 abZ0), (1, .i acZ0), (4, .fn 91 []), (12, .i oZ18), (13, .i v)], [(1000000000, .arr 1 (lZ8.map AV.i))]⟩
def SX_slices_partitionCmpFunc_intM1L2 (aaZ0 : Nat) (abZ0 : Nat) (acZ0 : Int) (lZ8 : List Int) (oZ18 : Int) (v : Int) : St := ⟨[(0, .sl 1000000000 aaZ0 abZ0), (1, .i acZ0), (4, .fn 91 []), (12, .i oZ18), (13, .i v)], [(1000000000, .arr 1 (lZ8.map AV.i))]⟩
theorem w_slices_partitionCmpFunc_intM1L2 (aaZ0 : Nat) (abZ0 : Nat) (acZ0 : Int) (lZ8 : List Int) (oZ18 : Int) (sZ19 : Int) (o : Int ⊕ Int) (h : M_slices_partitionCmpFunc_intM1L2 aaZ0 abZ0 acZ0 lZ8 oZ18 sZ19 = some o) : AWP (OkS Try.prog) A124M1L3 (qL [0, 1, 4, 12, 13] [1000000000] (S_slices_partitionCmpFunc_intM1L2 aaZ0 abZ0 acZ0 lZ8 oZ18) (qX 2 [0, 1, 4, 12, 13] [1000000000] (SX_slices_partitionCmpFunc_intM1L2 aaZ0 abZ0 acZ0 lZ8 oZ18)) o) (S_slices_partitionCmpFunc_intM1L2 aaZ0 abZ0 acZ0 lZ8 oZ18 sZ19) := by
  unfold M_slices_partitionCmpFunc_intM1L2 at h
  simp only [ZC, S_slices_partitionCmpFunc_intM1L2, A124M1L3]
  obtain ⟨cZ20, h⟩ | ⟨cZ20, h⟩ := cond_s h
  · obtain ⟨kZ21, hkZ21, h⟩ := bind_s h
    obtain ⟨hkZ21a, hkZ21b⟩ := grd_s hkZ21
    obtain ⟨yZ22, hyZ22, h⟩ := bind_s h
    obtain ⟨kZ23, hkZ23, h⟩ := bind_s h
    obtain ⟨hkZ23a, hkZ23b⟩ := grd_s hkZ23
    obtain ⟨yZ24, hyZ24, h⟩ := bind_s h
    obtain ⟨rZ25, hrZ25, h⟩ := bind_s h
    refine ZF (ZA cZ20 (ZA hkZ21a (ZA hkZ21b (ZA hyZ22 (ZA hkZ23a (ZA hkZ23b hyZ24)))))) ?_
    refine ZS (ZA cZ20 (ZA hkZ21a (ZA hkZ21b (ZA hyZ22 (ZA hkZ23a (ZA hkZ23b hyZ24)))))) (w_impl_FewestUnits_c1 _ _ hrZ25) ?_
    refine ZG ?_
    obtain ⟨cZ26, h⟩ | ⟨cZ26, h⟩ := cond_s h
    · cases h
      exact ZL (ZA cZ20 (ZA hkZ21a (ZA hkZ21b (ZA hyZ22 (ZA hkZ23a (ZA hkZ23b (ZA hyZ24 cZ26))))))) (ZA S_slices_partitionCmpFunc_intM1L2.eq_1 SX_slices_partitionCmpFunc_intM1L2.eq_1)
    · cases h
      exact ZL (ZA cZ20 (ZA hkZ21a (ZA hkZ21b (ZA hyZ22 (ZA hkZ23a (ZA hkZ23b (ZA hyZ24 cZ26))))))) (ZA S_slices_partitionCmpFunc_intM1L2.eq_1 SX_slices_partitionCmpFunc_intM1L2.eq_1)
  · cases h
    exact ZL cZ20 (ZA S_slices_partitionCmpFunc_intM1L2.eq_1 SX_slices_partitionCmpFunc_intM1L2.eq_1)
def S_slices_partitionCmpFunc_intM1L4 (aaZ0 : Nat) (abZ0 : Nat) (acZ0 : Int) (sZ46 : Int × Int × List Int) (v : Int) : St := ⟨[(0, .sl 1000000000 aaZ0 abZ0), (1, .i acZ0), (4, .fn 91 []), (12, .i v), (13, .i sZ46.2.1)], [(1000000000, .arr 1 (sZ46.2.2.map AV.i))]⟩
def SX_slices_partitionCmpFunc_intM1L4 (aaZ0 : Nat) (abZ0 : Nat) (acZ0 : Int) (sZ46 : Int × Int × List Int) (v : Int) : St := ⟨[(0, .sl 1000000000 aaZ0 abZ0), (1, .i acZ0), (4, .fn 91 []), (12, .i v), (13, .i sZ46.2.1)], [(1000000000, .arr 1 (sZ46.2.2.map AV.i))]⟩
theorem w_slices_partitionCmpFunc_intM1L4 (aaZ0 : Nat) (abZ0 : Nat) (acZ0 : Int) (sZ46 : Int × Int × List Int) (sZ47 : Int) (o : Int ⊕ Int) (h : M_slices_partitionCmpFunc_intM1L4 aaZ0 abZ0 acZ0 sZ46 sZ47 = some o) : AWP (OkS Try.prog) A124M1L5 (qL [0, 1, 4, 12, 13] [1000000000] (S_slices_partitionCmpFunc_intM1L4 aaZ0 abZ0 acZ0 sZ46) (qX 6 [0, 1, 4, 12, 13] [1000000000] (SX_slices_partitionCmpFunc_intM1L4 aaZ0 abZ0 acZ0 sZ46)) o) (S_slices_partitionCmpFunc_intM1L4 aaZ0 abZ0 acZ0 sZ46 sZ47) := by
  unfold M_slices_partitionCmpFunc_intM1L4 at h
  simp only [ZC, S_slices_partitionCmpFunc_intM1L4, A124M1L5]
  obtain ⟨cZ48, h⟩ | ⟨cZ48, h⟩ := cond_s h
  · obtain ⟨kZ49, hkZ49, h⟩ := bind_s h
    obtain ⟨hkZ49a, hkZ49b⟩ := grd_s hkZ49
    obtain ⟨yZ50, hyZ50, h⟩ := bind_s h
    obtain ⟨kZ51, hkZ51, h⟩ := bind_s h
    obtain ⟨hkZ51a, hkZ51b⟩ := grd_s hkZ51
    obtain ⟨yZ52, hyZ52, h⟩ := bind_s h
    obtain ⟨rZ53, hrZ53, h⟩ := bind_s h
    refine ZF (ZA cZ48 (ZA hkZ49a (ZA hkZ49b (ZA hyZ50 (ZA hkZ51a (ZA hkZ51b hyZ52)))))) ?_
    refine ZS (ZA cZ48 (ZA hkZ49a (ZA hkZ49b (ZA hyZ50 (ZA hkZ51a (ZA hkZ51b hyZ52)))))) (w_impl_FewestUnits_c1 _ _ hrZ53) ?_
    refine ZG ?_
    obtain ⟨cZ54, h⟩ | ⟨cZ54, h⟩ := cond_s h
    · cases h
      exact ZL (ZA cZ48 (ZA hkZ49a (ZA hkZ49b (ZA hyZ50 (ZA hkZ51a (ZA hkZ51b (ZA hyZ52 cZ54))))))) (ZA S_slices_partitionCmpFunc_intM1L4.eq_1 SX_slices_partitionCmpFunc_intM1L4.eq_1)
    · cases h
      exact ZL (ZA cZ48 (ZA hkZ49a (ZA hkZ49b (ZA hyZ50 (ZA hkZ51a (ZA hkZ51b (ZA hyZ52 cZ54))))))) (ZA S_slices_partitionCmpFunc_intM1L4.eq_1 SX_slices_partitionCmpFunc_intM1L4.eq_1)
  · cases h
    exact ZL cZ48 (ZA S_slices_partitionCmpFunc_intM1L4.eq_1 SX_slices_partitionCmpFunc_intM1L4.eq_1)
def S_slices_partitionCmpFunc_intM1L5 (aaZ0 : Nat) (abZ0 : Nat) (acZ0 : Int) (sZ46 : Int × Int × List Int) (oZ55 : Int) (v : Int) : St := ⟨[(0, .sl 1000000000 aaZ0 abZ0), (1, .i acZ0), (4, .fn 91 []), (12, .i oZ55), (13, .i v)], [(1000000000, .arr 1 (sZ46.2.2.map AV.i))]⟩
def SX_slices_partitionCmpFunc_intM1L5 (aaZ0 : Nat) (abZ0 : Nat) (acZ0 : Int) (sZ46 : Int × Int × List Int) (oZ55 : Int) (v : Int) : St := ⟨[(0, .sl 1000000000 aaZ0 abZ0), (1, .i acZ0), (4, .fn 91 []), (12, .i oZ55), (13, .i v)], [(1000000000, .arr 1 (sZ46.2.2.map AV.i))]⟩
theorem w_slices_partitionCmpFunc_intM1L5 (aaZ0 : Nat) (abZ0 : Nat) (acZ0 : Int) (sZ46 : Int × Int × List Int) (oZ55 : Int) (sZ56 : Int) (o : Int ⊕ Int) (h : M_slices_partitionCmpFunc_intM1L5 aaZ0 abZ0 acZ0 sZ46 oZ55 sZ56 = some o) : AWP (OkS Try.prog) A124M1L7 (qL [0, 1, 4, 12, 13] [1000000000] (S_slices_partitionCmpFunc_intM1L5 aaZ0 abZ0 acZ0 sZ46 oZ55) (qX 8 [0, 1, 4, 12, 13] [1000000000] (SX_slices_partitionCmpFunc_intM1L5 aaZ0 abZ0 acZ0 sZ46 oZ55)) o) (S_slices_partitionCmpFunc_intM1L5 aaZ0 abZ0 acZ0 sZ46 oZ55 sZ56) := by
  unfold M_slices_partitionCmpFunc_intM1L5 at h
  simp only [ZC, S_slices_partitionCmpFunc_intM1L5, A124M1L7]
  obtain ⟨cZ57, h⟩ | ⟨cZ57, h⟩ := cond_s h
  · obtain ⟨kZ58, hkZ58, h⟩ := bind_s h
    obtain ⟨hkZ58a, hkZ58b⟩ := grd_s hkZ58
    obtain ⟨yZ59, hyZ59, h⟩ := bind_s h
    obtain ⟨kZ60, hkZ60, h⟩ := bind_s h
    obtain ⟨hkZ60a, hkZ60b⟩ := grd_s hkZ60
    obtain ⟨yZ61, hyZ61, h⟩ := bind_s h
    obtain ⟨rZ62, hrZ62, h⟩ := bind_s h
    refine ZF (ZA cZ57 (ZA hkZ58a (ZA hkZ58b (ZA hyZ59 (ZA hkZ60a (ZA hkZ60b hyZ61)))))) ?_
    refine ZS (ZA cZ57 (ZA hkZ58a (ZA hkZ58b (ZA hyZ59 (ZA hkZ60a (ZA hkZ60b hyZ61)))))) (w_impl_FewestUnits_c1 _ _ hrZ62) ?_
    refine ZG ?_
    obtain ⟨cZ63, h⟩ | ⟨cZ63, h⟩ := cond_s h
    · cases h
      exact ZL (ZA cZ57 (ZA hkZ58a (ZA hkZ58b (ZA hyZ59 (ZA hkZ60a (ZA hkZ60b (ZA hyZ61 cZ63))))))) (ZA S_slices_partitionCmpFunc_intM1L5.eq_1 SX_slices_partitionCmpFunc_intM1L5.eq_1)
    · cases h
      exact ZL (ZA cZ57 (ZA hkZ58a (ZA hkZ58b (ZA hyZ59 (ZA hkZ60a (ZA hkZ60b (ZA hyZ61 cZ63))))))) (ZA S_slices_partitionCmpFunc_intM1L5.eq_1 SX_slices_partitionCmpFunc_intM1L5.eq_1)
  · cases h
    exact ZL cZ57 (ZA S_slices_partitionCmpFunc_intM1L5.eq_1 SX_slices_partitionCmpFunc_intM1L5.eq_1)
def S_slices_partitionCmpFunc_intM1L3 (aaZ0 : Nat) (abZ0 : Nat) (acZ0 : Int) (v : Int × Int × List Int) : St := ⟨[(0, .sl 1000000000 aaZ0 abZ0), (1, .i acZ0), (4, .fn 91 []), (12, .i v.1), (13, .i v.2.1)], [(1000000000, .arr 1 (v.2.2.map AV.i))]⟩
def SX_slices_partitionCmpFunc_intM1L3 (aaZ0 : Nat) (abZ0 : Nat) (acZ0 : Int) (v : Int × List Int) : St := ⟨[(0, .sl 1000000000 aaZ0 abZ0), (1, .i acZ0), (13, .i v.1)], [(1000000000, .arr 1 (v.2.map AV.i))]⟩
theorem w_slices_partitionCmpFunc_intM1L3 (aaZ0 : Nat) (abZ0 : Nat) (acZ0 : Int) (sZ46 : Int × Int × List Int) (o : (Int × Int × List Int) ⊕ (Int × List Int)) (h : M_slices_partitionCmpFunc_intM1L3 aaZ0 abZ0 acZ0 sZ46 = some o) : AWP (OkS Try.prog) A124M1L9 (qL [0, 1, 4, 12, 13] [1000000000] (S_slices_partitionCmpFunc_intM1L3 aaZ0 abZ0 acZ0) (qX 4 [0, 1, 13] [1000000000] (SX_slices_partitionCmpFunc_intM1L3 aaZ0 abZ0 acZ0)) o) (S_slices_partitionCmpFunc_intM1L3 aaZ0 abZ0 acZ0 sZ46) := by
  unfold M_slices_partitionCmpFunc_intM1L3 at h
  simp only [ZC, S_slices_partitionCmpFunc_intM1L3, A124M1L9]
  obtain ⟨oZ55, hoZ55, h⟩ := bind_s h
  try refine ZF trivial ?_
  refine join_rule0 (blk_rule0 (loop_rule (w_slices_partitionCmpFunc_intM1L4 aaZ0 abZ0 acZ0 sZ46) hoZ55 ?_)) ?_
  · exact ZK (ZA S_slices_partitionCmpFunc_intM1L4.eq_1 SX_slices_partitionCmpFunc_intM1L4.eq_1)
  · simp only [ZC, SX_slices_partitionCmpFunc_intM1L4, A124M1R6]
    obtain ⟨oZ64, hoZ64, h⟩ := bind_s h
    try refine ZF trivial ?_
    refine join_rule0 (blk_rule0 (loop_rule (w_slices_partitionCmpFunc_intM1L5 aaZ0 abZ0 acZ0 sZ46 oZ55) hoZ64 ?_)) ?_
    · exact ZK (ZA S_slices_partitionCmpFunc_intM1L5.eq_1 SX_slices_partitionCmpFunc_intM1L5.eq_1)
    · simp only [ZC, SX_slices_partitionCmpFunc_intM1L5, A124M1R8]
      obtain ⟨cZ65, h⟩ | ⟨cZ65, h⟩ := cond_s h
      · cases h
        exact ZL cZ65 (ZA S_slices_partitionCmpFunc_intM1L3.eq_1 SX_slices_partitionCmpFunc_intM1L3.eq_1)
      · obtain ⟨kZ66, hkZ66, h⟩ := bind_s h
        obtain ⟨hkZ66a, hkZ66b⟩ := grd_s hkZ66
        obtain ⟨yZ67, hyZ67, h⟩ := bind_s h
        obtain ⟨kZ68, hkZ68, h⟩ := bind_s h
        obtain ⟨hkZ68a, hkZ68b⟩ := grd_s hkZ68
        obtain ⟨yZ69, hyZ69, h⟩ := bind_s h
        obtain ⟨lZ70, hlZ70, h⟩ := bnd_s h
        have eZ71 : (sZ46.2.2.map AV.i).set (aaZ0 + (Int.toNat oZ55)) (.i yZ67) = lZ70.map AV.i := by rw [← hlZ70, List.map_set]
        obtain ⟨yZ72, hyZ72, h⟩ := bind_s h
        obtain ⟨lZ73, hlZ73, h⟩ := bnd_s h
        have eZ74 : (lZ70.map AV.i).set (aaZ0 + (Int.toNat oZ64)) (.i yZ69) = lZ73.map AV.i := by rw [← hlZ73, List.map_set]
        cases h
        exact ZL (ZA cZ65 (ZA hkZ66a (ZA hkZ66b (ZA hyZ67 (ZA hkZ68a (ZA hkZ68b (ZA hyZ69 (ZA eZ71 (ZA hyZ72 eZ74))))))))) (ZA S_slices_partitionCmpFunc_intM1L3.eq_1 (ZA SX_slices_partitionCmpFunc_intM1L3.eq_1 (ZA hlZ70.symm hlZ73.symm)))
theorem w_slices_partitionCmpFunc_intM1 (aaZ0 : Nat) (abZ0 : Nat) (acZ0 : Int) (adZ0 : Int) (aeZ0 : Int) (afZ0 : List Int) {r : Int × Bool × List Int} (h : M_slices_partitionCmpFunc_intM1 aaZ0 abZ0 acZ0 adZ0 aeZ0 afZ0 = some r) : OkM Try.prog 124 [.sl 1000000000 aaZ0 abZ0, .i acZ0, .i adZ0, .i aeZ0, .fn 91 []] [(1000000000, .arr 1 (afZ0.map AV.i))] ((fun (r : Int × Bool × List Int) => .tup [.i r.1, .b r.2.1]) r) ((fun (r : Int × Bool × List Int) => [(1000000000, .arr 1 (r.2.2.map AV.i))]) r) := by
  refine okM_of_body (lr := [1000000000]) hmix m124M1 rfl rfl ?_
  unfold M_slices_partitionCmpFunc_intM1 at h
  simp only [ZC, A124M1, V124M1]
  obtain ⟨kZ1, hkZ1, h⟩ := bind_s h
  obtain ⟨hkZ1a, hkZ1b⟩ := grd_s hkZ1
  obtain ⟨yZ2, hyZ2, h⟩ := bind_s h
  obtain ⟨kZ3, hkZ3, h⟩ := bind_s h
  obtain ⟨hkZ3a, hkZ3b⟩ := grd_s hkZ3
  obtain ⟨yZ4, hyZ4, h⟩ := bind_s h
  obtain ⟨lZ5, hlZ5, h⟩ := bnd_s h
  have eZ6 : (afZ0.map AV.i).set (aaZ0 + (Int.toNat acZ0)) (.i yZ2) = lZ5.map AV.i := by rw [← hlZ5, List.map_set]
  obtain ⟨yZ7, hyZ7, h⟩ := bind_s h
  obtain ⟨lZ8, hlZ8, h⟩ := bnd_s h
  have eZ9 : (lZ5.map AV.i).set (aaZ0 + (Int.toNat aeZ0)) (.i yZ4) = lZ8.map AV.i := by rw [← hlZ8, List.map_set]
  obtain ⟨oZ18, hoZ18, h⟩ := bind_s h
  try refine ZF (ZA hkZ1a (ZA hkZ1b (ZA hyZ2 (ZA hkZ3a (ZA hkZ3b (ZA hyZ4 (ZA eZ6 (ZA hyZ7 eZ9)))))))) ?_
  refine join_rule0 (blk_rule0 (loop_rule (w_slices_partitionCmpFunc_intM1L1 aaZ0 abZ0 acZ0 adZ0 lZ8) hoZ18 ?_)) ?_
  · exact ZK (ZA S_slices_partitionCmpFunc_intM1L1.eq_1 (ZA SX_slices_partitionCmpFunc_intM1L1.eq_1 (ZA hlZ5.symm hlZ8.symm)))
  · simp only [ZC, SX_slices_partitionCmpFunc_intM1L1, A124M1R2]
    obtain ⟨oZ27, hoZ27, h⟩ := bind_s h
    try refine ZF (ZA hkZ1a (ZA hkZ1b (ZA hyZ2 (ZA hkZ3a (ZA hkZ3b (ZA hyZ4 (ZA eZ6 (ZA hyZ7 eZ9)))))))) ?_
    refine join_rule0 (blk_rule0 (loop_rule (w_slices_partitionCmpFunc_intM1L2 aaZ0 abZ0 acZ0 lZ8 oZ18) hoZ27 ?_)) ?_
    · exact ZK (ZA S_slices_partitionCmpFunc_intM1L2.eq_1 SX_slices_partitionCmpFunc_intM1L2.eq_1)
    · simp only [ZC, SX_slices_partitionCmpFunc_intM1L2, A124M1R4]
      obtain ⟨cZ28, h⟩ | ⟨cZ28, h⟩ := cond_s h
      · obtain ⟨yZ29, hyZ29, h⟩ := bind_s h
        obtain ⟨kZ30, hkZ30, h⟩ := bind_s h
        obtain ⟨hkZ30a, hkZ30b⟩ := grd_s hkZ30
        obtain ⟨yZ31, hyZ31, h⟩ := bind_s h
        obtain ⟨lZ32, hlZ32, h⟩ := bnd_s h
        have eZ33 : (lZ8.map AV.i).set (aaZ0 + (Int.toNat oZ27)) (.i yZ29) = lZ32.map AV.i := by rw [← hlZ32, List.map_set]
        obtain ⟨yZ34, hyZ34, h⟩ := bind_s h
        obtain ⟨lZ35, hlZ35, h⟩ := bnd_s h
        have eZ36 : (lZ32.map AV.i).set (aaZ0 + (Int.toNat acZ0)) (.i yZ31) = lZ35.map AV.i := by rw [← hlZ35, List.map_set]
        cases h
        exact ZL (ZA hkZ1a (ZA hkZ1b (ZA hyZ2 (ZA hkZ3a (ZA hkZ3b (ZA hyZ4 (ZA eZ6 (ZA hyZ7 (ZA eZ9 (ZA cZ28 (ZA hyZ29 (ZA hkZ30a (ZA hkZ30b (ZA hyZ31 (ZA eZ33 (ZA hyZ34 eZ36)))))))))))))))) (ZA V124M1.eq_1 (ZA hlZ32.symm hlZ35.symm))
      · obtain ⟨kZ37, hkZ37, h⟩ := bind_s h
        obtain ⟨hkZ37a, hkZ37b⟩ := grd_s hkZ37
        obtain ⟨yZ38, hyZ38, h⟩ := bind_s h
        obtain ⟨kZ39, hkZ39, h⟩ := bind_s h
        obtain ⟨hkZ39a, hkZ39b⟩ := grd_s hkZ39
        obtain ⟨yZ40, hyZ40, h⟩ := bind_s h
        obtain ⟨lZ41, hlZ41, h⟩ := bnd_s h
        have eZ42 : (lZ8.map AV.i).set (aaZ0 + (Int.toNat oZ18)) (.i yZ38) = lZ41.map AV.i := by rw [← hlZ41, List.map_set]
        obtain ⟨yZ43, hyZ43, h⟩ := bind_s h
        obtain ⟨lZ44, hlZ44, h⟩ := bnd_s h
        have eZ45 : (lZ41.map AV.i).set (aaZ0 + (Int.toNat oZ27)) (.i yZ40) = lZ44.map AV.i := by rw [← hlZ44, List.map_set]
        obtain ⟨oZ75, hoZ75, h⟩ := bind_s h
        try refine ZF (ZA hkZ1a (ZA hkZ1b (ZA hyZ2 (ZA hkZ3a (ZA hkZ3b (ZA hyZ4 (ZA eZ6 (ZA hyZ7 (ZA eZ9 (ZA cZ28 (ZA hkZ37a (ZA hkZ37b (ZA hyZ38 (ZA hkZ39a (ZA hkZ39b (ZA hyZ40 (ZA eZ42 (ZA hyZ43 eZ45)))))))))))))))))) ?_
        refine join_rule0 (blk_rule0 (loop_rule (w_slices_partitionCmpFunc_intM1L3 aaZ0 abZ0 acZ0) hoZ75 ?_)) ?_
        · exact ZK (ZA S_slices_partitionCmpFunc_intM1L3.eq_1 (ZA SX_slices_partitionCmpFunc_intM1L3.eq_1 (ZA hlZ41.symm hlZ44.symm)))
        · simp only [ZC, SX_slices_partitionCmpFunc_intM1L3, A124M1R10]
          obtain ⟨yZ76, hyZ76, h⟩ := bind_s h
          obtain ⟨kZ77, hkZ77, h⟩ := bind_s h
          obtain ⟨hkZ77a, hkZ77b⟩ := grd_s hkZ77
          obtain ⟨yZ78, hyZ78, h⟩ := bind_s h
          obtain ⟨lZ79, hlZ79, h⟩ := bnd_s h
          have eZ80 : (oZ75.2.map AV.i).set (aaZ0 + (Int.toNat oZ75.1)) (.i yZ76) = lZ79.map AV.i := by rw [← hlZ79, List.map_set]
          obtain ⟨yZ81, hyZ81, h⟩ := bind_s h
          obtain ⟨lZ82, hlZ82, h⟩ := bnd_s h
          have eZ83 : (lZ79.map AV.i).set (aaZ0 + (Int.toNat acZ0)) (.i yZ78) = lZ82.map AV.i := by rw [← hlZ82, List.map_set]
          cases h
          exact ZL (ZA hkZ1a (ZA hkZ1b (ZA hyZ2 (ZA hkZ3a (ZA hkZ3b (ZA hyZ4 (ZA eZ6 (ZA hyZ7 (ZA eZ9 (ZA cZ28 (ZA hkZ37a (ZA hkZ37b (ZA hyZ38 (ZA hkZ39a (ZA hkZ39b (ZA hyZ40 (ZA eZ42 (ZA hyZ43 (ZA eZ45 (ZA hyZ76 (ZA hkZ77a (ZA hkZ77b (ZA hyZ78 (ZA eZ80 (ZA hyZ81 eZ83))))))))))))))))))))))))) (ZA V124M1.eq_1 (ZA hlZ79.symm hlZ82.symm))
def S_slices_insertionSortCmpFunc_intM2L2 (aaZ0 : Nat) (abZ0 : Nat) (acZ0 : Int) (adZ0 : Int) (sZ1 : Int × List Int) (v : Int × List Int) : St := ⟨[(0, .sl 1000000000 aaZ0 abZ0), (1, .i acZ0), (2, .i adZ0), (3, .fn 91 []), (8, .i sZ1.1), (9, .i v.1)], [(1000000000, .arr 1 (v.2.map AV.i))]⟩
def SX_slices_insertionSortCmpFunc_intM2L2 (aaZ0 : Nat) (abZ0 : Nat) (acZ0 : Int) (adZ0 : Int) (sZ1 : Int × List Int) (v : List Int) : St := ⟨[(0, .sl 1000000000 aaZ0 abZ0), (1, .i acZ0), (2, .i adZ0), (3, .fn 91 []), (8, .i sZ1.1)], [(1000000000, .arr 1 (v.map AV.i))]⟩
theorem w_slices_insertionSortCmpFunc_intM2L2 (aaZ0 : Nat) (abZ0 : Nat) (acZ0 : Int) (adZ0 : Int) (sZ1 : Int × List Int) (sZ3 : Int × List Int) (o : (Int × List Int) ⊕ (List Int)) (h : M_slices_insertionSortCmpFunc_intM2L2 aaZ0 abZ0 acZ0 sZ3 = some o) : AWP (OkS Try.prog) A117M2L2 (qL [0, 1, 2, 3, 8, 9] [1000000000] (S_slices_insertionSortCmpFunc_intM2L2 aaZ0 abZ0 acZ0 adZ0 sZ1) (qX 2 [0, 1, 2, 3, 8] [1000000000] (SX_slices_insertionSortCmpFunc_intM2L2 aaZ0 abZ0 acZ0 adZ0 sZ1)) o) (S_slices_insertionSortCmpFunc_intM2L2 aaZ0 abZ0 acZ0 adZ0 sZ1 sZ3) := by
  unfold M_slices_insertionSortCmpFunc_intM2L2 at h
  simp only [ZC, S_slices_insertionSortCmpFunc_intM2L2, A117M2L2]
  obtain ⟨oZ10, hoZ10, h⟩ := bind_s h
  try refine ZF trivial ?_
  refine join_rule0 (sh := (fun v => ⟨[(0, .sl 1000000000 aaZ0 abZ0), (1, .i acZ0), (2, .i adZ0), (3, .fn 91 []), (8, .i sZ1.1), (9, .i sZ3.1), (34, .b v)], [(1000000000, .arr 1 (sZ3.2.map AV.i))]⟩)) (s := oZ10) ?_ ?_
  · replace h := hoZ10
    obtain ⟨cZ4, h⟩ | ⟨cZ4, h⟩ := cond_s h
    · obtain ⟨kZ5, hkZ5, h⟩ := bind_s h
      obtain ⟨hkZ5a, hkZ5b⟩ := grd_s hkZ5
      obtain ⟨yZ6, hyZ6, h⟩ := bind_s h
      obtain ⟨kZ7, hkZ7, h⟩ := bind_s h
      obtain ⟨hkZ7a, hkZ7b⟩ := grd_s hkZ7
      obtain ⟨yZ8, hyZ8, h⟩ := bind_s h
      obtain ⟨rZ9, hrZ9, h⟩ := bind_s h
      refine ZF (ZA cZ4 (ZA hkZ5a (ZA hkZ5b (ZA hyZ6 (ZA hkZ7a (ZA hkZ7b hyZ8)))))) ?_
      refine ZS (ZA cZ4 (ZA hkZ5a (ZA hkZ5b (ZA hyZ6 (ZA hkZ7a (ZA hkZ7b hyZ8)))))) (w_impl_FewestUnits_c1 _ _ hrZ9) ?_
      refine ZG ?_
      cases h
      exact ZL (ZA cZ4 (ZA hkZ5a (ZA hkZ5b (ZA hyZ6 (ZA hkZ7a (ZA hkZ7b hyZ8)))))) trivial
    · cases h
      exact ZL cZ4 trivial
  · simp only [ZC, A117M2R1]
    obtain ⟨cZ11, h⟩ | ⟨cZ11, h⟩ := cond_s h
    · obtain ⟨kZ12, hkZ12, h⟩ := bind_s h
      obtain ⟨hkZ12a, hkZ12b⟩ := grd_s hkZ12
      obtain ⟨yZ13, hyZ13, h⟩ := bind_s h
      obtain ⟨kZ14, hkZ14, h⟩ := bind_s h
      obtain ⟨hkZ14a, hkZ14b⟩ := grd_s hkZ14
      obtain ⟨yZ15, hyZ15, h⟩ := bind_s h
      obtain ⟨lZ16, hlZ16, h⟩ := bnd_s h
      have eZ17 : (sZ3.2.map AV.i).set (aaZ0 + (Int.toNat sZ3.1)) (.i yZ13) = lZ16.map AV.i := by rw [← hlZ16, List.map_set]
      obtain ⟨yZ18, hyZ18, h⟩ := bind_s h
      obtain ⟨lZ19, hlZ19, h⟩ := bnd_s h
      have eZ20 : (lZ16.map AV.i).set (aaZ0 + (Int.toNat (IntKind.wrap .i64 (sZ3.1 - 1)))) (.i yZ15) = lZ19.map AV.i := by rw [← hlZ19, List.map_set]
      cases h
      exact ZL (ZA cZ11 (ZA hkZ12a (ZA hkZ12b (ZA hyZ13 (ZA hkZ14a (ZA hkZ14b (ZA hyZ15 (ZA eZ17 (ZA hyZ18 eZ20))))))))) (ZA S_slices_insertionSortCmpFunc_intM2L2.eq_1 (ZA SX_slices_insertionSortCmpFunc_intM2L2.eq_1 (ZA hlZ16.symm hlZ19.symm)))
    · cases h
      exact ZL cZ11 (ZA S_slices_insertionSortCmpFunc_intM2L2.eq_1 SX_slices_insertionSortCmpFunc_intM2L2.eq_1)
def S_slices_insertionSortCmpFunc_intM2L1 (aaZ0 : Nat) (abZ0 : Nat) (acZ0 : Int) (adZ0 : Int) (v : Int × List Int) : St := ⟨[(0, .sl 1000000000 aaZ0 abZ0), (1, .i acZ0), (2, .i adZ0), (3, .fn 91 []), (8, .i v.1)], [(1000000000, .arr 1 (v.2.map AV.i))]⟩
def SX_slices_insertionSortCmpFunc_intM2L1 (v : List Int) : St := ⟨[], [(1000000000, .arr 1 (v.map AV.i))]⟩
theorem w_slices_insertionSortCmpFunc_intM2L1 (aaZ0 : Nat) (abZ0 : Nat) (acZ0 : Int) (adZ0 : Int) (sZ1 : Int × List Int) (o : (Int × List Int) ⊕ (List Int)) (h : M_slices_insertionSortCmpFunc_intM2L1 aaZ0 abZ0 acZ0 adZ0 sZ1 = some o) : AWP (OkS Try.prog) A117M2L4 (qL [0, 1, 2, 3, 8] [1000000000] (S_slices_insertionSortCmpFunc_intM2L1 aaZ0 abZ0 acZ0 adZ0) (qX 0 [] [1000000000] (SX_slices_insertionSortCmpFunc_intM2L1)) o) (S_slices_insertionSortCmpFunc_intM2L1 aaZ0 abZ0 acZ0 adZ0 sZ1) := by
  unfold M_slices_insertionSortCmpFunc_intM2L1 at h
  simp only [ZC, S_slices_insertionSortCmpFunc_intM2L1, A117M2L4]
  obtain ⟨cZ2, h⟩ | ⟨cZ2, h⟩ := cond_s h
  · obtain ⟨oZ23, hoZ23, h⟩ := bind_s h
    try refine ZF cZ2 ?_
    refine join_rule0 (sh := (fun v => ⟨[(0, .sl 1000000000 aaZ0 abZ0), (1, .i acZ0), (2, .i adZ0), (3, .fn 91 []), (8, .i sZ1.1)], [(1000000000, .arr 1 (v.map AV.i))]⟩)) (s := oZ23) ?_ ?_
    · replace h := hoZ23
      obtain ⟨oZ21, hoZ21, h⟩ := bind_s h
      try refine ZF cZ2 ?_
      first | refine tail_rule0 (blk_rule0 (loop_rule (w_slices_insertionSortCmpFunc_intM2L2 aaZ0 abZ0 acZ0 adZ0 sZ1) hoZ21 ?_)) (fun τ qZ22 => ?_) | refine tail_blk0 (loop_rule (w_slices_insertionSortCmpFunc_intM2L2 aaZ0 abZ0 acZ0 adZ0 sZ1) hoZ21 ?_) (fun τ qZ22 => ?_)
      · exact ZK (ZA S_slices_insertionSortCmpFunc_intM2L2.eq_1 SX_slices_insertionSortCmpFunc_intM2L2.eq_1)
      · cases h
        try refine ZF trivial ?_
        refine ⟨rfl, Shp.sub qZ22 (by decide) (by decide) ?_⟩
        exact ZK SX_slices_insertionSortCmpFunc_intM2L2.eq_1
    · simp only [ZC, A117M2R3]
      cases h
      exact ZL cZ2 (ZA S_slices_insertionSortCmpFunc_intM2L1.eq_1 SX_slices_insertionSortCmpFunc_intM2L1.eq_1)
  · cases h
    exact ZL cZ2 (ZA S_slices_insertionSortCmpFunc_intM2L1.eq_1 SX_slices_insertionSortCmpFunc_intM2L1.eq_1)
theorem w_slices_insertionSortCmpFunc_intM2 (aaZ0 : Nat) (abZ0 : Nat) (acZ0 : Int) (adZ0 : Int) (aeZ0 : List Int) {r : List Int} (h : M_slices_insertionSortCmpFunc_intM2 aaZ0 abZ0 acZ0 adZ0 aeZ0 = some r) : OkM Try.prog 117 [.sl 1000000000 aaZ0 abZ0, .i acZ0, .i adZ0, .fn 91 []] [(1000000000, .arr 1 (aeZ0.map AV.i))] ((fun (r : List Int) => .tup []) r) ((fun (r : List Int) => [(1000000000, .arr 1 (r.map AV.i))]) r) := by
  refine okM_of_body (lr := [1000000000]) hmix m117M2 rfl rfl ?_
  unfold M_slices_insertionSortCmpFunc_intM2 at h
  simp only [ZC, A117M2, V117M2]
  obtain ⟨oZ24, hoZ24, h⟩ := bind_s h
  try refine ZF trivial ?_
  first | refine tail_rule0 (blk_rule0 (loop_rule (w_slices_insertionSortCmpFunc_intM2L1 aaZ0 abZ0 acZ0 adZ0) hoZ24 ?_)) (fun τ qZ25 => ?_) | refine tail_blk0 (loop_rule (w_slices_insertionSortCmpFunc_intM2L1 aaZ0 abZ0 acZ0 adZ0) hoZ24 ?_) (fun τ qZ25 => ?_)
  · exact ZK (ZA S_slices_insertionSortCmpFunc_intM2L1.eq_1 SX_slices_insertionSortCmpFunc_intM2L1.eq_1)
  · cases h
    refine finM_shp qZ25 (by decide) ?_ rfl
    exact ZK (ZA V117M2.eq_1 SX_slices_insertionSortCmpFunc_intM2L1.eq_1)
def S_slices_heapSortCmpFunc_intM2L1 (aaZ0 : Nat) (abZ0 : Nat) (acZ0 : Int) (adZ0 : Int) (v : Int × List Int) : St := ⟨[(0, .sl 1000000000 aaZ0 abZ0), (3, .fn 91 []), (8, .i acZ0), (9, .i 0), (10, .i (IntKind.wrap .i64 (adZ0 - acZ0))), (11, .i v.1)], [(1000000000, .arr 1 (v.2.map AV.i))]⟩
def SX_slices_heapSortCmpFunc_intM2L1 (aaZ0 : Nat) (abZ0 : Nat) (acZ0 : Int) (adZ0 : Int) (v : List Int) : St := ⟨[(0, .sl 1000000000 aaZ0 abZ0), (3, .fn 91 []), (8, .i acZ0), (9, .i 0), (10, .i (IntKind.wrap .i64 (adZ0 - acZ0)))], [(1000000000, .arr 1 (v.map AV.i))]⟩
theorem w_slices_heapSortCmpFunc_intM2L1 (aaZ0 : Nat) (abZ0 : Nat) (acZ0 : Int) (adZ0 : Int) (sZ2 : Int × List Int) (o : (Int × List Int) ⊕ (List Int)) (h : M_slices_heapSortCmpFunc_intM2L1 aaZ0 abZ0 acZ0 adZ0 sZ2 = some o) : AWP (OkS Try.prog) A118M2L1 (qL [0, 3, 8, 9, 10, 11] [1000000000] (S_slices_heapSortCmpFunc_intM2L1 aaZ0 abZ0 acZ0 adZ0) (qX 0 [0, 3, 8, 9, 10] [1000000000] (SX_slices_heapSortCmpFunc_intM2L1 aaZ0 abZ0 acZ0 adZ0)) o) (S_slices_heapSortCmpFunc_intM2L1 aaZ0 abZ0 acZ0 adZ0 sZ2) := by
  unfold M_slices_heapSortCmpFunc_intM2L1 at h
  simp only [ZC, S_slices_heapSortCmpFunc_intM2L1, A118M2L1]
  obtain ⟨cZ3, h⟩ | ⟨cZ3, h⟩ := cond_s h
  · obtain ⟨rZ4, hrZ4, h⟩ := bind_s h
    refine ZF cZ3 ?_
    refine ZW cZ3 (w_slices_siftDownCmpFunc_intM2 _ _ _ _ _ _ hrZ4) (h2 := by first | exact nm_ok [1000000000] rfl (by decide +kernel) | exact nm_ok2 [1000000000] [] rfl (by decide +kernel) ZQ | exact ZQ) (hk := ?_)
    refine ZG ?_
    cases h
    exact ZL cZ3 (ZA S_slices_heapSortCmpFunc_intM2L1.eq_1 SX_slices_heapSortCmpFunc_intM2L1.eq_1)
  · cases h
    exact ZL cZ3 (ZA S_slices_heapSortCmpFunc_intM2L1.eq_1 SX_slices_heapSortCmpFunc_intM2L1.eq_1)
def S_slices_heapSortCmpFunc_intM2L2 (aaZ0 : Nat) (abZ0 : Nat) (acZ0 : Int) (v : Int × List Int) : St := ⟨[(0, .sl 1000000000 aaZ0 abZ0), (3, .fn 91 []), (8, .i acZ0), (9, .i 0), (12, .i v.1)], [(1000000000, .arr 1 (v.2.map AV.i))]⟩
def SX_slices_heapSortCmpFunc_intM2L2 (v : List Int) : St := ⟨[], [(1000000000, .arr 1 (v.map AV.i))]⟩
theorem w_slices_heapSortCmpFunc_intM2L2 (aaZ0 : Nat) (abZ0 : Nat) (acZ0 : Int) (sZ6 : Int × List Int) (o : (Int × List Int) ⊕ (List Int)) (h : M_slices_heapSortCmpFunc_intM2L2 aaZ0 abZ0 acZ0 sZ6 = some o) : AWP (OkS Try.prog) A118M2L3 (qL [0, 3, 8, 9, 12] [1000000000] (S_slices_heapSortCmpFunc_intM2L2 aaZ0 abZ0 acZ0) (qX 2 [] [1000000000] (SX_slices_heapSortCmpFunc_intM2L2)) o) (S_slices_heapSortCmpFunc_intM2L2 aaZ0 abZ0 acZ0 sZ6) := by
  unfold M_slices_heapSortCmpFunc_intM2L2 at h
  simp only [ZC, S_slices_heapSortCmpFunc_intM2L2, A118M2L3]
  obtain ⟨cZ7, h⟩ | ⟨cZ7, h⟩ := cond_s h
  · obtain ⟨kZ8, hkZ8, h⟩ := bind_s h
    obtain ⟨hkZ8a, hkZ8b⟩ := grd_s hkZ8
    obtain ⟨yZ9, hyZ9, h⟩ := bind_s h
    obtain ⟨kZ10, hkZ10, h⟩ := bind_s h
    obtain ⟨hkZ10a, hkZ10b⟩ := grd_s hkZ10
    obtain ⟨yZ11, hyZ11, h⟩ := bind_s h
    obtain ⟨lZ12, hlZ12, h⟩ := bnd_s h
    have eZ13 : (sZ6.2.map AV.i).set (aaZ0 + (Int.toNat acZ0)) (.i yZ9) = lZ12.map AV.i := by rw [← hlZ12, List.map_set]
    obtain ⟨yZ14, hyZ14, h⟩ := bind_s h
    obtain ⟨lZ15, hlZ15, h⟩ := bnd_s h
    have eZ16 : (lZ12.map AV.i).set (aaZ0 + (Int.toNat (IntKind.wrap .i64 (acZ0 + sZ6.1)))) (.i yZ11) = lZ15.map AV.i := by rw [← hlZ15, List.map_set]
    obtain ⟨rZ17, hrZ17, h⟩ := bind_s h
    refine ZF (ZA cZ7 (ZA hkZ8a (ZA hkZ8b (ZA hyZ9 (ZA hkZ10a (ZA hkZ10b (ZA hyZ11 (ZA eZ13 (ZA hyZ14 eZ16))))))))) ?_
    refine ZW (ZA cZ7 (ZA hkZ8a (ZA hkZ8b (ZA hyZ9 (ZA hkZ10a (ZA hkZ10b (ZA hyZ11 (ZA eZ13 (ZA hyZ14 eZ16))))))))) (w_slices_siftDownCmpFunc_intM2 _ _ _ _ _ _ hrZ17) (h2 := by first | exact nm_ok [1000000000] rfl (by decide +kernel) | exact nm_ok2 [1000000000] [] rfl (by decide +kernel) ZQ | exact ZQ) (hk := ?_)
    refine ZG ?_
    cases h
    exact ZL (ZA cZ7 (ZA hkZ8a (ZA hkZ8b (ZA hyZ9 (ZA hkZ10a (ZA hkZ10b (ZA hyZ11 (ZA eZ13 (ZA hyZ14 eZ16))))))))) (ZA S_slices_heapSortCmpFunc_intM2L2.eq_1 (ZA SX_slices_heapSortCmpFunc_intM2L2.eq_1 (ZA hlZ12.symm hlZ15.symm)))
  · cases h
    exact ZL cZ7 (ZA S_slices_heapSortCmpFunc_intM2L2.eq_1 SX_slices_heapSortCmpFunc_intM2L2.eq_1)
theorem w_slices_heapSortCmpFunc_intM2 (aaZ0 : Nat) (abZ0 : Nat) (acZ0 : Int) (adZ0 : Int) (aeZ0 : List Int) {r : List Int} (h : M_slices_heapSortCmpFunc_intM2 aaZ0 abZ0 acZ0 adZ0 aeZ0 = some r) : OkM Try.prog 118 [.sl 1000000000 aaZ0 abZ0, .i acZ0, .i adZ0, .fn 91 []] [(1000000000, .arr 1 (aeZ0.map AV.i))] ((fun (r : List Int) => .tup []) r) ((fun (r : List Int) => [(1000000000, .arr 1 (r.map AV.i))]) r) := by
  refine okM_of_body (lr := [1000000000]) hmix m118M2 rfl rfl ?_
  unfold M_slices_heapSortCmpFunc_intM2 at h
  simp only [ZC, A118M2, V118M2]
  obtain ⟨uZ1, huZ1, h⟩ := bind_s h
  have huZ1g := grd_s huZ1
  obtain ⟨oZ5, hoZ5, h⟩ := bind_s h
  try refine ZF huZ1g ?_
  refine join_rule0 (blk_rule0 (loop_rule (w_slices_heapSortCmpFunc_intM2L1 aaZ0 abZ0 acZ0 adZ0) hoZ5 ?_)) ?_
  · exact ZK (ZA S_slices_heapSortCmpFunc_intM2L1.eq_1 SX_slices_heapSortCmpFunc_intM2L1.eq_1)
  · simp only [ZC, SX_slices_heapSortCmpFunc_intM2L1, A118M2R2]
    obtain ⟨oZ18, hoZ18, h⟩ := bind_s h
    try refine ZF huZ1g ?_
    first | refine tail_rule0 (blk_rule0 (loop_rule (w_slices_heapSortCmpFunc_intM2L2 aaZ0 abZ0 acZ0) hoZ18 ?_)) (fun τ qZ19 => ?_) | refine tail_blk0 (loop_rule (w_slices_heapSortCmpFunc_intM2L2 aaZ0 abZ0 acZ0) hoZ18 ?_) (fun τ qZ19 => ?_)
    · exact ZK (ZA S_slices_heapSortCmpFunc_intM2L2.eq_1 SX_slices_heapSortCmpFunc_intM2L2.eq_1)
    · cases h
      refine finM_shp qZ19 (by decide) ?_ rfl
      exact ZK (ZA V118M2.eq_1 SX_slices_heapSortCmpFunc_intM2L2.eq_1)
theorem w_slices_choosePivotCmpFunc_intM2 (aaZ0 : Nat) (abZ0 : Nat) (acZ0 : Int) (adZ0 : Int) (aeZ0 : List Int) {r : Int × Int × List Int} (h : M_slices_choosePivotCmpFunc_intM2 aaZ0 abZ0 acZ0 adZ0 aeZ0 = some r) : OkM Try.prog 120 [.sl 1000000000 aaZ0 abZ0, .i acZ0, .i adZ0, .fn 91 []] [(1000000000, .arr 1 (aeZ0.map AV.i))] ((fun (r : Int × Int × List Int) => .tup [.i r.1, .i r.2.1]) r) ((fun (r : Int × Int × List Int) => [(1000000000, .arr 1 (r.2.2.map AV.i))]) r) := by
  refine okM_of_body (lr := [1000000000]) hmix m120M2 rfl rfl ?_
  unfold M_slices_choosePivotCmpFunc_intM2 at h
  simp only [ZC, A120M2, V120M2]
  obtain ⟨uZ1, huZ1, h⟩ := bind_s h
  have huZ1g := grd_s huZ1
  obtain ⟨uZ2, huZ2, h⟩ := bind_s h
  have huZ2g := grd_s huZ2
  obtain ⟨uZ3, huZ3, h⟩ := bind_s h
  have huZ3g := grd_s huZ3
  obtain ⟨oZ11, hoZ11, h⟩ := bind_s h
  try refine ZF (ZA huZ1g (ZA huZ2g huZ3g)) ?_
  refine join_rule0 (sh := (fun v => ⟨[(11, .pt 11 0 0), (13, .i v.1)], [(11, .var (.i v.2.1)), (1000000000, .arr 1 (v.2.2.map AV.i))]⟩)) (s := oZ11) ?_ ?_
  · replace h := hoZ11
    obtain ⟨cZ4, h⟩ | ⟨cZ4, h⟩ := cond_s h
    · obtain ⟨oZ9, hoZ9, h⟩ := bind_s h
      try refine ZF (ZA huZ1g (ZA huZ2g (ZA huZ3g cZ4))) ?_
      refine join_rule0 (sh := (fun v => ⟨[(0, .sl 1000000000 aaZ0 abZ0), (3, .fn 91 []), (11, .pt 11 0 0), (12, .i v.1), (13, .i v.2.1), (14, .i v.2.2.1)], [(11, .var (.i v.2.2.2.1)), (1000000000, .arr 1 (v.2.2.2.2.map AV.i))]⟩)) (s := oZ9) ?_ ?_
      · replace h := hoZ9
        obtain ⟨cZ5, h⟩ | ⟨cZ5, h⟩ := cond_s h
        · obtain ⟨rZ6, hrZ6, h⟩ := bind_s h
          refine ZF (ZA huZ1g (ZA huZ2g (ZA huZ3g (ZA cZ4 cZ5)))) ?_
          refine ZW (ZA huZ1g (ZA huZ2g (ZA huZ3g (ZA cZ4 cZ5)))) (w_slices_medianAdjacentCmpFunc_intM2 _ _ _ _ _ hrZ6) (h2 := by first | exact nm_ok [1000000000, 1000000001] rfl (by decide +kernel) | exact nm_ok2 [1000000000, 1000000001] [] rfl (by decide +kernel) ZQ | exact ZQ) (hk := ?_)
          refine ZG ?_
          obtain ⟨rZ7, hrZ7, h⟩ := bind_s h
          refine ZF (ZA huZ1g (ZA huZ2g (ZA huZ3g (ZA cZ4 cZ5)))) ?_
          refine ZW (ZA huZ1g (ZA huZ2g (ZA huZ3g (ZA cZ4 cZ5)))) (w_slices_medianAdjacentCmpFunc_intM2 _ _ _ _ _ hrZ7) (h2 := by first | exact nm_ok [1000000000, 1000000001] rfl (by decide +kernel) | exact nm_ok2 [1000000000, 1000000001] [] rfl (by decide +kernel) ZQ | exact ZQ) (hk := ?_)
          refine ZG ?_
          obtain ⟨rZ8, hrZ8, h⟩ := bind_s h
          refine ZF (ZA huZ1g (ZA huZ2g (ZA huZ3g (ZA cZ4 cZ5)))) ?_
          refine ZW (ZA huZ1g (ZA huZ2g (ZA huZ3g (ZA cZ4 cZ5)))) (w_slices_medianAdjacentCmpFunc_intM2 _ _ _ _ _ hrZ8) (h2 := by first | exact nm_ok [1000000000, 1000000001] rfl (by decide +kernel) | exact nm_ok2 [1000000000, 1000000001] [] rfl (by decide +kernel) ZQ | exact ZQ) (hk := ?_)
          refine ZG ?_
          cases h
          exact ZL (ZA huZ1g (ZA huZ2g (ZA huZ3g (ZA cZ4 cZ5)))) trivial
        · cases h
          exact ZL (ZA huZ1g (ZA huZ2g (ZA huZ3g (ZA cZ4 cZ5)))) trivial
      · simp only [ZC, A120M2R1]
        obtain ⟨rZ10, hrZ10, h⟩ := bind_s h
        refine ZF (ZA huZ1g (ZA huZ2g (ZA huZ3g cZ4))) ?_
        refine ZW (ZA huZ1g (ZA huZ2g (ZA huZ3g cZ4))) (w_slices_medianCmpFunc_intM2 _ _ _ _ _ _ _ hrZ10) (h2 := by first | exact nm_ok [1000000000, 1000000001] rfl (by decide +kernel) | exact nm_ok2 [1000000000, 1000000001] [] rfl (by decide +kernel) ZQ | exact ZQ) (hk := ?_)
        refine ZG ?_
        cases h
        exact ZL (ZA huZ1g (ZA huZ2g (ZA huZ3g cZ4))) trivial
    · cases h
      exact ZL (ZA huZ1g (ZA huZ2g (ZA huZ3g cZ4))) trivial
  · simp only [ZC, A120M2R2]
    obtain ⟨cZ12, h⟩ | ⟨cZ12, h⟩ := cond_s h
    · cases h
      exact ZL (ZA huZ1g (ZA huZ2g (ZA huZ3g cZ12))) V120M2.eq_1
    · obtain ⟨cZ13, h⟩ | ⟨cZ13, h⟩ := cond_s h
      · cases h
        exact ZL (ZA huZ1g (ZA huZ2g (ZA huZ3g (ZA cZ12 cZ13)))) V120M2.eq_1
      · cases h
        exact ZL (ZA huZ1g (ZA huZ2g (ZA huZ3g (ZA cZ12 cZ13)))) V120M2.eq_1
theorem w_slices_nextPowerOfTwo (lengthZ0 : Int) {r : Int} (h : M_slices_nextPowerOfTwo lengthZ0 = some r) : Ok Try.prog 131 [.i lengthZ0] ((fun r => .sc (.int .u64 r)) r) := by
  refine ok_of_body hmix m131 rfl ?_
  unfold M_slices_nextPowerOfTwo at h
  simp only [ZC, A131, V131, body_eq]
  obtain ⟨rZ1, hrZ1, h⟩ := bind_s h
  refine ZF trivial ?_
  refine ZS trivial (w_math_bits_Len _ hrZ1) ?_
  refine ZG ?_
  obtain ⟨uZ2, huZ2, h⟩ := bind_s h
  have huZ2g := grd_s huZ2
  cases h
  exact ZL huZ2g V131.eq_1
theorem w_slices_xorshift_NextM1 (aaZ0 : Int) {r : Int × Int} (h : M_slices_xorshift_NextM1 aaZ0 = some r) : OkM Try.prog 132 [.pt 1000000000 0 0] [(1000000000, .var (.sc (.int .u64 aaZ0)))] ((fun (r : Int × Int) => .sc (.int .u64 r.1)) r) ((fun (r : Int × Int) => [(1000000000, .var (.sc (.int .u64 r.2)))]) r) := by
  refine okM_of_body (lr := [1000000000]) hmix m132M1 rfl rfl ?_
  unfold M_slices_xorshift_NextM1 at h
  simp only [ZC, A132M1, V132M1]
  cases h
  exact ZL trivial V132M1.eq_1
def S_slices_breakPatternsCmpFunc_intM1L1 (aaZ0 : Nat) (abZ0 : Nat) (acZ0 : Int) (adZ0 : Int) (rZ2 : Int) (v : Int × Int × List Int) : St := ⟨[(0, .sl 1000000000 aaZ0 abZ0), (1, .i acZ0), (8, .i (IntKind.wrap .i64 (adZ0 - acZ0))), (9, .pt 9 0 0), (10, .sc (.int .u64 rZ2)), (11, .i v.1)], [(9, .var (.sc (.int .u64 v.2.1))), (1000000000, .arr 1 (v.2.2.map AV.i))]⟩
def SX_slices_breakPatternsCmpFunc_intM1L1 (v : List Int) : St := ⟨[], [(1000000000, .arr 1 (v.map AV.i))]⟩
theorem w_slices_breakPatternsCmpFunc_intM1L1 (aaZ0 : Nat) (abZ0 : Nat) (acZ0 : Int) (adZ0 : Int) (rZ2 : Int) (sZ4 : Int × Int × List Int) (o : (Int × Int × List Int) ⊕ (List Int)) (h : M_slices_breakPatternsCmpFunc_intM1L1 aaZ0 abZ0 acZ0 adZ0 rZ2 sZ4 = some o) : AWP (OkS Try.prog) A119M1L2 (qL [0, 1, 8, 9, 10, 11] [9, 1000000000] (S_slices_breakPatternsCmpFunc_intM1L1 aaZ0 abZ0 acZ0 adZ0 rZ2) (qX 0 [] [1000000000] (SX_slices_breakPatternsCmpFunc_intM1L1)) o) (S_slices_breakPatternsCmpFunc_intM1L1 aaZ0 abZ0 acZ0 adZ0 rZ2 sZ4) := by
  unfold M_slices_breakPatternsCmpFunc_intM1L1 at h
  simp only [ZC, S_slices_breakPatternsCmpFunc_intM1L1, A119M1L2]
  obtain ⟨uZ5, huZ5, h⟩ := bind_s h
  have huZ5g := grd_s huZ5
  obtain ⟨cZ6, h⟩ | ⟨cZ6, h⟩ := cond_s h
  · obtain ⟨rZ7, hrZ7, h⟩ := bind_s h
    refine ZF (ZA huZ5g cZ6) ?_
    refine ZW (ZA huZ5g cZ6) (w_slices_xorshift_NextM1 _ hrZ7) (h2 := by first | exact nm_ok [1000000000] rfl (by decide +kernel) | exact nm_ok2 [1000000000] [] rfl (by decide +kernel) ZQ | exact ZQ) (hk := ?_)
    refine ZG ?_
    obtain ⟨oZ9, hoZ9, h⟩ := bind_s h
    try refine ZF (ZA huZ5g cZ6) ?_
    refine join_rule0 (sh := (fun v => ⟨[(0, .sl 1000000000 aaZ0 abZ0), (1, .i acZ0), (8, .i (IntKind.wrap .i64 (adZ0 - acZ0))), (9, .pt 9 0 0), (10, .sc (.int .u64 rZ2)), (11, .i sZ4.1), (12, .i v)], [(9, .var (.sc (.int .u64 rZ7.2))), (1000000000, .arr 1 (sZ4.2.2.map AV.i))]⟩)) (s := oZ9) ?_ ?_
    · replace h := hoZ9
      obtain ⟨cZ8, h⟩ | ⟨cZ8, h⟩ := cond_s h
      · cases h
        exact ZL (ZA huZ5g (ZA cZ6 cZ8)) trivial
      · cases h
        exact ZL (ZA huZ5g (ZA cZ6 cZ8)) trivial
    · simp only [ZC, A119M1R1]
      obtain ⟨kZ10, hkZ10, h⟩ := bind_s h
      obtain ⟨hkZ10a, hkZ10b⟩ := grd_s hkZ10
      obtain ⟨yZ11, hyZ11, h⟩ := bind_s h
      obtain ⟨kZ12, hkZ12, h⟩ := bind_s h
      obtain ⟨hkZ12a, hkZ12b⟩ := grd_s hkZ12
      obtain ⟨yZ13, hyZ13, h⟩ := bind_s h
      obtain ⟨lZ14, hlZ14, h⟩ := bnd_s h
      have eZ15 : (sZ4.2.2.map AV.i).set (aaZ0 + (Int.toNat sZ4.1)) (.i yZ11) = lZ14.map AV.i := by rw [← hlZ14, List.map_set]
      obtain ⟨yZ16, hyZ16, h⟩ := bind_s h
      obtain ⟨lZ17, hlZ17, h⟩ := bnd_s h
      have eZ18 : (lZ14.map AV.i).set (aaZ0 + (Int.toNat (IntKind.wrap .i64 (acZ0 + oZ9)))) (.i yZ13) = lZ17.map AV.i := by rw [← hlZ17, List.map_set]
      cases h
      exact ZL (ZA huZ5g (ZA cZ6 (ZA hkZ10a (ZA hkZ10b (ZA hyZ11 (ZA hkZ12a (ZA hkZ12b (ZA hyZ13 (ZA eZ15 (ZA hyZ16 eZ18)))))))))) (ZA S_slices_breakPatternsCmpFunc_intM1L1.eq_1 (ZA SX_slices_breakPatternsCmpFunc_intM1L1.eq_1 (ZA hlZ14.symm hlZ17.symm)))
  · cases h
    exact ZL (ZA huZ5g cZ6) (ZA S_slices_breakPatternsCmpFunc_intM1L1.eq_1 SX_slices_breakPatternsCmpFunc_intM1L1.eq_1)
theorem w_slices_breakPatternsCmpFunc_intM1 (aaZ0 : Nat) (abZ0 : Nat) (acZ0 : Int) (adZ0 : Int) (aeZ0 : List Int) {r : List Int} (h : M_slices_breakPatternsCmpFunc_intM1 aaZ0 abZ0 acZ0 adZ0 aeZ0 = some r) : OkM Try.prog 119 [.sl 1000000000 aaZ0 abZ0, .i acZ0, .i adZ0, .fn 91 []] [(1000000000, .arr 1 (aeZ0.map AV.i))] ((fun (r : List Int) => .tup []) r) ((fun (r : List Int) => [(1000000000, .arr 1 (r.map AV.i))]) r) := by
  refine okM_of_body (lr := [1000000000]) hmix m119M1 rfl rfl ?_
  unfold M_slices_breakPatternsCmpFunc_intM1 at h
  simp only [ZC, A119M1, V119M1]
  obtain ⟨cZ1, h⟩ | ⟨cZ1, h⟩ := cond_s h
  · obtain ⟨rZ2, hrZ2, h⟩ := bind_s h
    refine ZF cZ1 ?_
    refine ZS cZ1 (w_slices_nextPowerOfTwo _ hrZ2) ?_
    refine ZG ?_
    obtain ⟨uZ3, huZ3, h⟩ := bind_s h
    have huZ3g := grd_s huZ3
    obtain ⟨oZ19, hoZ19, h⟩ := bind_s h
    try refine ZF (ZA cZ1 huZ3g) ?_
    first | refine tail_rule0 (blk_rule0 (loop_rule (w_slices_breakPatternsCmpFunc_intM1L1 aaZ0 abZ0 acZ0 adZ0 rZ2) hoZ19 ?_)) (fun τ qZ20 => ?_) | refine tail_blk0 (loop_rule (w_slices_breakPatternsCmpFunc_intM1L1 aaZ0 abZ0 acZ0 adZ0 rZ2) hoZ19 ?_) (fun τ qZ20 => ?_)
    · exact ZK (ZA S_slices_breakPatternsCmpFunc_intM1L1.eq_1 SX_slices_breakPatternsCmpFunc_intM1L1.eq_1)
    · cases h
      refine finM_shp qZ20 (by decide) ?_ rfl
      exact ZK (ZA V119M1.eq_1 SX_slices_breakPatternsCmpFunc_intM1L1.eq_1)
  · cases h
    exact ZL cZ1 V119M1.eq_1
def S_slices_pdqsortCmpFunc_intM2L1 (aaZ0 : Nat) (abZ0 : Nat) (v : Int × Int × Int × Bool × Bool × List Int) : St := ⟨[(0, .sl 1000000000 aaZ0 abZ0), (1, .i v.1), (2, .i v.2.1), (3, .i v.2.2.1), (4, .fn 91 []), (10, .b v.2.2.2.1), (11, .b v.2.2.2.2.1)], [(1000000000, .arr 1 (v.2.2.2.2.2.map AV.i))]⟩
def SX_slices_pdqsortCmpFunc_intM2L1 (v : Empty) : St := ⟨[], []⟩
theorem w_slices_pdqsortCmpFunc_intM2L1 (aaZ0 : Nat) (abZ0 : Nat) (acZ0 : Int) (adZ0 : Int) (aeZ0 : Int) (afZ0 : List Int) (rcZ0 : Nat → Nat → Int → Int → Int → List Int → Option (List Int)) (ihZ0 : ∀ (aaZ0 : Nat) (abZ0 : Nat) (acZ0 : Int) (adZ0 : Int) (aeZ0 : Int) (afZ0 : List Int) {r : List Int}, rcZ0 aaZ0 abZ0 acZ0 adZ0 aeZ0 afZ0 = some r → OkM Try.prog 108 [.sl 1000000000 aaZ0 abZ0, .i acZ0, .i adZ0, .i aeZ0, .fn 91 []] [(1000000000, .arr 1 (afZ0.map AV.i))] ((fun (r : List Int) => .tup []) r) ((fun (r : List Int) => [(1000000000, .arr 1 (r.map AV.i))]) r)) (sZ1 : Int × Int × Int × Bool × Bool × List Int) (o : (Int × Int × Int × Bool × Bool × List Int) ⊕ (Empty ⊕ (List Int))) (h : M_slices_pdqsortCmpFunc_intM2L1 aaZ0 abZ0 rcZ0 sZ1 = some o) : AWP (OkS Try.prog) A108M2L6 (qL [0, 1, 2, 3, 4, 10, 11] [1000000000] (S_slices_pdqsortCmpFunc_intM2L1 aaZ0 abZ0) (qS (qX 0 [] [] (SX_slices_pdqsortCmpFunc_intM2L1)) (qM V108M2 [1000000000] (fun (r : List Int) => .tup []) (fun (r : List Int) => [(1000000000, .arr 1 (r.map AV.i))]))) o) (S_slices_pdqsortCmpFunc_intM2L1 aaZ0 abZ0 sZ1) := by
  unfold M_slices_pdqsortCmpFunc_intM2L1 at h
  simp only [ZC, S_slices_pdqsortCmpFunc_intM2L1, A108M2L6]
  obtain ⟨cZ2, h⟩ | ⟨cZ2, h⟩ := cond_s h
  · obtain ⟨rZ3, hrZ3, h⟩ := bind_s h
    refine ZF cZ2 ?_
    refine ZW cZ2 (w_slices_insertionSortCmpFunc_intM2 _ _ _ _ _ hrZ3) (h2 := by first | exact nm_ok [1000000000] rfl (by decide +kernel) | exact nm_ok2 [1000000000] [] rfl (by decide +kernel) ZQ | exact ZQ) (hk := ?_)
    refine ZG ?_
    cases h
    exact ZL cZ2 V108M2.eq_1
  · obtain ⟨cZ4, h⟩ | ⟨cZ4, h⟩ := cond_s h
    · obtain ⟨rZ5, hrZ5, h⟩ := bind_s h
      refine ZF (ZA cZ2 cZ4) ?_
      refine ZW (ZA cZ2 cZ4) (w_slices_heapSortCmpFunc_intM2 _ _ _ _ _ hrZ5) (h2 := by first | exact nm_ok [1000000000] rfl (by decide +kernel) | exact nm_ok2 [1000000000] [] rfl (by decide +kernel) ZQ | exact ZQ) (hk := ?_)
      refine ZG ?_
      cases h
      exact ZL (ZA cZ2 cZ4) V108M2.eq_1
    · obtain ⟨oZ8, hoZ8, h⟩ := bind_s h
      try refine ZF (ZA cZ2 cZ4) ?_
      refine join_rule0 (sh := (fun v => ⟨[(0, .sl 1000000000 aaZ0 abZ0), (1, .i sZ1.1), (2, .i sZ1.2.1), (3, .i v.1), (4, .fn 91 []), (10, .b sZ1.2.2.2.1), (11, .b sZ1.2.2.2.2.1), (12, .i (IntKind.wrap .i64 (sZ1.2.1 - sZ1.1)))], [(1000000000, .arr 1 (v.2.map AV.i))]⟩)) (s := oZ8) ?_ ?_
      · replace h := hoZ8
        obtain ⟨cZ6, h⟩ | ⟨cZ6, h⟩ := cond_s h
        · obtain ⟨rZ7, hrZ7, h⟩ := bind_s h
          refine ZF (ZA cZ2 (ZA cZ4 cZ6)) ?_
          refine ZW (ZA cZ2 (ZA cZ4 cZ6)) (w_slices_breakPatternsCmpFunc_intM1 _ _ _ _ _ hrZ7) (h2 := by first | exact nm_ok [1000000000] rfl (by decide +kernel) | exact nm_ok2 [1000000000] [] rfl (by decide +kernel) ZQ | exact ZQ) (hk := ?_)
          refine ZG ?_
          cases h
          exact ZL (ZA cZ2 (ZA cZ4 cZ6)) trivial
        · cases h
          exact ZL (ZA cZ2 (ZA cZ4 cZ6)) trivial
      · simp only [ZC, A108M2R4]
        obtain ⟨rZ9, hrZ9, h⟩ := bind_s h
        refine ZF (ZA cZ2 cZ4) ?_
        refine ZW (ZA cZ2 cZ4) (w_slices_choosePivotCmpFunc_intM2 _ _ _ _ _ hrZ9) (h2 := by first | exact nm_ok [1000000000] rfl (by decide +kernel) | exact nm_ok2 [1000000000] [] rfl (by decide +kernel) ZQ | exact ZQ) (hk := ?_)
        refine ZG ?_
        obtain ⟨oZ12, hoZ12, h⟩ := bind_s h
        try refine ZF (ZA cZ2 cZ4) ?_
        refine join_rule0 (sh := (fun v => ⟨[(0, .sl 1000000000 aaZ0 abZ0), (1, .i sZ1.1), (2, .i sZ1.2.1), (3, .i oZ8.1), (4, .fn 91 []), (10, .b sZ1.2.2.2.1), (11, .b sZ1.2.2.2.2.1), (12, .i (IntKind.wrap .i64 (sZ1.2.1 - sZ1.1))), (13, .i v.1), (14, .i v.2.1)], [(1000000000, .arr 1 (v.2.2.map AV.i))]⟩)) (s := oZ12) ?_ ?_
        · replace h := hoZ12
          obtain ⟨cZ10, h⟩ | ⟨cZ10, h⟩ := cond_s h
          · obtain ⟨rZ11, hrZ11, h⟩ := bind_s h
            refine ZF (ZA cZ2 (ZA cZ4 cZ10)) ?_
            refine ZW (ZA cZ2 (ZA cZ4 cZ10)) (w_slices_reverseRangeCmpFunc_intM1 _ _ _ _ _ hrZ11) (h2 := by first | exact nm_ok [1000000000] rfl (by decide +kernel) | exact nm_ok2 [1000000000] [] rfl (by decide +kernel) ZQ | exact ZQ) (hk := ?_)
            refine ZG ?_
            cases h
            exact ZL (ZA cZ2 (ZA cZ4 cZ10)) trivial
          · cases h
            exact ZL (ZA cZ2 (ZA cZ4 cZ10)) trivial
        · simp only [ZC, A108M2R1]
          obtain ⟨oZ19, hoZ19, h⟩ := bind_s h
          try refine ZF (ZA cZ2 cZ4) ?_
          refine join_rule (sh := (fun v => ⟨[(0, .sl 1000000000 aaZ0 abZ0), (1, .i sZ1.1), (2, .i sZ1.2.1), (3, .i oZ8.1), (4, .fn 91 []), (10, .b sZ1.2.2.2.1), (11, .b sZ1.2.2.2.2.1), (12, .i (IntKind.wrap .i64 (sZ1.2.1 - sZ1.1))), (13, .i oZ12.1)], [(1000000000, .arr 1 (v.map AV.i))]⟩)) (q := (qM V108M2 [1000000000] (fun (r : List Int) => .tup []) (fun (r : List Int) => [(1000000000, .arr 1 (r.map AV.i))]))) (o := oZ19) ?_ (fun vZ20 hv => ?_) (fun xZ21 hv e τ hne hq => ?_)
          · replace h := hoZ19
            obtain ⟨oZ15, hoZ15, h⟩ := bind_s h
            try refine ZF (ZA cZ2 cZ4) ?_
            refine join_rule0 (sh := (fun v => ⟨[(0, .sl 1000000000 aaZ0 abZ0), (1, .i sZ1.1), (2, .i sZ1.2.1), (3, .i oZ8.1), (4, .fn 91 []), (10, .b sZ1.2.2.2.1), (11, .b sZ1.2.2.2.2.1), (12, .i (IntKind.wrap .i64 (sZ1.2.1 - sZ1.1))), (13, .i oZ12.1), (75, .b v)], [(1000000000, .arr 1 (oZ12.2.2.map AV.i))]⟩)) (s := oZ15) ?_ ?_
            · replace h := hoZ15
              obtain ⟨cZ13, h⟩ | ⟨cZ13, h⟩ := cond_s h
              · obtain ⟨cZ14, h⟩ | ⟨cZ14, h⟩ := cond_s h
                · cases h
                  exact ZL (ZA cZ2 (ZA cZ4 (ZA cZ13 cZ14))) trivial
                · cases h
                  exact ZL (ZA cZ2 (ZA cZ4 (ZA cZ13 cZ14))) trivial
              · cases h
                exact ZL (ZA cZ2 (ZA cZ4 cZ13)) trivial
            · simp only [ZC, A108M2R5]
              obtain ⟨cZ16, h⟩ | ⟨cZ16, h⟩ := cond_s h
              · obtain ⟨rZ17, hrZ17, h⟩ := bind_s h
                refine ZF (ZA cZ2 (ZA cZ4 cZ16)) ?_
                refine ZW (ZA cZ2 (ZA cZ4 cZ16)) (w_slices_partialInsertionSortCmpFunc_intM1 _ _ _ _ _ hrZ17) (h2 := by first | exact nm_ok [1000000000] rfl (by decide +kernel) | exact nm_ok2 [1000000000] [] rfl (by decide +kernel) ZQ | exact ZQ) (hk := ?_)
                refine ZG ?_
                obtain ⟨cZ18, h⟩ | ⟨cZ18, h⟩ := cond_s h
                · cases h
                  exact ZL (ZA cZ2 (ZA cZ4 (ZA cZ16 cZ18))) V108M2.eq_1
                · cases h
                  exact ZL (ZA cZ2 (ZA cZ4 (ZA cZ16 cZ18))) trivial
              · cases h
                exact ZL (ZA cZ2 (ZA cZ4 cZ16)) trivial
          · subst hv
            simp only [] at h
            simp only [ZC, A108M2R2]
            obtain ⟨oZ28, hoZ28, h⟩ := bind_s h
            try refine ZF (ZA cZ2 cZ4) ?_
            refine join_rule0 (sh := (fun v => ⟨[(0, .sl 1000000000 aaZ0 abZ0), (1, .i sZ1.1), (2, .i sZ1.2.1), (3, .i oZ8.1), (4, .fn 91 []), (10, .b sZ1.2.2.2.1), (11, .b sZ1.2.2.2.2.1), (12, .i (IntKind.wrap .i64 (sZ1.2.1 - sZ1.1))), (13, .i oZ12.1), (97, .b v)], [(1000000000, .arr 1 (vZ20.map AV.i))]⟩)) (s := oZ28) ?_ ?_
            · replace h := hoZ28
              obtain ⟨cZ22, h⟩ | ⟨cZ22, h⟩ := cond_s h
              · obtain ⟨kZ23, hkZ23, h⟩ := bind_s h
                obtain ⟨hkZ23a, hkZ23b⟩ := grd_s hkZ23
                obtain ⟨yZ24, hyZ24, h⟩ := bind_s h
                obtain ⟨kZ25, hkZ25, h⟩ := bind_s h
                obtain ⟨hkZ25a, hkZ25b⟩ := grd_s hkZ25
                obtain ⟨yZ26, hyZ26, h⟩ := bind_s h
                obtain ⟨rZ27, hrZ27, h⟩ := bind_s h
                refine ZF (ZA cZ2 (ZA cZ4 (ZA cZ22 (ZA hkZ23a (ZA hkZ23b (ZA hyZ24 (ZA hkZ25a (ZA hkZ25b hyZ26)))))))) ?_
                refine ZS (ZA cZ2 (ZA cZ4 (ZA cZ22 (ZA hkZ23a (ZA hkZ23b (ZA hyZ24 (ZA hkZ25a (ZA hkZ25b hyZ26)))))))) (w_impl_FewestUnits_c1 _ _ hrZ27) ?_
                refine ZG ?_
                cases h
                exact ZL (ZA cZ2 (ZA cZ4 (ZA cZ22 (ZA hkZ23a (ZA hkZ23b (ZA hyZ24 (ZA hkZ25a (ZA hkZ25b hyZ26)))))))) trivial
              · cases h
                exact ZL (ZA cZ2 (ZA cZ4 cZ22)) trivial
            · simp only [ZC, A108M2R3]
              obtain ⟨cZ29, h⟩ | ⟨cZ29, h⟩ := cond_s h
              · obtain ⟨rZ30, hrZ30, h⟩ := bind_s h
                refine ZF (ZA cZ2 (ZA cZ4 cZ29)) ?_
                refine ZW (ZA cZ2 (ZA cZ4 cZ29)) (w_slices_partitionEqualCmpFunc_intM1 _ _ _ _ _ _ hrZ30) (h2 := by first | exact nm_ok [1000000000] rfl (by decide +kernel) | exact nm_ok2 [1000000000] [] rfl (by decide +kernel) ZQ | exact ZQ) (hk := ?_)
                refine ZG ?_
                cases h
                exact ZL (ZA cZ2 (ZA cZ4 cZ29)) (ZA S_slices_pdqsortCmpFunc_intM2L1.eq_1 SX_slices_pdqsortCmpFunc_intM2L1.eq_1)
              · obtain ⟨rZ31, hrZ31, h⟩ := bind_s h
                refine ZF (ZA cZ2 (ZA cZ4 cZ29)) ?_
                refine ZW (ZA cZ2 (ZA cZ4 cZ29)) (w_slices_partitionCmpFunc_intM1 _ _ _ _ _ _ hrZ31) (h2 := by first | exact nm_ok [1000000000] rfl (by decide +kernel) | exact nm_ok2 [1000000000] [] rfl (by decide +kernel) ZQ | exact ZQ) (hk := ?_)
                refine ZG ?_
                obtain ⟨uZ32, huZ32, h⟩ := bind_s h
                have huZ32g := grd_s huZ32
                obtain ⟨cZ33, h⟩ | ⟨cZ33, h⟩ := cond_s h
                · obtain ⟨rZ34, hrZ34, h⟩ := bind_s h
                  refine ZF (ZA cZ2 (ZA cZ4 (ZA cZ29 (ZA huZ32g cZ33)))) ?_
                  refine ZW (ZA cZ2 (ZA cZ4 (ZA cZ29 (ZA huZ32g cZ33)))) (ihZ0 _ _ _ _ _ _ hrZ34) (h2 := by first | exact nm_ok [1000000000] rfl (by decide +kernel) | exact nm_ok2 [1000000000] [] rfl (by decide +kernel) ZQ | exact ZQ) (hk := ?_)
                  refine ZG ?_
                  cases h
                  exact ZL (ZA cZ2 (ZA cZ4 (ZA cZ29 (ZA huZ32g cZ33)))) (ZA S_slices_pdqsortCmpFunc_intM2L1.eq_1 SX_slices_pdqsortCmpFunc_intM2L1.eq_1)
                · obtain ⟨rZ35, hrZ35, h⟩ := bind_s h
                  refine ZF (ZA cZ2 (ZA cZ4 (ZA cZ29 (ZA huZ32g cZ33)))) ?_
                  refine ZW (ZA cZ2 (ZA cZ4 (ZA cZ29 (ZA huZ32g cZ33)))) (ihZ0 _ _ _ _ _ _ hrZ35) (h2 := by first | exact nm_ok [1000000000] rfl (by decide +kernel) | exact nm_ok2 [1000000000] [] rfl (by decide +kernel) ZQ | exact ZQ) (hk := ?_)
                  refine ZG ?_
                  cases h
                  exact ZL (ZA cZ2 (ZA cZ4 (ZA cZ29 (ZA huZ32g cZ33)))) (ZA S_slices_pdqsortCmpFunc_intM2L1.eq_1 SX_slices_pdqsortCmpFunc_intM2L1.eq_1)
          · subst hv
            simp only [] at h
            obtain ⟨rfl, qZ36⟩ := hq
            cases h
            try refine ZF trivial ?_
            first | exact ⟨by simp, qZ36⟩ | exact ⟨by simp, rfl, qZ36⟩
theorem wB_slices_pdqsortCmpFunc_intM2 (rcZ0 : Nat → Nat → Int → Int → Int → List Int → Option (List Int)) (ihZ0 : ∀ (aaZ0 : Nat) (abZ0 : Nat) (acZ0 : Int) (adZ0 : Int) (aeZ0 : Int) (afZ0 : List Int) {r : List Int}, rcZ0 aaZ0 abZ0 acZ0 adZ0 aeZ0 afZ0 = some r → OkM Try.prog 108 [.sl 1000000000 aaZ0 abZ0, .i acZ0, .i adZ0, .i aeZ0, .fn 91 []] [(1000000000, .arr 1 (afZ0.map AV.i))] ((fun (r : List Int) => .tup []) r) ((fun (r : List Int) => [(1000000000, .arr 1 (r.map AV.i))]) r)) (aaZ0 : Nat) (abZ0 : Nat) (acZ0 : Int) (adZ0 : Int) (aeZ0 : Int) (afZ0 : List Int) {r : List Int} (h : M_slices_pdqsortCmpFunc_intM2_B rcZ0 aaZ0 abZ0 acZ0 adZ0 aeZ0 afZ0 = some r) : OkM Try.prog 108 [.sl 1000000000 aaZ0 abZ0, .i acZ0, .i adZ0, .i aeZ0, .fn 91 []] [(1000000000, .arr 1 (afZ0.map AV.i))] ((fun (r : List Int) => .tup []) r) ((fun (r : List Int) => [(1000000000, .arr 1 (r.map AV.i))]) r) := by
  refine okM_of_body (lr := [1000000000]) hmix m108M2 rfl rfl ?_
  unfold M_slices_pdqsortCmpFunc_intM2_B at h
  simp only [ZC, A108M2, V108M2]
  obtain ⟨oZ37, hoZ37, h⟩ := bind_s h
  try refine ZF trivial ?_
  first | refine tail_rule (o := oZ37) (blk_rule sideM (loop_rule (w_slices_pdqsortCmpFunc_intM2L1 aaZ0 abZ0 acZ0 adZ0 aeZ0 afZ0 rcZ0 ihZ0) hoZ37 ?_)) (fun vZ38 hv τ qZ40 => ?_) (fun xZ39 hv e τ hne hq => ?_) | refine tail_blk (o := oZ37) sideM (loop_rule (w_slices_pdqsortCmpFunc_intM2L1 aaZ0 abZ0 acZ0 adZ0 aeZ0 afZ0 rcZ0 ihZ0) hoZ37 ?_) (fun vZ38 hv τ qZ40 => ?_) (fun xZ39 hv e τ hne hq => ?_)
  · exact ZK (ZA S_slices_pdqsortCmpFunc_intM2L1.eq_1 SX_slices_pdqsortCmpFunc_intM2L1.eq_1)
  · exact vZ38.elim
  · subst hv
    simp only [] at h
    obtain ⟨rfl, qZ41⟩ := hq
    cases h
    exact qZ41
theorem w_slices_pdqsortCmpFunc_intM2 : ∀ (n : Nat) (aaZ0 : Nat) (abZ0 : Nat) (acZ0 : Int) (adZ0 : Int) (aeZ0 : Int) (afZ0 : List Int) {r : List Int} (_ : M_slices_pdqsortCmpFunc_intM2 n aaZ0 abZ0 acZ0 adZ0 aeZ0 afZ0 = some r), OkM Try.prog 108 [.sl 1000000000 aaZ0 abZ0, .i acZ0, .i adZ0, .i aeZ0, .fn 91 []] [(1000000000, .arr 1 (afZ0.map AV.i))] ((fun (r : List Int) => .tup []) r) ((fun (r : List Int) => [(1000000000, .arr 1 (r.map AV.i))]) r)
  | 0, aaZ0, abZ0, acZ0, adZ0, aeZ0, afZ0, _, h => by cases h
  | n + 1, aaZ0, abZ0, acZ0, adZ0, aeZ0, afZ0, _, h => wB_slices_pdqsortCmpFunc_intM2 (M_slices_pdqsortCmpFunc_intM2 n) (w_slices_pdqsortCmpFunc_intM2 n) aaZ0 abZ0 acZ0 adZ0 aeZ0 afZ0 h
def S_slices_pdqsortCmpFunc_intM1L1 (v : Nat × Int × Int × Int × Bool × Bool × List Int) : St := ⟨[(0, .sl 1000000000 0 v.1), (1, .i v.2.1), (2, .i v.2.2.1), (3, .i v.2.2.2.1), (4, .fn 91 []), (10, .b v.2.2.2.2.1), (11, .b v.2.2.2.2.2.1)], [(1000000000, .arr 1 (v.2.2.2.2.2.2.map AV.i))]⟩
def SX_slices_pdqsortCmpFunc_intM1L1 (v : Empty) : St := ⟨[], []⟩
theorem w_slices_pdqsortCmpFunc_intM1L1 (sZ1 : Nat × Int × Int × Int × Bool × Bool × List Int) (o : (Nat × Int × Int × Int × Bool × Bool × List Int) ⊕ (Empty ⊕ (List Int))) (h : M_slices_pdqsortCmpFunc_intM1L1 sZ1 = some o) : AWP (OkS Try.prog) A108M1L6 (qL [0, 1, 2, 3, 4, 10, 11] [1000000000] (S_slices_pdqsortCmpFunc_intM1L1) (qS (qX 0 [] [] (SX_slices_pdqsortCmpFunc_intM1L1)) (qM V108M1 [1000000000] (fun (r : List Int) => .tup []) (fun (r : List Int) => [(1000000000, .arr 1 (r.map AV.i))]))) o) (S_slices_pdqsortCmpFunc_intM1L1 sZ1) := by
  unfold M_slices_pdqsortCmpFunc_intM1L1 at h
  simp only [ZC, S_slices_pdqsortCmpFunc_intM1L1, A108M1L6]
  obtain ⟨cZ2, h⟩ | ⟨cZ2, h⟩ := cond_s h
  · obtain ⟨rZ3, hrZ3, h⟩ := bind_s h
    refine ZF cZ2 ?_
    refine ZW cZ2 (w_slices_insertionSortCmpFunc_intM2 _ _ _ _ _ hrZ3) (h2 := by first | exact nm_ok [1000000000] rfl (by decide +kernel) | exact nm_ok2 [1000000000] [] rfl (by decide +kernel) ZQ | exact ZQ) (hk := ?_)
    refine ZG ?_
    cases h
    exact ZL cZ2 V108M1.eq_1
  · obtain ⟨cZ4, h⟩ | ⟨cZ4, h⟩ := cond_s h
    · obtain ⟨rZ5, hrZ5, h⟩ := bind_s h
      refine ZF (ZA cZ2 cZ4) ?_
      refine ZW (ZA cZ2 cZ4) (w_slices_heapSortCmpFunc_intM2 _ _ _ _ _ hrZ5) (h2 := by first | exact nm_ok [1000000000] rfl (by decide +kernel) | exact nm_ok2 [1000000000] [] rfl (by decide +kernel) ZQ | exact ZQ) (hk := ?_)
      refine ZG ?_
      cases h
      exact ZL (ZA cZ2 cZ4) V108M1.eq_1
    · obtain ⟨oZ8, hoZ8, h⟩ := bind_s h
      try refine ZF (ZA cZ2 cZ4) ?_
      refine join_rule0 (sh := (fun v => ⟨[(0, .sl 1000000000 0 sZ1.1), (1, .i sZ1.2.1), (2, .i sZ1.2.2.1), (3, .i v.1), (4, .fn 91 []), (10, .b sZ1.2.2.2.2.1), (11, .b sZ1.2.2.2.2.2.1), (12, .i (IntKind.wrap .i64 (sZ1.2.2.1 - sZ1.2.1)))], [(1000000000, .arr 1 (v.2.map AV.i))]⟩)) (s := oZ8) ?_ ?_
      · replace h := hoZ8
        obtain ⟨cZ6, h⟩ | ⟨cZ6, h⟩ := cond_s h
        · obtain ⟨rZ7, hrZ7, h⟩ := bind_s h
          refine ZF (ZA cZ2 (ZA cZ4 cZ6)) ?_
          refine ZW (ZA cZ2 (ZA cZ4 cZ6)) (w_slices_breakPatternsCmpFunc_intM1 _ _ _ _ _ hrZ7) (h2 := by first | exact nm_ok [1000000000] rfl (by decide +kernel) | exact nm_ok2 [1000000000] [] rfl (by decide +kernel) ZQ | exact ZQ) (hk := ?_)
          refine ZG ?_
          cases h
          exact ZL (ZA cZ2 (ZA cZ4 cZ6)) trivial
        · cases h
          exact ZL (ZA cZ2 (ZA cZ4 cZ6)) trivial
      · simp only [ZC, A108M1R4]
        obtain ⟨rZ9, hrZ9, h⟩ := bind_s h
        refine ZF (ZA cZ2 cZ4) ?_
        refine ZW (ZA cZ2 cZ4) (w_slices_choosePivotCmpFunc_intM2 _ _ _ _ _ hrZ9) (h2 := by first | exact nm_ok [1000000000] rfl (by decide +kernel) | exact nm_ok2 [1000000000] [] rfl (by decide +kernel) ZQ | exact ZQ) (hk := ?_)
        refine ZG ?_
        obtain ⟨oZ12, hoZ12, h⟩ := bind_s h
        try refine ZF (ZA cZ2 cZ4) ?_
        refine join_rule0 (sh := (fun v => ⟨[(0, .sl 1000000000 0 sZ1.1), (1, .i sZ1.2.1), (2, .i sZ1.2.2.1), (3, .i oZ8.1), (4, .fn 91 []), (10, .b sZ1.2.2.2.2.1), (11, .b sZ1.2.2.2.2.2.1), (12, .i (IntKind.wrap .i64 (sZ1.2.2.1 - sZ1.2.1))), (13, .i v.1), (14, .i v.2.1)], [(1000000000, .arr 1 (v.2.2.map AV.i))]⟩)) (s := oZ12) ?_ ?_
        · replace h := hoZ12
          obtain ⟨cZ10, h⟩ | ⟨cZ10, h⟩ := cond_s h
          · obtain ⟨rZ11, hrZ11, h⟩ := bind_s h
            refine ZF (ZA cZ2 (ZA cZ4 cZ10)) ?_
            refine ZW (ZA cZ2 (ZA cZ4 cZ10)) (w_slices_reverseRangeCmpFunc_intM1 _ _ _ _ _ hrZ11) (h2 := by first | exact nm_ok [1000000000] rfl (by decide +kernel) | exact nm_ok2 [1000000000] [] rfl (by decide +kernel) ZQ | exact ZQ) (hk := ?_)
            refine ZG ?_
            cases h
            exact ZL (ZA cZ2 (ZA cZ4 cZ10)) trivial
          · cases h
            exact ZL (ZA cZ2 (ZA cZ4 cZ10)) trivial
        · simp only [ZC, A108M1R1]
          obtain ⟨oZ19, hoZ19, h⟩ := bind_s h
          try refine ZF (ZA cZ2 cZ4) ?_
          refine join_rule (sh := (fun v => ⟨[(0, .sl 1000000000 0 sZ1.1), (1, .i sZ1.2.1), (2, .i sZ1.2.2.1), (3, .i oZ8.1), (4, .fn 91 []), (10, .b sZ1.2.2.2.2.1), (11, .b sZ1.2.2.2.2.2.1), (12, .i (IntKind.wrap .i64 (sZ1.2.2.1 - sZ1.2.1))), (13, .i oZ12.1)], [(1000000000, .arr 1 (v.map AV.i))]⟩)) (q := (qM V108M1 [1000000000] (fun (r : List Int) => .tup []) (fun (r : List Int) => [(1000000000, .arr 1 (r.map AV.i))]))) (o := oZ19) ?_ (fun vZ20 hv => ?_) (fun xZ21 hv e τ hne hq => ?_)
          · replace h := hoZ19
            obtain ⟨oZ15, hoZ15, h⟩ := bind_s h
            try refine ZF (ZA cZ2 cZ4) ?_
            refine join_rule0 (sh := (fun v => ⟨[(0, .sl 1000000000 0 sZ1.1), (1, .i sZ1.2.1), (2, .i sZ1.2.2.1), (3, .i oZ8.1), (4, .fn 91 []), (10, .b sZ1.2.2.2.2.1), (11, .b sZ1.2.2.2.2.2.1), (12, .i (IntKind.wrap .i64 (sZ1.2.2.1 - sZ1.2.1))), (13, .i oZ12.1), (75, .b v)], [(1000000000, .arr 1 (oZ12.2.2.map AV.i))]⟩)) (s := oZ15) ?_ ?_
            · replace h := hoZ15
              obtain ⟨cZ13, h⟩ | ⟨cZ13, h⟩ := cond_s h
              · obtain ⟨cZ14, h⟩ | ⟨cZ14, h⟩ := cond_s h
                · cases h
                  exact ZL (ZA cZ2 (ZA cZ4 (ZA cZ13 cZ14))) trivial
                · cases h
                  exact ZL (ZA cZ2 (ZA cZ4 (ZA cZ13 cZ14))) trivial
              · cases h
                exact ZL (ZA cZ2 (ZA cZ4 cZ13)) trivial
            · simp only [ZC, A108M1R5]
              obtain ⟨cZ16, h⟩ | ⟨cZ16, h⟩ := cond_s h
              · obtain ⟨rZ17, hrZ17, h⟩ := bind_s h
                refine ZF (ZA cZ2 (ZA cZ4 cZ16)) ?_
                refine ZW (ZA cZ2 (ZA cZ4 cZ16)) (w_slices_partialInsertionSortCmpFunc_intM1 _ _ _ _ _ hrZ17) (h2 := by first | exact nm_ok [1000000000] rfl (by decide +kernel) | exact nm_ok2 [1000000000] [] rfl (by decide +kernel) ZQ | exact ZQ) (hk := ?_)
                refine ZG ?_
                obtain ⟨cZ18, h⟩ | ⟨cZ18, h⟩ := cond_s h
                · cases h
                  exact ZL (ZA cZ2 (ZA cZ4 (ZA cZ16 cZ18))) V108M1.eq_1
                · cases h
                  exact ZL (ZA cZ2 (ZA cZ4 (ZA cZ16 cZ18))) trivial
              · cases h
                exact ZL (ZA cZ2 (ZA cZ4 cZ16)) trivial
          · subst hv
            simp only [] at h
            simp only [ZC, A108M1R2]
            obtain ⟨oZ28, hoZ28, h⟩ := bind_s h
            try refine ZF (ZA cZ2 cZ4) ?_
            refine join_rule0 (sh := (fun v => ⟨[(0, .sl 1000000000 0 sZ1.1), (1, .i sZ1.2.1), (2, .i sZ1.2.2.1), (3, .i oZ8.1), (4, .fn 91 []), (10, .b sZ1.2.2.2.2.1), (11, .b sZ1.2.2.2.2.2.1), (12, .i (IntKind.wrap .i64 (sZ1.2.2.1 - sZ1.2.1))), (13, .i oZ12.1), (97, .b v)], [(1000000000, .arr 1 (vZ20.map AV.i))]⟩)) (s := oZ28) ?_ ?_
            · replace h := hoZ28
              obtain ⟨cZ22, h⟩ | ⟨cZ22, h⟩ := cond_s h
              · obtain ⟨kZ23, hkZ23, h⟩ := bind_s h
                obtain ⟨hkZ23a, hkZ23b⟩ := grd_s hkZ23
                obtain ⟨yZ24, hyZ24, h⟩ := bind_s h
                obtain ⟨kZ25, hkZ25, h⟩ := bind_s h
                obtain ⟨hkZ25a, hkZ25b⟩ := grd_s hkZ25
                obtain ⟨yZ26, hyZ26, h⟩ := bind_s h
                obtain ⟨rZ27, hrZ27, h⟩ := bind_s h
                refine ZF (ZA cZ2 (ZA cZ4 (ZA cZ22 (ZA hkZ23a (ZA hkZ23b (ZA hyZ24 (ZA hkZ25a (ZA hkZ25b hyZ26)))))))) ?_
                refine ZS (ZA cZ2 (ZA cZ4 (ZA cZ22 (ZA hkZ23a (ZA hkZ23b (ZA hyZ24 (ZA hkZ25a (ZA hkZ25b hyZ26)))))))) (w_impl_FewestUnits_c1 _ _ hrZ27) ?_
                refine ZG ?_
                cases h
                exact ZL (ZA cZ2 (ZA cZ4 (ZA cZ22 (ZA hkZ23a (ZA hkZ23b (ZA hyZ24 (ZA hkZ25a (ZA hkZ25b hyZ26)))))))) trivial
              · cases h
                exact ZL (ZA cZ2 (ZA cZ4 cZ22)) trivial
            · simp only [ZC, A108M1R3]
              obtain ⟨cZ29, h⟩ | ⟨cZ29, h⟩ := cond_s h
              · obtain ⟨rZ30, hrZ30, h⟩ := bind_s h
                refine ZF (ZA cZ2 (ZA cZ4 cZ29)) ?_
                refine ZW (ZA cZ2 (ZA cZ4 cZ29)) (w_slices_partitionEqualCmpFunc_intM1 _ _ _ _ _ _ hrZ30) (h2 := by first | exact nm_ok [1000000000] rfl (by decide +kernel) | exact nm_ok2 [1000000000] [] rfl (by decide +kernel) ZQ | exact ZQ) (hk := ?_)
                refine ZG ?_
                cases h
                exact ZL (ZA cZ2 (ZA cZ4 cZ29)) (ZA S_slices_pdqsortCmpFunc_intM1L1.eq_1 SX_slices_pdqsortCmpFunc_intM1L1.eq_1)
              · obtain ⟨rZ31, hrZ31, h⟩ := bind_s h
                refine ZF (ZA cZ2 (ZA cZ4 cZ29)) ?_
                refine ZW (ZA cZ2 (ZA cZ4 cZ29)) (w_slices_partitionCmpFunc_intM1 _ _ _ _ _ _ hrZ31) (h2 := by first | exact nm_ok [1000000000] rfl (by decide +kernel) | exact nm_ok2 [1000000000] [] rfl (by decide +kernel) ZQ | exact ZQ) (hk := ?_)
                refine ZG ?_
                obtain ⟨uZ32, huZ32, h⟩ := bind_s h
                have huZ32g := grd_s huZ32
                obtain ⟨cZ33, h⟩ | ⟨cZ33, h⟩ := cond_s h
                · obtain ⟨rZ34, hrZ34, h⟩ := bind_s h
                  refine ZF (ZA cZ2 (ZA cZ4 (ZA cZ29 (ZA huZ32g cZ33)))) ?_
                  refine ZW (ZA cZ2 (ZA cZ4 (ZA cZ29 (ZA huZ32g cZ33)))) (w_slices_pdqsortCmpFunc_intM2 N0 _ _ _ _ _ _ hrZ34) (h2 := by first | exact nm_ok [1000000000] rfl (by decide +kernel) | exact nm_ok2 [1000000000] [] rfl (by decide +kernel) ZQ | exact ZQ) (hk := ?_)
                  refine ZG ?_
                  cases h
                  exact ZL (ZA cZ2 (ZA cZ4 (ZA cZ29 (ZA huZ32g cZ33)))) (ZA S_slices_pdqsortCmpFunc_intM1L1.eq_1 SX_slices_pdqsortCmpFunc_intM1L1.eq_1)
                · obtain ⟨rZ35, hrZ35, h⟩ := bind_s h
                  refine ZF (ZA cZ2 (ZA cZ4 (ZA cZ29 (ZA huZ32g cZ33)))) ?_
                  refine ZW (ZA cZ2 (ZA cZ4 (ZA cZ29 (ZA huZ32g cZ33)))) (w_slices_pdqsortCmpFunc_intM2 N0 _ _ _ _ _ _ hrZ35) (h2 := by first | exact nm_ok [1000000000] rfl (by decide +kernel) | exact nm_ok2 [1000000000] [] rfl (by decide +kernel) ZQ | exact ZQ) (hk := ?_)
                  refine ZG ?_
                  cases h
                  exact ZL (ZA cZ2 (ZA cZ4 (ZA cZ29 (ZA huZ32g cZ33)))) (ZA S_slices_pdqsortCmpFunc_intM1L1.eq_1 SX_slices_pdqsortCmpFunc_intM1L1.eq_1)
          · subst hv
            simp only [] at h
            obtain ⟨rfl, qZ36⟩ := hq
            cases h
            try refine ZF trivial ?_
            first | exact ⟨by simp, qZ36⟩ | exact ⟨by simp, rfl, qZ36⟩
theorem w_slices_pdqsortCmpFunc_intM1 (aaZ0 : Int) (abZ0 : Int) (acZ0 : Int) (adZ0 : List Int) {r : List Int} (h : M_slices_pdqsortCmpFunc_intM1 aaZ0 abZ0 acZ0 adZ0 = some r) : OkM Try.prog 108 [.sl 1000000000 0 adZ0.length, .i aaZ0, .i abZ0, .i acZ0, .fn 91 []] [(1000000000, .arr 1 (adZ0.map AV.i))] ((fun (r : List Int) => .tup []) r) ((fun (r : List Int) => [(1000000000, .arr 1 (r.map AV.i))]) r) := by
  refine okM_of_body (lr := [1000000000]) hmix m108M1 rfl rfl ?_
  unfold M_slices_pdqsortCmpFunc_intM1 at h
  simp only [ZC, A108M1, V108M1]
  obtain ⟨oZ37, hoZ37, h⟩ := bind_s h
  try refine ZF trivial ?_
  first | refine tail_rule (o := oZ37) (blk_rule sideM (loop_rule (w_slices_pdqsortCmpFunc_intM1L1) hoZ37 ?_)) (fun vZ38 hv τ qZ40 => ?_) (fun xZ39 hv e τ hne hq => ?_) | refine tail_blk (o := oZ37) sideM (loop_rule (w_slices_pdqsortCmpFunc_intM1L1) hoZ37 ?_) (fun vZ38 hv τ qZ40 => ?_) (fun xZ39 hv e τ hne hq => ?_)
  · exact ZK (ZA S_slices_pdqsortCmpFunc_intM1L1.eq_1 SX_slices_pdqsortCmpFunc_intM1L1.eq_1)
  · exact vZ38.elim
  · subst hv
    simp only [] at h
    obtain ⟨rfl, qZ41⟩ := hq
    cases h
    exact qZ41
theorem w_slices_SortFunc_Lint_intM1 (aaZ0 : List Int) {r : List Int} (h : M_slices_SortFunc_Lint_intM1 aaZ0 = some r) : OkM Try.prog 90 [.sl 1000000000 0 aaZ0.length, .fn 91 []] [(1000000000, .arr 1 (aaZ0.map AV.i))] ((fun (r : List Int) => .tup []) r) ((fun (r : List Int) => [(1000000000, .arr 1 (r.map AV.i))]) r) := by
  refine okM_of_body (lr := [1000000000]) hmix m90M1 rfl rfl ?_
  unfold M_slices_SortFunc_Lint_intM1 at h
  simp only [ZC, A90M1, V90M1]
  obtain ⟨rZ1, hrZ1, h⟩ := bind_s h
  refine ZF trivial ?_
  refine ZS trivial (w_math_bits_Len _ hrZ1) ?_
  refine ZG ?_
  obtain ⟨rZ2, hrZ2, h⟩ := bind_s h
  refine ZF trivial ?_
  refine ZW trivial (w_slices_pdqsortCmpFunc_intM1 _ _ _ _ hrZ2) (h2 := by first | exact nm_ok [1000000000] rfl (by decide +kernel) | exact nm_ok2 [1000000000] [] rfl (by decide +kernel) ZQ | exact ZQ) (hk := ?_)
  refine ZG ?_
  cases h
  exact ZL trivial V90M1.eq_1
theorem w_math_bits_Mul64 (xZ0 : Int) (yZ0 : Int) {r : Int × Int} (h : M_math_bits_Mul64 xZ0 yZ0 = some r) : Ok Try.prog 128 [.sc (.int .u64 xZ0), .sc (.int .u64 yZ0)] ((fun r => .tup [.sc (.int .u64 r.1), .sc (.int .u64 r.2)]) r) := by
  refine ok_of_body hmix m128 rfl ?_
  unfold M_math_bits_Mul64 at h
  simp only [ZC, A128, V128, body_eq]
  cases h
  exact ZL trivial V128.eq_1
theorem w_math_bits_Mul (xZ0 : Int) (yZ0 : Int) {r : Int × Int} (h : M_math_bits_Mul xZ0 yZ0 = some r) : Ok Try.prog 111 [.sc (.int .u64 xZ0), .sc (.int .u64 yZ0)] ((fun r => .tup [.sc (.int .u64 r.1), .sc (.int .u64 r.2)]) r) := by
  refine ok_of_body hmix m111 rfl ?_
  unfold M_math_bits_Mul at h
  simp only [ZC, A111, V111, body_eq]
  obtain ⟨rZ1, hrZ1, h⟩ := bind_s h
  refine ZF trivial ?_
  refine ZU trivial (w_math_bits_Mul64 _ _ hrZ1) ?_
  refine ZG ?_
  cases h
  exact ZL trivial V111.eq_1
def S_slices_Repeat_Lint_intL1 (v : Int × List Int) : St := ⟨[(7, .sl 7 0 v.2.length), (8, .i v.1)], [(7, .arr 1 (v.2.map AV.i))]⟩
def SX_slices_Repeat_Lint_intL1 (v : List Int) : St := ⟨[(7, .sl 7 0 v.length)], [(7, .arr 1 (v.map AV.i))]⟩
theorem w_slices_Repeat_Lint_intL1 (sZ11 : Int × List Int) (o : (Int × List Int) ⊕ (List Int)) (h : M_slices_Repeat_Lint_intL1 sZ11 = some o) : AWP (OkS Try.prog) A94L2 (qL [7, 8] [7] (S_slices_Repeat_Lint_intL1) (qX 0 [7] [7] (SX_slices_Repeat_Lint_intL1)) o) (S_slices_Repeat_Lint_intL1 sZ11) := by
  unfold M_slices_Repeat_Lint_intL1 at h
  simp only [ZC, S_slices_Repeat_Lint_intL1, A94L2]
  obtain ⟨cZ12, h⟩ | ⟨cZ12, h⟩ := cond_s h
  · obtain ⟨uZ13, huZ13, h⟩ := bind_s h
    obtain ⟨huZ13a, huZ13b, huZ13c, huZ13d⟩ := grd_s huZ13
    obtain ⟨uZ14, huZ14, h⟩ := bind_s h
    obtain ⟨huZ14a, huZ14b, huZ14c, huZ14d⟩ := grd_s huZ14
    obtain ⟨lZ15, hlZ15, h⟩ := bnd_s h
    have eZ16 : sub (sZ11.2.map AV.i) 0 (Int.toNat sZ11.1) = lZ15.map AV.i := by rw [sub_mapT, hlZ15]
    obtain ⟨lZ17, hlZ17, h⟩ := bnd_s h
    have eZ18 : over (sZ11.2.map AV.i) (Int.toNat sZ11.1) (List.take (min lZ15.length (sZ11.2.length - (Int.toNat sZ11.1))) (lZ15.map AV.i)) = lZ17.map AV.i := by rw [← hlZ17, ← over_map]; simp [List.map_take]
    cases h
    exact ZL (ZA cZ12 (ZA huZ13a (ZA huZ13b (ZA huZ13c (ZA huZ13d (ZA huZ14a (ZA huZ14b (ZA huZ14c (ZA huZ14d (ZA eZ16 eZ18)))))))))) (ZA S_slices_Repeat_Lint_intL1.eq_1 (ZA SX_slices_Repeat_Lint_intL1.eq_1 (ZA hlZ17.symm @over_length)))
  · cases h
    exact ZL cZ12 (ZA S_slices_Repeat_Lint_intL1.eq_1 SX_slices_Repeat_Lint_intL1.eq_1)
theorem w_slices_Repeat_Lint_int (xZ0 : List Int) (countZ0 : Int) {r : List Int} (h : M_slices_Repeat_Lint_int xZ0 countZ0 = some r) : Ok Try.prog 94 [.lst .o 1 (xZ0.map AV.i), .i countZ0] ((fun r => .lst .u 1 (r.map AV.i)) r) := by
  refine ok_of_body hmix m94 rfl ?_
  unfold M_slices_Repeat_Lint_int at h
  simp only [ZC, A94, V94, body_eq]
  obtain ⟨cZ1, h⟩ | ⟨cZ1, h⟩ := cond_s h
  · cases h
  · obtain ⟨rZ2, hrZ2, h⟩ := bind_s h
    refine ZF cZ1 ?_
    refine ZU cZ1 (w_math_bits_Mul _ _ hrZ2) ?_
    refine ZG ?_
    obtain ⟨oZ4, hoZ4, h⟩ := bind_s h
    try refine ZF cZ1 ?_
    refine join_rule0 (sh := (fun v => ⟨[(0, .lst .o 1 (xZ0.map AV.i)), (6, .sc (.int .u64 rZ2.2)), (26, .b v)], []⟩)) (s := oZ4) ?_ ?_
    · replace h := hoZ4
      obtain ⟨cZ3, h⟩ | ⟨cZ3, h⟩ := cond_s h
      · cases h
        exact ZL (ZA cZ1 cZ3) trivial
      · cases h
        exact ZL (ZA cZ1 cZ3) trivial
    · simp only [ZC, A94R1]
      obtain ⟨cZ5, h⟩ | ⟨cZ5, h⟩ := cond_s h
      · cases h
      · obtain ⟨uZ6, huZ6, h⟩ := bind_s h
        obtain ⟨huZ61, huZ62, huZ63, huZ64⟩ := grd_s huZ6
        obtain ⟨lZ7, hlZ7, h⟩ := bnd_s h
        have eZ8 : List.replicate (Int.toNat (IntKind.wrap .i64 rZ2.2)) (.i 0 : AV) = lZ7.map AV.i := by rw [← hlZ7, List.map_replicate]
        obtain ⟨lZ9, hlZ9, h⟩ := bnd_s h
        have eZ10 : over (lZ7.map AV.i) 0 (List.take (min xZ0.length (Int.toNat (IntKind.wrap .i64 rZ2.2))) (xZ0.map AV.i)) = lZ9.map AV.i := by rw [← hlZ9, ← over_map]; simp [List.map_take]
        obtain ⟨oZ19, hoZ19, h⟩ := bind_s h
        try refine ZF (ZA cZ1 (ZA cZ5 (ZA huZ61 (ZA huZ62 (ZA huZ63 (ZA huZ64 (ZA eZ8 eZ10))))))) ?_
        refine join_rule0 (blk_rule0 (loop_rule (w_slices_Repeat_Lint_intL1) hoZ19 ?_)) ?_
        · exact ZK (ZA S_slices_Repeat_Lint_intL1.eq_1 (ZA SX_slices_Repeat_Lint_intL1.eq_1 (ZA hlZ7.symm (ZA @Zr (ZA hlZ9.symm @over_length)))))
        · simp only [ZC, SX_slices_Repeat_Lint_intL1, A94R3]
          cases h
          exact ZL (ZA cZ1 (ZA cZ5 (ZA huZ61 (ZA huZ62 (ZA huZ63 (ZA huZ64 (ZA eZ8 eZ10))))))) V94.eq_1
def S_slices_Index_Lint_intL1 (sZ0 : List Int) (vZ0 : Int) (v : Int) : St := ⟨[(0, .lst .o 1 (sZ0.map AV.i)), (1, .i vZ0), (7, .i (sZ0.length : Int)), (8, .i v)], []⟩
def SX_slices_Index_Lint_intL1 (v : Unit) : St := ⟨[], []⟩
theorem w_slices_Index_Lint_intL1 (sZ0 : List Int) (vZ0 : Int) (sZ1 : Int) (o : Int ⊕ (Unit ⊕ Int)) (h : M_slices_Index_Lint_intL1 sZ0 vZ0 sZ1 = some o) : AWP (OkS Try.prog) A106L1 (qL [0, 1, 7, 8] [] (S_slices_Index_Lint_intL1 sZ0 vZ0) (qS (qX 0 [] [] (SX_slices_Index_Lint_intL1)) (qR V106 (fun r => .i r))) o) (S_slices_Index_Lint_intL1 sZ0 vZ0 sZ1) := by
  unfold M_slices_Index_Lint_intL1 at h
  simp only [ZC, S_slices_Index_Lint_intL1, A106L1]
  obtain ⟨cZ2, h⟩ | ⟨cZ2, h⟩ := cond_s h
  · obtain ⟨yZ3, hyZ3, h⟩ := bind_s h
    obtain ⟨hyZ3a, hyZ3b⟩ := geti_s hyZ3
    obtain ⟨cZ4, h⟩ | ⟨cZ4, h⟩ := cond_s h
    · cases h
      exact ZL (ZA cZ2 (ZA hyZ3a (ZA hyZ3b cZ4))) V106.eq_1
    · cases h
      exact ZL (ZA cZ2 (ZA hyZ3a (ZA hyZ3b cZ4))) (ZA S_slices_Index_Lint_intL1.eq_1 SX_slices_Index_Lint_intL1.eq_1)
  · cases h
    exact ZL cZ2 (ZA S_slices_Index_Lint_intL1.eq_1 SX_slices_Index_Lint_intL1.eq_1)
theorem w_slices_Index_Lint_int (sZ0 : List Int) (vZ0 : Int) {r : Int} (h : M_slices_Index_Lint_int sZ0 vZ0 = some r) : Ok Try.prog 106 [.lst .o 1 (sZ0.map AV.i), .i vZ0] ((fun r => .i r) r) := by
  refine ok_of_body hmix m106 rfl ?_
  unfold M_slices_Index_Lint_int at h
  simp only [ZC, A106, V106, body_eq]
  obtain ⟨oZ5, hoZ5, h⟩ := bind_s h
  try refine ZF trivial ?_
  refine join_rule (o := oZ5) (blk_rule sideR (loop_rule (w_slices_Index_Lint_intL1 sZ0 vZ0) hoZ5 ?_)) (fun vZ6 hv => ?_) (fun xZ7 hv e τ hne hq => ?_)
  · exact ZK (ZA S_slices_Index_Lint_intL1.eq_1 SX_slices_Index_Lint_intL1.eq_1)
  · subst hv
    simp only [] at h
    simp only [ZC, SX_slices_Index_Lint_intL1, A106R2]
    cases h
    exact ZL trivial V106.eq_1
  · subst hv
    simp only [] at h
    obtain ⟨rfl, qZ8⟩ := hq
    cases h
    exact qZ8
theorem w_slices_Contains_Lint_int (sZ0 : List Int) (vZ0 : Int) {r : Bool} (h : M_slices_Contains_Lint_int sZ0 vZ0 = some r) : Ok Try.prog 80 [.lst .o 1 (sZ0.map AV.i), .i vZ0] ((fun r => .b r) r) := by
  refine ok_of_body hmix m80 rfl ?_
  unfold M_slices_Contains_Lint_int at h
  simp only [ZC, A80, V80, body_eq]
  obtain ⟨rZ1, hrZ1, h⟩ := bind_s h
  refine ZF trivial ?_
  refine ZS trivial (w_slices_Index_Lint_int _ _ hrZ1) ?_
  refine ZG ?_
  cases h
  exact ZL trivial V80.eq_1
def S_impl_fitsM3L1 (aaZ0 : Nat) (abZ0 : Nat) (acZ0 : Nat) (adZ0 : Nat) (v : Int × List Int × List Int) : St := ⟨[(0, .sl 1000000000 aaZ0 abZ0), (1, .sl 1000000001 acZ0 adZ0), (11, .sl 1000000001 acZ0 adZ0), (12, .i (adZ0 : Int)), (13, .i v.1)], [(1000000000, .arr 1 (v.2.1.map AV.i)), (1000000001, .arr 1 (v.2.2.map AV.i))]⟩
def SX_impl_fitsM3L1 (v : List Int × List Int) : St := ⟨[], [(1000000000, .arr 1 (v.1.map AV.i)), (1000000001, .arr 1 (v.2.map AV.i))]⟩
theorem w_impl_fitsM3L1 (aaZ0 : Nat) (abZ0 : Nat) (acZ0 : Nat) (adZ0 : Nat) (aeZ0 : List Int) (afZ0 : List Int) (rcZ0 : Nat → Nat → Nat → Nat → List Int → List Int → Option (Bool × List Int × List Int)) (ihZ0 : ∀ (aaZ0 : Nat) (abZ0 : Nat) (acZ0 : Nat) (adZ0 : Nat) (aeZ0 : List Int) (afZ0 : List Int) {r : Bool × List Int × List Int}, rcZ0 aaZ0 abZ0 acZ0 adZ0 aeZ0 afZ0 = some r → OkM Try.prog 93 [.sl 1000000000 aaZ0 abZ0, .sl 1000000001 acZ0 adZ0] [(1000000000, .arr 1 (aeZ0.map AV.i)), (1000000001, .arr 1 (afZ0.map AV.i))] ((fun (r : Bool × List Int × List Int) => .b r.1) r) ((fun (r : Bool × List Int × List Int) => [(1000000000, .arr 1 (r.2.1.map AV.i)), (1000000001, .arr 1 (r.2.2.map AV.i))]) r)) (sZ2 : Int × List Int × List Int) (o : (Int × List Int × List Int) ⊕ ((List Int × List Int) ⊕ (Bool × List Int × List Int))) (h : M_impl_fitsM3L1 aaZ0 abZ0 acZ0 adZ0 rcZ0 sZ2 = some o) : AWP (OkS Try.prog) A93M3L2 (qL [0, 1, 11, 12, 13] [1000000000, 1000000001] (S_impl_fitsM3L1 aaZ0 abZ0 acZ0 adZ0) (qS (qX 0 [] [1000000000, 1000000001] (SX_impl_fitsM3L1)) (qM V93M3 [1000000000, 1000000001] (fun (r : Bool × List Int × List Int) => .b r.1) (fun (r : Bool × List Int × List Int) => [(1000000000, .arr 1 (r.2.1.map AV.i)), (1000000001, .arr 1 (r.2.2.map AV.i))]))) o) (S_impl_fitsM3L1 aaZ0 abZ0 acZ0 adZ0 sZ2) := by
  unfold M_impl_fitsM3L1 at h
  simp only [ZC, S_impl_fitsM3L1, A93M3L2]
  obtain ⟨cZ3, h⟩ | ⟨cZ3, h⟩ := cond_s h
  · obtain ⟨kZ4, hkZ4, h⟩ := bind_s h
    obtain ⟨hkZ4a, hkZ4b⟩ := grd_s hkZ4
    obtain ⟨yZ5, hyZ5, h⟩ := bind_s h
    obtain ⟨oZ13, hoZ13, h⟩ := bind_s h
    try refine ZF (ZA cZ3 (ZA hkZ4a (ZA hkZ4b hyZ5))) ?_
    refine join_rule0 (sh := (fun v => ⟨[(0, .sl 1000000000 aaZ0 abZ0), (1, .sl 1000000001 acZ0 adZ0), (5, .i sZ2.1), (6, .i yZ5), (11, .sl 1000000001 acZ0 adZ0), (12, .i (adZ0 : Int)), (13, .i sZ2.1), (29, .b v)], [(1000000000, .arr 1 (sZ2.2.1.map AV.i)), (1000000001, .arr 1 (sZ2.2.2.map AV.i))]⟩)) (s := oZ13) ?_ ?_
    · replace h := hoZ13
      obtain ⟨kZ6, hkZ6, h⟩ := bind_s h
      obtain ⟨hkZ6a, hkZ6b⟩ := grd_s hkZ6
      obtain ⟨yZ7, hyZ7, h⟩ := bind_s h
      obtain ⟨cZ8, h⟩ | ⟨cZ8, h⟩ := cond_s h
      · cases h
        exact ZL (ZA cZ3 (ZA hkZ4a (ZA hkZ4b (ZA hyZ5 (ZA hkZ6a (ZA hkZ6b (ZA hyZ7 cZ8))))))) trivial
      · obtain ⟨uZ9, huZ9, h⟩ := bind_s h
        obtain ⟨huZ9a, huZ9b, huZ9c, huZ9d⟩ := grd_s huZ9
        obtain ⟨lZ10, hlZ10, h⟩ := bnd_s h
        have eZ11 : sub (sZ2.2.2.map AV.i) acZ0 (Int.toNat sZ2.1) = lZ10.map AV.i := by rw [sub_mapT, hlZ10]
        obtain ⟨rZ12, hrZ12, h⟩ := bind_s h
        refine ZF (ZA cZ3 (ZA hkZ4a (ZA hkZ4b (ZA hyZ5 (ZA hkZ6a (ZA hkZ6b (ZA hyZ7 (ZA cZ8 (ZA huZ9a (ZA huZ9b (ZA huZ9c (ZA huZ9d eZ11)))))))))))) ?_
        refine ZS (ZA cZ3 (ZA hkZ4a (ZA hkZ4b (ZA hyZ5 (ZA hkZ6a (ZA hkZ6b (ZA hyZ7 (ZA cZ8 (ZA huZ9a (ZA huZ9b (ZA huZ9c (ZA huZ9d eZ11)))))))))))) (w_slices_Contains_Lint_int _ _ hrZ12) ?_
        refine ZG ?_
        cases h
        exact ZL (ZA cZ3 (ZA hkZ4a (ZA hkZ4b (ZA hyZ5 (ZA hkZ6a (ZA hkZ6b (ZA hyZ7 (ZA cZ8 (ZA huZ9a (ZA huZ9b (ZA huZ9c (ZA huZ9d eZ11)))))))))))) trivial
    · simp only [ZC, A93M3R1]
      obtain ⟨cZ14, h⟩ | ⟨cZ14, h⟩ := cond_s h
      · cases h
        exact ZL (ZA cZ3 (ZA hkZ4a (ZA hkZ4b (ZA hyZ5 cZ14)))) (ZA S_impl_fitsM3L1.eq_1 SX_impl_fitsM3L1.eq_1)
      · obtain ⟨kZ15, hkZ15, h⟩ := bind_s h
        obtain ⟨hkZ15a, hkZ15b⟩ := grd_s hkZ15
        obtain ⟨yZ16, hyZ16, h⟩ := bind_s h
        obtain ⟨lZ17, hlZ17, h⟩ := bnd_s h
        have eZ18 : (sZ2.2.2.map AV.i).set (acZ0 + (Int.toNat sZ2.1)) (.i (IntKind.wrap .i64 (yZ5 - yZ16))) = lZ17.map AV.i := by rw [← hlZ17, List.map_set]
        obtain ⟨uZ19, huZ19, h⟩ := bind_s h
        obtain ⟨huZ19a, huZ19b, huZ19c, huZ19d⟩ := grd_s huZ19
        obtain ⟨rZ20, hrZ20, h⟩ := bind_s h
        refine ZF (ZA cZ3 (ZA hkZ4a (ZA hkZ4b (ZA hyZ5 (ZA cZ14 (ZA hkZ15a (ZA hkZ15b (ZA hyZ16 (ZA eZ18 (ZA huZ19a (ZA huZ19b (ZA huZ19c huZ19d)))))))))))) ?_
        refine ZW (ZA cZ3 (ZA hkZ4a (ZA hkZ4b (ZA hyZ5 (ZA cZ14 (ZA hkZ15a (ZA hkZ15b (ZA hyZ16 (ZA eZ18 (ZA huZ19a (ZA huZ19b (ZA huZ19c huZ19d)))))))))))) (ihZ0 _ _ _ _ _ _ hrZ20) (h2 := by first | exact nm_ok [1000000000, 1000000001] rfl (by decide +kernel) | exact nm_ok2 [1000000000, 1000000001] [] rfl (by decide +kernel) ZQ | exact ZQ) (hk := ?_)
        refine ZG ?_
        obtain ⟨yZ21, hyZ21, h⟩ := bind_s h
        obtain ⟨lZ22, hlZ22, h⟩ := bnd_s h
        have eZ23 : (rZ20.2.2.map AV.i).set (acZ0 + (Int.toNat sZ2.1)) (.i yZ5) = lZ22.map AV.i := by rw [← hlZ22, List.map_set]
        obtain ⟨cZ24, h⟩ | ⟨cZ24, h⟩ := cond_s h
        · cases h
          exact ZL (ZA cZ3 (ZA hkZ4a (ZA hkZ4b (ZA hyZ5 (ZA cZ14 (ZA hkZ15a (ZA hkZ15b (ZA hyZ16 (ZA eZ18 (ZA huZ19a (ZA huZ19b (ZA huZ19c (ZA huZ19d (ZA hyZ21 (ZA eZ23 cZ24))))))))))))))) (ZA V93M3.eq_1 (ZA hlZ17.symm hlZ22.symm))
        · cases h
          exact ZL (ZA cZ3 (ZA hkZ4a (ZA hkZ4b (ZA hyZ5 (ZA cZ14 (ZA hkZ15a (ZA hkZ15b (ZA hyZ16 (ZA eZ18 (ZA huZ19a (ZA huZ19b (ZA huZ19c (ZA huZ19d (ZA hyZ21 (ZA eZ23 cZ24))))))))))))))) (ZA S_impl_fitsM3L1.eq_1 (ZA SX_impl_fitsM3L1.eq_1 (ZA hlZ17.symm hlZ22.symm)))
  · cases h
    exact ZL cZ3 (ZA S_impl_fitsM3L1.eq_1 SX_impl_fitsM3L1.eq_1)
theorem wB_impl_fitsM3 (rcZ0 : Nat → Nat → Nat → Nat → List Int → List Int → Option (Bool × List Int × List Int)) (ihZ0 : ∀ (aaZ0 : Nat) (abZ0 : Nat) (acZ0 : Nat) (adZ0 : Nat) (aeZ0 : List Int) (afZ0 : List Int) {r : Bool × List Int × List Int}, rcZ0 aaZ0 abZ0 acZ0 adZ0 aeZ0 afZ0 = some r → OkM Try.prog 93 [.sl 1000000000 aaZ0 abZ0, .sl 1000000001 acZ0 adZ0] [(1000000000, .arr 1 (aeZ0.map AV.i)), (1000000001, .arr 1 (afZ0.map AV.i))] ((fun (r : Bool × List Int × List Int) => .b r.1) r) ((fun (r : Bool × List Int × List Int) => [(1000000000, .arr 1 (r.2.1.map AV.i)), (1000000001, .arr 1 (r.2.2.map AV.i))]) r)) (aaZ0 : Nat) (abZ0 : Nat) (acZ0 : Nat) (adZ0 : Nat) (aeZ0 : List Int) (afZ0 : List Int) {r : Bool × List Int × List Int} (h : M_impl_fitsM3_B rcZ0 aaZ0 abZ0 acZ0 adZ0 aeZ0 afZ0 = some r) : OkM Try.prog 93 [.sl 1000000000 aaZ0 abZ0, .sl 1000000001 acZ0 adZ0] [(1000000000, .arr 1 (aeZ0.map AV.i)), (1000000001, .arr 1 (afZ0.map AV.i))] ((fun (r : Bool × List Int × List Int) => .b r.1) r) ((fun (r : Bool × List Int × List Int) => [(1000000000, .arr 1 (r.2.1.map AV.i)), (1000000001, .arr 1 (r.2.2.map AV.i))]) r) := by
  refine okM_of_body (lr := [1000000000, 1000000001]) hmix m93M3 rfl rfl ?_
  unfold M_impl_fitsM3_B at h
  simp only [ZC, A93M3, V93M3]
  obtain ⟨cZ1, h⟩ | ⟨cZ1, h⟩ := cond_s h
  · cases h
    exact ZL cZ1 V93M3.eq_1
  · obtain ⟨oZ25, hoZ25, h⟩ := bind_s h
    try refine ZF cZ1 ?_
    refine join_rule (o := oZ25) (blk_rule sideM (loop_rule (w_impl_fitsM3L1 aaZ0 abZ0 acZ0 adZ0 aeZ0 afZ0 rcZ0 ihZ0) hoZ25 ?_)) (fun vZ26 hv => ?_) (fun xZ27 hv e τ hne hq => ?_)
    · exact ZK (ZA S_impl_fitsM3L1.eq_1 SX_impl_fitsM3L1.eq_1)
    · subst hv
      simp only [] at h
      simp only [ZC, SX_impl_fitsM3L1, A93M3R3]
      cases h
      exact ZL cZ1 V93M3.eq_1
    · subst hv
      simp only [] at h
      obtain ⟨rfl, qZ28⟩ := hq
      cases h
      exact qZ28
theorem w_impl_fitsM3 : ∀ (n : Nat) (aaZ0 : Nat) (abZ0 : Nat) (acZ0 : Nat) (adZ0 : Nat) (aeZ0 : List Int) (afZ0 : List Int) {r : Bool × List Int × List Int} (_ : M_impl_fitsM3 n aaZ0 abZ0 acZ0 adZ0 aeZ0 afZ0 = some r), OkM Try.prog 93 [.sl 1000000000 aaZ0 abZ0, .sl 1000000001 acZ0 adZ0] [(1000000000, .arr 1 (aeZ0.map AV.i)), (1000000001, .arr 1 (afZ0.map AV.i))] ((fun (r : Bool × List Int × List Int) => .b r.1) r) ((fun (r : Bool × List Int × List Int) => [(1000000000, .arr 1 (r.2.1.map AV.i)), (1000000001, .arr 1 (r.2.2.map AV.i))]) r)
  | 0, aaZ0, abZ0, acZ0, adZ0, aeZ0, afZ0, _, h => by cases h
  | n + 1, aaZ0, abZ0, acZ0, adZ0, aeZ0, afZ0, _, h => wB_impl_fitsM3 (M_impl_fitsM3 n) (w_impl_fitsM3 n) aaZ0 abZ0 acZ0 adZ0 aeZ0 afZ0 h
def S_impl_fitsM1L1 (aaZ0 : Nat) (abZ0 : Nat) (adZ0 : List Int) (v : Nat × Nat × Int × List Int × List Int) : St := ⟨[(0, .sl 1000000000 aaZ0 abZ0), (1, .sl 1000000001 0 v.1), (11, .sl 1000000001 0 v.2.1), (12, .i (adZ0.length : Int)), (13, .i v.2.2.1)], [(1000000000, .arr 1 (v.2.2.2.1.map AV.i)), (1000000001, .arr 1 (v.2.2.2.2.map AV.i))]⟩
def SX_impl_fitsM1L1 (v : List Int × List Int) : St := ⟨[], [(1000000000, .arr 1 (v.1.map AV.i)), (1000000001, .arr 1 (v.2.map AV.i))]⟩
theorem w_impl_fitsM1L1 (aaZ0 : Nat) (abZ0 : Nat) (acZ0 : List Int) (adZ0 : List Int) (rcZ0 : Nat → Nat → List Int → List Int → Option (Bool × List Int × List Int)) (ihZ0 : ∀ (aaZ0 : Nat) (abZ0 : Nat) (acZ0 : List Int) (adZ0 : List Int) {r : Bool × List Int × List Int}, rcZ0 aaZ0 abZ0 acZ0 adZ0 = some r → OkM Try.prog 93 [.sl 1000000000 aaZ0 abZ0, .sl 1000000001 0 adZ0.length] [(1000000000, .arr 1 (acZ0.map AV.i)), (1000000001, .arr 1 (adZ0.map AV.i))] ((fun (r : Bool × List Int × List Int) => .b r.1) r) ((fun (r : Bool × List Int × List Int) => [(1000000000, .arr 1 (r.2.1.map AV.i)), (1000000001, .arr 1 (r.2.2.map AV.i))]) r)) (sZ2 : Nat × Nat × Int × List Int × List Int) (o : (Nat × Nat × Int × List Int × List Int) ⊕ ((List Int × List Int) ⊕ (Bool × List Int × List Int))) (h : M_impl_fitsM1L1 aaZ0 abZ0 adZ0 sZ2 = some o) : AWP (OkS Try.prog) A93M1L2 (qL [0, 1, 11, 12, 13] [1000000000, 1000000001] (S_impl_fitsM1L1 aaZ0 abZ0 adZ0) (qS (qX 0 [] [1000000000, 1000000001] (SX_impl_fitsM1L1)) (qM V93M1 [1000000000, 1000000001] (fun (r : Bool × List Int × List Int) => .b r.1) (fun (r : Bool × List Int × List Int) => [(1000000000, .arr 1 (r.2.1.map AV.i)), (1000000001, .arr 1 (r.2.2.map AV.i))]))) o) (S_impl_fitsM1L1 aaZ0 abZ0 adZ0 sZ2) := by
  unfold M_impl_fitsM1L1 at h
  simp only [ZC, S_impl_fitsM1L1, A93M1L2]
  obtain ⟨cZ3, h⟩ | ⟨cZ3, h⟩ := cond_s h
  · obtain ⟨kZ4, hkZ4, h⟩ := bind_s h
    obtain ⟨hkZ4a, hkZ4b⟩ := grd_s hkZ4
    obtain ⟨yZ5, hyZ5, h⟩ := bind_s h
    obtain ⟨oZ13, hoZ13, h⟩ := bind_s h
    try refine ZF (ZA cZ3 (ZA hkZ4a (ZA hkZ4b hyZ5))) ?_
    refine join_rule0 (sh := (fun v => ⟨[(0, .sl 1000000000 aaZ0 abZ0), (1, .sl 1000000001 0 sZ2.1), (5, .i sZ2.2.2.1), (6, .i yZ5), (11, .sl 1000000001 0 sZ2.2.1), (12, .i (adZ0.length : Int)), (13, .i sZ2.2.2.1), (29, .b v)], [(1000000000, .arr 1 (sZ2.2.2.2.1.map AV.i)), (1000000001, .arr 1 (sZ2.2.2.2.2.map AV.i))]⟩)) (s := oZ13) ?_ ?_
    · replace h := hoZ13
      obtain ⟨kZ6, hkZ6, h⟩ := bind_s h
      obtain ⟨hkZ6a, hkZ6b⟩ := grd_s hkZ6
      obtain ⟨yZ7, hyZ7, h⟩ := bind_s h
      obtain ⟨cZ8, h⟩ | ⟨cZ8, h⟩ := cond_s h
      · cases h
        exact ZL (ZA cZ3 (ZA hkZ4a (ZA hkZ4b (ZA hyZ5 (ZA hkZ6a (ZA hkZ6b (ZA hyZ7 cZ8))))))) trivial
      · obtain ⟨uZ9, huZ9, h⟩ := bind_s h
        obtain ⟨huZ9a, huZ9b, huZ9c, huZ9d⟩ := grd_s huZ9
        obtain ⟨lZ10, hlZ10, h⟩ := bnd_s h
        have eZ11 : sub (sZ2.2.2.2.2.map AV.i) 0 (Int.toNat sZ2.2.2.1) = lZ10.map AV.i := by rw [sub_mapT, hlZ10]
        obtain ⟨rZ12, hrZ12, h⟩ := bind_s h
        refine ZF (ZA cZ3 (ZA hkZ4a (ZA hkZ4b (ZA hyZ5 (ZA hkZ6a (ZA hkZ6b (ZA hyZ7 (ZA cZ8 (ZA huZ9a (ZA huZ9b (ZA huZ9c (ZA huZ9d eZ11)))))))))))) ?_
        refine ZS (ZA cZ3 (ZA hkZ4a (ZA hkZ4b (ZA hyZ5 (ZA hkZ6a (ZA hkZ6b (ZA hyZ7 (ZA cZ8 (ZA huZ9a (ZA huZ9b (ZA huZ9c (ZA huZ9d eZ11)))))))))))) (w_slices_Contains_Lint_int _ _ hrZ12) ?_
        refine ZG ?_
        cases h
        exact ZL (ZA cZ3 (ZA hkZ4a (ZA hkZ4b (ZA hyZ5 (ZA hkZ6a (ZA hkZ6b (ZA hyZ7 (ZA cZ8 (ZA huZ9a (ZA huZ9b (ZA huZ9c (ZA huZ9d eZ11)))))))))))) trivial
    · simp only [ZC, A93M1R1]
      obtain ⟨cZ14, h⟩ | ⟨cZ14, h⟩ := cond_s h
      · cases h
        exact ZL (ZA cZ3 (ZA hkZ4a (ZA hkZ4b (ZA hyZ5 cZ14)))) (ZA S_impl_fitsM1L1.eq_1 SX_impl_fitsM1L1.eq_1)
      · obtain ⟨kZ15, hkZ15, h⟩ := bind_s h
        obtain ⟨hkZ15a, hkZ15b⟩ := grd_s hkZ15
        obtain ⟨kZ16, hkZ16, h⟩ := bind_s h
        obtain ⟨hkZ16a, hkZ16b⟩ := grd_s hkZ16
        obtain ⟨yZ17, hyZ17, h⟩ := bind_s h
        obtain ⟨lZ18, hlZ18, h⟩ := bnd_s h
        have eZ19 : (sZ2.2.2.2.2.map AV.i).set (Int.toNat sZ2.2.2.1) (.i (IntKind.wrap .i64 (yZ5 - yZ17))) = lZ18.map AV.i := by rw [← hlZ18, List.map_set]
        obtain ⟨uZ20, huZ20, h⟩ := bind_s h
        obtain ⟨huZ20a, huZ20b, huZ20c, huZ20d⟩ := grd_s huZ20
        obtain ⟨rZ21, hrZ21, h⟩ := bind_s h
        refine ZF (ZA cZ3 (ZA hkZ4a (ZA hkZ4b (ZA hyZ5 (ZA cZ14 (ZA hkZ15a (ZA hkZ15b (ZA hkZ16a (ZA hkZ16b (ZA hyZ17 (ZA eZ19 (ZA huZ20a (ZA huZ20b (ZA huZ20c huZ20d)))))))))))))) ?_
        refine ZW (ZA cZ3 (ZA hkZ4a (ZA hkZ4b (ZA hyZ5 (ZA cZ14 (ZA hkZ15a (ZA hkZ15b (ZA hkZ16a (ZA hkZ16b (ZA hyZ17 (ZA eZ19 (ZA huZ20a (ZA huZ20b (ZA huZ20c huZ20d)))))))))))))) (w_impl_fitsM3 N0 _ _ _ _ _ _ hrZ21) (h2 := by first | exact nm_ok [1000000000, 1000000001] rfl (by decide +kernel) | exact nm_ok2 [1000000000, 1000000001] [] rfl (by decide +kernel) ZQ | exact ZQ) (hk := ?_)
        refine ZG ?_
        obtain ⟨yZ22, hyZ22, h⟩ := bind_s h
        obtain ⟨lZ23, hlZ23, h⟩ := bnd_s h
        have eZ24 : (rZ21.2.2.map AV.i).set (Int.toNat sZ2.2.2.1) (.i yZ5) = lZ23.map AV.i := by rw [← hlZ23, List.map_set]
        obtain ⟨cZ25, h⟩ | ⟨cZ25, h⟩ := cond_s h
        · cases h
          exact ZL (ZA cZ3 (ZA hkZ4a (ZA hkZ4b (ZA hyZ5 (ZA cZ14 (ZA hkZ15a (ZA hkZ15b (ZA hkZ16a (ZA hkZ16b (ZA hyZ17 (ZA eZ19 (ZA huZ20a (ZA huZ20b (ZA huZ20c (ZA huZ20d (ZA hyZ22 (ZA eZ24 cZ25))))))))))))))))) (ZA V93M1.eq_1 (ZA hlZ18.symm hlZ23.symm))
        · cases h
          exact ZL (ZA cZ3 (ZA hkZ4a (ZA hkZ4b (ZA hyZ5 (ZA cZ14 (ZA hkZ15a (ZA hkZ15b (ZA hkZ16a (ZA hkZ16b (ZA hyZ17 (ZA eZ19 (ZA huZ20a (ZA huZ20b (ZA huZ20c (ZA huZ20d (ZA hyZ22 (ZA eZ24 cZ25))))))))))))))))) (ZA S_impl_fitsM1L1.eq_1 (ZA SX_impl_fitsM1L1.eq_1 (ZA hlZ18.symm hlZ23.symm)))
  · cases h
    exact ZL cZ3 (ZA S_impl_fitsM1L1.eq_1 SX_impl_fitsM1L1.eq_1)
theorem wB_impl_fitsM1 (rcZ0 : Nat → Nat → List Int → List Int → Option (Bool × List Int × List Int)) (ihZ0 : ∀ (aaZ0 : Nat) (abZ0 : Nat) (acZ0 : List Int) (adZ0 : List Int) {r : Bool × List Int × List Int}, rcZ0 aaZ0 abZ0 acZ0 adZ0 = some r → OkM Try.prog 93 [.sl 1000000000 aaZ0 abZ0, .sl 1000000001 0 adZ0.length] [(1000000000, .arr 1 (acZ0.map AV.i)), (1000000001, .arr 1 (adZ0.map AV.i))] ((fun (r : Bool × List Int × List Int) => .b r.1) r) ((fun (r : Bool × List Int × List Int) => [(1000000000, .arr 1 (r.2.1.map AV.i)), (1000000001, .arr 1 (r.2.2.map AV.i))]) r)) (aaZ0 : Nat) (abZ0 : Nat) (acZ0 : List Int) (adZ0 : List Int) {r : Bool × List Int × List Int} (h : M_impl_fitsM1_B rcZ0 aaZ0 abZ0 acZ0 adZ0 = some r) : OkM Try.prog 93 [.sl 1000000000 aaZ0 abZ0, .sl 1000000001 0 adZ0.length] [(1000000000, .arr 1 (acZ0.map AV.i)), (1000000001, .arr 1 (adZ0.map AV.i))] ((fun (r : Bool × List Int × List Int) => .b r.1) r) ((fun (r : Bool × List Int × List Int) => [(1000000000, .arr 1 (r.2.1.map AV.i)), (1000000001, .arr 1 (r.2.2.map AV.i))]) r) := by
  refine okM_of_body (lr := [1000000000, 1000000001]) hmix m93M1 rfl rfl ?_
  unfold M_impl_fitsM1_B at h
  simp only [ZC, A93M1, V93M1]
  obtain ⟨cZ1, h⟩ | ⟨cZ1, h⟩ := cond_s h
  · cases h
    exact ZL cZ1 V93M1.eq_1
  · obtain ⟨oZ26, hoZ26, h⟩ := bind_s h
    try refine ZF cZ1 ?_
    refine join_rule (o := oZ26) (blk_rule sideM (loop_rule (w_impl_fitsM1L1 aaZ0 abZ0 acZ0 adZ0 rcZ0 ihZ0) hoZ26 ?_)) (fun vZ27 hv => ?_) (fun xZ28 hv e τ hne hq => ?_)
    · exact ZK (ZA S_impl_fitsM1L1.eq_1 SX_impl_fitsM1L1.eq_1)
    · subst hv
      simp only [] at h
      simp only [ZC, SX_impl_fitsM1L1, A93M1R3]
      cases h
      exact ZL cZ1 V93M1.eq_1
    · subst hv
      simp only [] at h
      obtain ⟨rfl, qZ29⟩ := hq
      cases h
      exact qZ29
theorem w_impl_fitsM1 : ∀ (n : Nat) (aaZ0 : Nat) (abZ0 : Nat) (acZ0 : List Int) (adZ0 : List Int) {r : Bool × List Int × List Int} (_ : M_impl_fitsM1 n aaZ0 abZ0 acZ0 adZ0 = some r), OkM Try.prog 93 [.sl 1000000000 aaZ0 abZ0, .sl 1000000001 0 adZ0.length] [(1000000000, .arr 1 (acZ0.map AV.i)), (1000000001, .arr 1 (adZ0.map AV.i))] ((fun (r : Bool × List Int × List Int) => .b r.1) r) ((fun (r : Bool × List Int × List Int) => [(1000000000, .arr 1 (r.2.1.map AV.i)), (1000000001, .arr 1 (r.2.2.map AV.i))]) r)
  | 0, aaZ0, abZ0, acZ0, adZ0, _, h => by cases h
  | n + 1, aaZ0, abZ0, acZ0, adZ0, _, h => wB_impl_fitsM1 (M_impl_fitsM1 n) (w_impl_fitsM1 n) aaZ0 abZ0 acZ0 adZ0 h
def S_impl_FewestUnitsL1 (capacityZ0 : Int) (rZ3 : List Int) (v : Int × List Int) : St := ⟨[(1, .i capacityZ0), (6, .sl 6 0 rZ3.length), (7, .i v.1)], [(6, .arr 1 (v.2.map AV.i))]⟩
def SX_impl_FewestUnitsL1 (v : Int) : St := ⟨[(7, .i v)], []⟩
theorem w_impl_FewestUnitsL1 (capacityZ0 : Int) (rZ3 : List Int) (sZ5 : Int × List Int) (o : (Int × List Int) ⊕ Int) (h : M_impl_FewestUnitsL1 capacityZ0 rZ3 sZ5 = some o) : AWP (OkS Try.prog) A53L1 (qL [1, 6, 7] [6] (S_impl_FewestUnitsL1 capacityZ0 rZ3) (qX 0 [7] [] (SX_impl_FewestUnitsL1)) o) (S_impl_FewestUnitsL1 capacityZ0 rZ3 sZ5) := by
  unfold M_impl_FewestUnitsL1 at h
  simp only [ZC, S_impl_FewestUnitsL1, A53L1]
  obtain ⟨lZ6, hlZ6, h⟩ := bnd_s h
  have eZ7 : Row.arr 1 [(.i capacityZ0 : AV)] = Row.arr 1 (lZ6.map AV.i) := by rw [← hlZ6]; rfl
  have eZ8 : lZ6.length = 1 := by rw [← hlZ6]; rfl
  have nZ9 : sub (lZ6.map AV.i) 0 1 = lZ6.map AV.i := sub_n _ (by simp [← hlZ6])
  obtain ⟨rZ10, hrZ10, h⟩ := bind_s h
  refine ZF (ZA eZ7 (ZA eZ8 nZ9)) ?_
  refine ZU (ZA eZ7 (ZA eZ8 nZ9)) (w_slices_Repeat_Lint_int _ _ hrZ10) ?_
  refine ZG ?_
  obtain ⟨rZ11, hrZ11, h⟩ := bind_s h
  refine ZF (ZA eZ7 (ZA eZ8 nZ9)) ?_
  refine ZW (ZA eZ7 (ZA eZ8 nZ9)) (w_impl_fitsM1 N0 _ _ _ _ hrZ11) (h2 := by first | exact nm_ok [1000000000, 1000000001] rfl (by decide +kernel) | exact nm_ok2 [1000000000, 1000000001] [] rfl (by decide +kernel) ZQ | exact ZQ) (hk := ?_)
  refine ZG ?_
  obtain ⟨cZ12, h⟩ | ⟨cZ12, h⟩ := cond_s h
  · cases h
    exact ZL (ZA eZ7 (ZA eZ8 (ZA nZ9 cZ12))) (ZA S_impl_FewestUnitsL1.eq_1 (ZA SX_impl_FewestUnitsL1.eq_1 hlZ6.symm))
  · cases h
    exact ZL (ZA eZ7 (ZA eZ8 (ZA nZ9 cZ12))) (ZA S_impl_FewestUnitsL1.eq_1 (ZA SX_impl_FewestUnitsL1.eq_1 hlZ6.symm))
theorem w_impl_FewestUnits (ratesZ0 : List Int) (capacityZ0 : Int) {r : Int × Bool} (h : M_impl_FewestUnits ratesZ0 capacityZ0 = some r) : Ok Try.prog 53 [.lst .o 1 (ratesZ0.map AV.i), .i capacityZ0] ((fun r => .tup [.i r.1, .b r.2]) r) := by
  refine ok_of_body hmix m53 rfl ?_
  unfold M_impl_FewestUnits at h
  simp only [ZC, A53, V53, body_eq]
  obtain ⟨rZ1, hrZ1, h⟩ := bind_s h
  refine ZF trivial ?_
  refine ZS trivial (w_impl_isPacking _ _ _ hrZ1) ?_
  refine ZG ?_
  obtain ⟨cZ2, h⟩ | ⟨cZ2, h⟩ := cond_s h
  · cases h
    exact ZL cZ2 V53.eq_1
  · obtain ⟨rZ3, hrZ3, h⟩ := bind_s h
    refine ZF cZ2 ?_
    refine ZU cZ2 (w_slices_Clone_Lint_int _ hrZ3) ?_
    refine ZG ?_
    obtain ⟨rZ4, hrZ4, h⟩ := bind_s h
    refine ZF cZ2 ?_
    refine ZW cZ2 (w_slices_SortFunc_Lint_intM1 _ hrZ4) (h2 := by first | exact nm_ok [1000000000] rfl (by decide +kernel) | exact nm_ok2 [1000000000] [] rfl (by decide +kernel) ZQ | exact ZQ) (hk := ?_)
    refine ZG ?_
    obtain ⟨oZ13, hoZ13, h⟩ := bind_s h
    try refine ZF cZ2 ?_
    refine join_rule0 (blk_rule0 (loop_rule (w_impl_FewestUnitsL1 capacityZ0 rZ3) hoZ13 ?_)) ?_
    · exact ZK (ZA S_impl_FewestUnitsL1.eq_1 SX_impl_FewestUnitsL1.eq_1)
    · simp only [ZC, SX_impl_FewestUnitsL1, A53R2]
      cases h
      exact ZL cZ2 V53.eq_1
def S_laws_eqIntSL1 (aZ0 : List Int) (bZ0 : List Int) (v : Int) : St := ⟨[(0, .lst .o 1 (aZ0.map AV.i)), (1, .lst .o 1 (bZ0.map AV.i)), (5, .i v)], []⟩
def SX_laws_eqIntSL1 (v : Unit) : St := ⟨[], []⟩
theorem w_laws_eqIntSL1 (aZ0 : List Int) (bZ0 : List Int) (sZ2 : Int) (o : Int ⊕ (Unit ⊕ Bool)) (h : M_laws_eqIntSL1 aZ0 bZ0 sZ2 = some o) : AWP (OkS Try.prog) A22L1 (qL [0, 1, 5] [] (S_laws_eqIntSL1 aZ0 bZ0) (qS (qX 0 [] [] (SX_laws_eqIntSL1)) (qR V22 (fun r => .b r))) o) (S_laws_eqIntSL1 aZ0 bZ0 sZ2) := by
  unfold M_laws_eqIntSL1 at h
  simp only [ZC, S_laws_eqIntSL1, A22L1]
  obtain ⟨cZ3, h⟩ | ⟨cZ3, h⟩ := cond_s h
  · obtain ⟨yZ4, hyZ4, h⟩ := bind_s h
    obtain ⟨hyZ4a, hyZ4b⟩ := geti_s hyZ4
    obtain ⟨yZ5, hyZ5, h⟩ := bind_s h
    obtain ⟨hyZ5a, hyZ5b⟩ := geti_s hyZ5
    obtain ⟨cZ6, h⟩ | ⟨cZ6, h⟩ := cond_s h
    · cases h
      exact ZL (ZA cZ3 (ZA hyZ4a (ZA hyZ4b (ZA hyZ5a (ZA hyZ5b cZ6))))) V22.eq_1
    · cases h
      exact ZL (ZA cZ3 (ZA hyZ4a (ZA hyZ4b (ZA hyZ5a (ZA hyZ5b cZ6))))) (ZA S_laws_eqIntSL1.eq_1 SX_laws_eqIntSL1.eq_1)
  · cases h
    exact ZL cZ3 (ZA S_laws_eqIntSL1.eq_1 SX_laws_eqIntSL1.eq_1)
theorem w_laws_eqIntS (aZ0 : List Int) (bZ0 : List Int) {r : Bool} (h : M_laws_eqIntS aZ0 bZ0 = some r) : Ok Try.prog 22 [.lst .o 1 (aZ0.map AV.i), .lst .o 1 (bZ0.map AV.i)] ((fun r => .b r) r) := by
  refine ok_of_body hmix m22 rfl ?_
  unfold M_laws_eqIntS at h
  simp only [ZC, A22, V22, body_eq]
  obtain ⟨cZ1, h⟩ | ⟨cZ1, h⟩ := cond_s h
  · cases h
    exact ZL cZ1 V22.eq_1
  · obtain ⟨oZ7, hoZ7, h⟩ := bind_s h
    try refine ZF cZ1 ?_
    refine join_rule (o := oZ7) (blk_rule sideR (loop_rule (w_laws_eqIntSL1 aZ0 bZ0) hoZ7 ?_)) (fun vZ8 hv => ?_) (fun xZ9 hv e τ hne hq => ?_)
    · exact ZK (ZA S_laws_eqIntSL1.eq_1 SX_laws_eqIntSL1.eq_1)
    · subst hv
      simp only [] at h
      simp only [ZC, SX_laws_eqIntSL1, A22R2]
      cases h
      exact ZL cZ1 V22.eq_1
    · subst hv
      simp only [] at h
      obtain ⟨rfl, qZ10⟩ := hq
      cases h
      exact qZ10
theorem w_laws_FnExactFewestUnits (aRatesZ0 : List Int) (aCapacityZ0 : Int) {r : Bool} (h : M_laws_FnExactFewestUnits aRatesZ0 aCapacityZ0 = some r) : Ok Try.prog 13 [.lst .o 1 (aRatesZ0.map AV.i), .i aCapacityZ0] ((fun r => .b r) r) := by
  refine ok_of_body hmix m13 rfl ?_
  unfold M_laws_FnExactFewestUnits at h
  simp only [ZC, A13, V13, body_eq]
  obtain ⟨cZ1, h⟩ | ⟨cZ1, h⟩ := cond_s h
  · cases h
    exact ZL cZ1 V13.eq_1
  · obtain ⟨rZ2, hrZ2, h⟩ := bind_s h
    refine ZF cZ1 ?_
    refine ZU cZ1 (w_laws_toIntS _ hrZ2) ?_
    refine ZG ?_
    obtain ⟨rZ3, hrZ3, h⟩ := bind_s h
    refine ZF cZ1 ?_
    refine ZU cZ1 (w_spec_FewestUnits _ _ hrZ3) ?_
    refine ZG ?_
    obtain ⟨rZ4, hrZ4, h⟩ := bind_s h
    refine ZF cZ1 ?_
    refine ZU cZ1 (w_laws_toIntS _ hrZ4) ?_
    refine ZG ?_
    obtain ⟨rZ5, hrZ5, h⟩ := bind_s h
    refine ZF cZ1 ?_
    refine ZU cZ1 (w_impl_FewestUnits _ _ hrZ5) ?_
    refine ZG ?_
    obtain ⟨oZ7, hoZ7, h⟩ := bind_s h
    try refine ZF cZ1 ?_
    refine join_rule0 (sh := (fun v => ⟨[(0, .lst .o 1 (aRatesZ0.map AV.i)), (7, .sl 7 0 rZ4.length), (35, .b v)], [(7, .arr 1 (rZ4.map AV.i))]⟩)) (s := oZ7) ?_ ?_
    · replace h := hoZ7
      obtain ⟨cZ6, h⟩ | ⟨cZ6, h⟩ := cond_s h
      · cases h
        exact ZL (ZA cZ1 cZ6) trivial
      · cases h
        exact ZL (ZA cZ1 cZ6) trivial
    · simp only [ZC, A13R1]
      obtain ⟨cZ8, h⟩ | ⟨cZ8, h⟩ := cond_s h
      · cases h
        exact ZL (ZA cZ1 cZ8) V13.eq_1
      · obtain ⟨rZ9, hrZ9, h⟩ := bind_s h
        refine ZF (ZA cZ1 cZ8) ?_
        refine ZU (ZA cZ1 cZ8) (w_laws_toIntS _ hrZ9) ?_
        refine ZG ?_
        obtain ⟨rZ10, hrZ10, h⟩ := bind_s h
        refine ZF (ZA cZ1 cZ8) ?_
        refine ZS (ZA cZ1 cZ8) (w_laws_eqIntS _ _ hrZ10) ?_
        refine ZG ?_
        obtain ⟨cZ11, h⟩ | ⟨cZ11, h⟩ := cond_s h
        · cases h
          exact ZL (ZA cZ1 (ZA cZ8 cZ11)) V13.eq_1
        · cases h
          exact ZL (ZA cZ1 (ZA cZ8 cZ11)) V13.eq_1
end Vs

