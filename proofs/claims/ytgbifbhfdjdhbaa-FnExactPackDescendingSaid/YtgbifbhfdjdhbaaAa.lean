/-
  Part of the proof that the law FnExactPackDescending returns true at every input; no condition beside the row's own.
-/
import Derived.Test.YtgbifbhfdjdhbaaFd
import Derived.Test.YtgbifbhfdjdhbaaChecked
import Derived.KernelRfl
set_option linter.unusedSimpArgs false
set_option linter.unusedVariables false
namespace Vs
open Go
def M_laws_toIntSL1 (aZ0 : List Int) (sZ4 : Int × List Int) : Option ((Int × List Int) ⊕ (List Int)) :=
  cond (decide (sZ4.1 < (aZ0.length : Int))) ((geti aZ0 sZ4.1).bind fun yZ6 => (grd (0 ≤ sZ4.1 ∧ sZ4.1 < (sZ4.2.length : Int))).bind fun kZ7 => (sZ4.2[(Int.toNat sZ4.1)]?).bind fun yZ8 => bnd (sZ4.2.set (Int.toNat sZ4.1) yZ6) fun lZ9 => some (.inl (IntKind.wrap .i64 (sZ4.1 + 1), lZ9))) (some (.inr sZ4.2))
def M_laws_toIntS (aZ0 : List Int) : Option (List Int) :=
  (grd (0 ≤ (aZ0.length : Int) ∧ (aZ0.length : Int) ≤ (aZ0.length : Int) ∧ (aZ0.length : Int) * ((8 : Nat) : Int) ≤ 140737488355328 ∧ (aZ0.length : Int) ≤ 9223372036854775807)).bind fun uZ1 => bnd (List.replicate (Int.toNat (aZ0.length : Int)) 0) fun lZ2 => (iter (M_laws_toIntSL1 aZ0) N0 (0, lZ2)).bind fun oZ11 => some oZ11
def M_spec_l1In (xZ0 : Int) (aZ0 : Int) (bZ0 : Int) : Option Bool :=
  cond (decide (aZ0 ≤ xZ0)) (some (decide (xZ0 ≤ bZ0))) (some false)
def M_spec_l18RatesL1 (ratesZ0 : List Int) (capacityZ0 : Int) (sZ1 : Int) : Option (Int ⊕ (Unit ⊕ Bool)) :=
  (cond (decide (sZ1 < (ratesZ0.length : Int))) (some (decide (sZ1 ≤ 12))) (some false) : Option Bool).bind fun oZ3 => cond (oZ3) ((geti ratesZ0 sZ1).bind fun yZ5 => (M_spec_l1In yZ5 1 capacityZ0).bind fun rZ6 => cond (!rZ6) (some (.inr (.inr false))) (some (.inl (IntKind.wrap .i64 (sZ1 + 1))))) (some (.inr (.inl ())))
def M_spec_l18Rates (ratesZ0 : List Int) (capacityZ0 : Int) : Option Bool :=
  (iter (M_spec_l18RatesL1 ratesZ0 capacityZ0) N0 0).bind fun oZ8 => (match oZ8 with | .inl vZ9 => cond (decide ((ratesZ0.length : Int) ≤ 12)) ((M_spec_l1In capacityZ0 1 10000).bind fun rZ12 => some rZ12) (some false) | .inr xZ10 => some xZ10)
def M_spec_l18OrderL2 (ratesZ0 : List Int) (descendingZ0 : Bool) (sZ1 : Int × List Int) (sZ3 : Int) : Option (Int ⊕ Int) :=
  cond (descendingZ0) (cond (decide (0 < sZ3)) ((grd (0 ≤ (IntKind.wrap .i64 (sZ3 - 1)) ∧ (IntKind.wrap .i64 (sZ3 - 1)) < (sZ1.2.length : Int))).bind fun kZ6 => (sZ1.2[(Int.toNat (IntKind.wrap .i64 (sZ3 - 1)))]?).bind fun yZ7 => (geti ratesZ0 yZ7).bind fun yZ8 => (geti ratesZ0 sZ1.1).bind fun yZ9 => cond (decide (yZ8 < yZ9)) (some (.inl (IntKind.wrap .i64 (sZ3 - 1)))) (some (.inr sZ3))) (some (.inr sZ3))) (some (.inr sZ3))
def M_spec_l18OrderL1 (ratesZ0 : List Int) (descendingZ0 : Bool) (sZ1 : Int × List Int) : Option ((Int × List Int) ⊕ (List Int)) :=
  cond (decide (sZ1.1 < (ratesZ0.length : Int))) ((iter (M_spec_l18OrderL2 ratesZ0 descendingZ0 sZ1) N0 (sZ1.2.length : Int)).bind fun oZ11 => (grd (True ∧ 0 ≤ oZ11 ∧ True ∧ Int.toNat oZ11 ≤ sZ1.2.length)).bind fun uZ12 => bnd (subT sZ1.2 0 (Int.toNat oZ11)) fun lZ13 => (grd (lZ13.length * 8 ≤ 140737488355328)).bind fun uZ15 => bnd ([sZ1.1]) fun lZ16 => (grd ((lZ13.length + 1) * 8 ≤ 140737488355328)).bind fun uZ19 => bnd (lZ13 ++ lZ16) fun lZ20 => (grd (0 ≤ oZ11 ∧ True ∧ Int.toNat oZ11 ≤ sZ1.2.length ∧ True)).bind fun uZ23 => bnd (subT sZ1.2 (Int.toNat oZ11) (sZ1.2.length - (Int.toNat oZ11))) fun lZ24 => (grd ((lZ20.length + lZ24.length) * 8 ≤ 140737488355328)).bind fun uZ26 => bnd (lZ20 ++ lZ24) fun lZ27 => some (.inl (IntKind.wrap .i64 (sZ1.1 + 1), lZ27))) (some (.inr sZ1.2))
def M_spec_l18Order (ratesZ0 : List Int) (descendingZ0 : Bool) : Option (List Int) :=
  (iter (M_spec_l18OrderL1 ratesZ0 descendingZ0) N0 (0, [])).bind fun oZ30 => some oZ30
def M_spec_l18PackL2 (sZ4 : Int × List Int × List Int) (yZ7 : Int) (sZ8 : Int) : Option (Int ⊕ Int) :=
  cond (decide (sZ8 < (sZ4.2.2.length : Int))) ((grd (0 ≤ sZ8 ∧ sZ8 < (sZ4.2.2.length : Int))).bind fun kZ10 => (sZ4.2.2[(Int.toNat sZ8)]?).bind fun yZ11 => cond (decide (yZ11 < yZ7)) (some (.inl (IntKind.wrap .i64 (sZ8 + 1)))) (some (.inr sZ8))) (some (.inr sZ8))
def M_spec_l18PackL1 (ratesZ0 : List Int) (orderZ0 : List Int) (capacityZ0 : Int) (sZ4 : Int × List Int × List Int) : Option ((Int × List Int × List Int) ⊕ (List Int × List Int)) :=
  cond (decide (sZ4.1 < (orderZ0.length : Int))) ((geti orderZ0 sZ4.1).bind fun yZ6 => (geti ratesZ0 yZ6).bind fun yZ7 => (iter (M_spec_l18PackL2 sZ4 yZ7) N0 0).bind fun oZ13 => (cond (oZ13 == (sZ4.2.2.length : Int)) (bnd ([capacityZ0]) fun lZ15 => (grd ((sZ4.2.2.length + 1) * 8 ≤ 140737488355328)).bind fun uZ18 => bnd (sZ4.2.2 ++ lZ15) fun lZ19 => some lZ19) (some sZ4.2.2) : Option (List Int)).bind fun oZ22 => (grd (0 ≤ oZ13 ∧ oZ13 < (oZ22.length : Int))).bind fun kZ23 => (oZ22[(Int.toNat oZ13)]?).bind fun yZ24 => bnd (oZ22.set (Int.toNat oZ13) (IntKind.wrap .i64 (yZ24 - yZ7))) fun lZ25 => (grd (0 ≤ yZ6 ∧ yZ6 < (sZ4.2.1.length : Int))).bind fun kZ27 => (sZ4.2.1[(Int.toNat yZ6)]?).bind fun yZ28 => bnd (sZ4.2.1.set (Int.toNat yZ6) oZ13) fun lZ29 => some (.inl (IntKind.wrap .i64 (sZ4.1 + 1), lZ29, lZ25))) (some (.inr (sZ4.2.1, sZ4.2.2)))
def M_spec_l18Pack (ratesZ0 : List Int) (orderZ0 : List Int) (capacityZ0 : Int) : Option (List Int × Int) :=
  (grd (0 ≤ (ratesZ0.length : Int) ∧ (ratesZ0.length : Int) ≤ (ratesZ0.length : Int) ∧ (ratesZ0.length : Int) * ((8 : Nat) : Int) ≤ 140737488355328 ∧ (ratesZ0.length : Int) ≤ 9223372036854775807)).bind fun uZ1 => bnd (List.replicate (Int.toNat (ratesZ0.length : Int)) 0) fun lZ2 => (iter (M_spec_l18PackL1 ratesZ0 orderZ0 capacityZ0) N0 (0, lZ2, [])).bind fun oZ31 => some (oZ31.1, (oZ31.2.length : Int))
def M_spec_PackDescending (ratesZ0 : List Int) (capacityZ0 : Int) : Option (List Int × Bool) :=
  (M_spec_l18Rates ratesZ0 capacityZ0).bind fun rZ1 => cond (!rZ1) (some (([]), false)) ((M_spec_l18Order ratesZ0 true).bind fun rZ3 => (M_spec_l18Pack ratesZ0 rZ3 capacityZ0).bind fun rZ4 => some (rZ4.1, true))
def M_impl_within (nZ0 : Int) (lowZ0 : Int) (highZ0 : Int) : Option Bool :=
  cond (decide (lowZ0 ≤ nZ0)) (some (decide (nZ0 ≤ highZ0))) (some false)
def M_slices_IndexFunc_Lint_intL1 (sZ0 : List Int) (fZ0 : Int → Option Bool) (sZ1 : Int) : Option (Int ⊕ (Unit ⊕ Int)) :=
  cond (decide (sZ1 < (sZ0.length : Int))) ((geti sZ0 sZ1).bind fun yZ3 => (fZ0 yZ3).bind fun rZ4 => cond (rZ4) (some (.inr (.inr sZ1))) (some (.inl (IntKind.wrap .i64 (sZ1 + 1))))) (some (.inr (.inl ())))
def M_slices_IndexFunc_Lint_int (sZ0 : List Int) (fZ0 : Int → Option Bool) : Option Int :=
  (iter (M_slices_IndexFunc_Lint_intL1 sZ0 fZ0) N0 0).bind fun oZ6 => (match oZ6 with | .inl vZ7 => some (-1) | .inr xZ8 => some xZ8)
def M_slices_ContainsFunc_Lint_int (sZ0 : List Int) (fZ0 : Int → Option Bool) : Option Bool :=
  (M_slices_IndexFunc_Lint_int sZ0 fZ0).bind fun rZ1 => some (decide (0 ≤ rZ1))
def M_impl_isPacking_c1 (rateZ0 : Int) (p1Z0 : Int) : Option Bool :=
  (M_impl_within rateZ0 1 p1Z0).bind fun rZ1 => some (!rZ1)
def M_impl_isPacking (ratesZ0 : List Int) (capacityZ0 : Int) (mostZ0 : Int) : Option Bool :=
  (M_impl_within capacityZ0 1 10000).bind fun rZ1 => cond (rZ1) (cond (decide ((ratesZ0.length : Int) ≤ mostZ0)) ((M_slices_ContainsFunc_Lint_int ratesZ0 (fun x0 => M_impl_isPacking_c1 x0 capacityZ0)).bind fun rZ4 => some (!rZ4)) (some false)) (some false)
def M_impl_numberedL1 (nZ0 : Int) (sZ1 : Int × List Int) : Option ((Int × List Int) ⊕ (List Int)) :=
  cond (decide (sZ1.1 < nZ0)) (bnd ([sZ1.1]) fun lZ3 => (grd ((sZ1.2.length + 1) * 8 ≤ 140737488355328)).bind fun uZ6 => bnd (sZ1.2 ++ lZ3) fun lZ7 => some (.inl (IntKind.wrap .i64 (sZ1.1 + 1), lZ7))) (some (.inr sZ1.2))
def M_impl_numbered (nZ0 : Int) : Option (List Int) :=
  (iter (M_impl_numberedL1 nZ0) N0 (0, [])).bind fun oZ10 => some oZ10
def M_cmp_isNaN_int (xZ0 : Int) : Option Bool :=
  some (xZ0 != xZ0)
def M_cmp_Compare_int (xZ0 : Int) (yZ0 : Int) : Option Int :=
  (M_cmp_isNaN_int xZ0).bind fun rZ1 => (M_cmp_isNaN_int yZ0).bind fun rZ2 => cond (rZ1) (cond (rZ2) (some 0) (some (-1))) (cond (rZ2) (some 1) (cond (decide (xZ0 < yZ0)) (some (-1)) (cond (decide (yZ0 < xZ0)) (some 1) (some 0))))
def M_impl_descending_c1 (aZ0 : Int) (bZ0 : Int) (p2Z0 : List Int) : Option Int :=
  (geti p2Z0 bZ0).bind fun yZ1 => (geti p2Z0 aZ0).bind fun yZ2 => (M_cmp_Compare_int yZ1 yZ2).bind fun rZ3 => some rZ3
def M_slices_insertionSortCmpFunc_intM1L2 (aaZ0 : Int) (adZ0 : List Int) (sZ3 : Int × List Int) : Option ((Int × List Int) ⊕ (List Int)) :=
  (cond (decide (aaZ0 < sZ3.1)) ((grd (0 ≤ sZ3.1 ∧ sZ3.1 < (sZ3.2.length : Int))).bind fun kZ5 => (sZ3.2[(Int.toNat sZ3.1)]?).bind fun yZ6 => (grd (0 ≤ (IntKind.wrap .i64 (sZ3.1 - 1)) ∧ (IntKind.wrap .i64 (sZ3.1 - 1)) < (sZ3.2.length : Int))).bind fun kZ7 => (sZ3.2[(Int.toNat (IntKind.wrap .i64 (sZ3.1 - 1)))]?).bind fun yZ8 => (M_impl_descending_c1 yZ6 yZ8 adZ0).bind fun rZ9 => some (decide (rZ9 < 0))) (some false) : Option Bool).bind fun oZ10 => cond (oZ10) ((grd (0 ≤ (IntKind.wrap .i64 (sZ3.1 - 1)) ∧ (IntKind.wrap .i64 (sZ3.1 - 1)) < (sZ3.2.length : Int))).bind fun kZ12 => (sZ3.2[(Int.toNat (IntKind.wrap .i64 (sZ3.1 - 1)))]?).bind fun yZ13 => (grd (0 ≤ sZ3.1 ∧ sZ3.1 < (sZ3.2.length : Int))).bind fun kZ14 => (sZ3.2[(Int.toNat sZ3.1)]?).bind fun yZ15 => bnd (sZ3.2.set (Int.toNat sZ3.1) yZ13) fun lZ16 => (lZ16[(Int.toNat (IntKind.wrap .i64 (sZ3.1 - 1)))]?).bind fun yZ18 => bnd (lZ16.set (Int.toNat (IntKind.wrap .i64 (sZ3.1 - 1))) yZ15) fun lZ19 => some (.inl (IntKind.wrap .i64 (sZ3.1 - 1), lZ19))) (some (.inr sZ3.2))
def M_slices_insertionSortCmpFunc_intM1L1 (aaZ0 : Int) (abZ0 : Int) (adZ0 : List Int) (sZ1 : Int × List Int) : Option ((Int × List Int) ⊕ (List Int)) :=
  cond (decide (sZ1.1 < abZ0)) (((iter (M_slices_insertionSortCmpFunc_intM1L2 aaZ0 adZ0) N0 (sZ1.1, sZ1.2)).bind fun oZ21 => some oZ21 : Option (List Int)).bind fun oZ23 => some (.inl (IntKind.wrap .i64 (sZ1.1 + 1), oZ23))) (some (.inr sZ1.2))
def M_slices_insertionSortCmpFunc_intM1 (aaZ0 : Int) (abZ0 : Int) (acZ0 : List Int) (adZ0 : List Int) : Option (List Int × List Int) :=
  (iter (M_slices_insertionSortCmpFunc_intM1L1 aaZ0 abZ0 adZ0) N0 (IntKind.wrap .i64 (aaZ0 + 1), acZ0)).bind fun oZ24 => some (oZ24, adZ0)
def M_slices_insertionSortCmpFunc_intM2L2 (aaZ0 : Nat) (abZ0 : Nat) (acZ0 : Int) (afZ0 : List Int) (sZ3 : Int × List Int) : Option ((Int × List Int) ⊕ (List Int)) :=
  (cond (decide (acZ0 < sZ3.1)) ((grd (0 ≤ sZ3.1 ∧ sZ3.1 < (abZ0 : Int))).bind fun kZ5 => (sZ3.2[(aaZ0 + (Int.toNat sZ3.1))]?).bind fun yZ6 => (grd (0 ≤ (IntKind.wrap .i64 (sZ3.1 - 1)) ∧ (IntKind.wrap .i64 (sZ3.1 - 1)) < (abZ0 : Int))).bind fun kZ7 => (sZ3.2[(aaZ0 + (Int.toNat (IntKind.wrap .i64 (sZ3.1 - 1))))]?).bind fun yZ8 => (M_impl_descending_c1 yZ6 yZ8 afZ0).bind fun rZ9 => some (decide (rZ9 < 0))) (some false) : Option Bool).bind fun oZ10 => cond (oZ10) ((grd (0 ≤ (IntKind.wrap .i64 (sZ3.1 - 1)) ∧ (IntKind.wrap .i64 (sZ3.1 - 1)) < (abZ0 : Int))).bind fun kZ12 => (sZ3.2[(aaZ0 + (Int.toNat (IntKind.wrap .i64 (sZ3.1 - 1))))]?).bind fun yZ13 => (grd (0 ≤ sZ3.1 ∧ sZ3.1 < (abZ0 : Int))).bind fun kZ14 => (sZ3.2[(aaZ0 + (Int.toNat sZ3.1))]?).bind fun yZ15 => bnd (sZ3.2.set (aaZ0 + (Int.toNat sZ3.1)) yZ13) fun lZ16 => (lZ16[(aaZ0 + (Int.toNat (IntKind.wrap .i64 (sZ3.1 - 1))))]?).bind fun yZ18 => bnd (lZ16.set (aaZ0 + (Int.toNat (IntKind.wrap .i64 (sZ3.1 - 1)))) yZ15) fun lZ19 => some (.inl (IntKind.wrap .i64 (sZ3.1 - 1), lZ19))) (some (.inr sZ3.2))
def M_slices_insertionSortCmpFunc_intM2L1 (aaZ0 : Nat) (abZ0 : Nat) (acZ0 : Int) (adZ0 : Int) (afZ0 : List Int) (sZ1 : Int × List Int) : Option ((Int × List Int) ⊕ (List Int)) :=
  cond (decide (sZ1.1 < adZ0)) (((iter (M_slices_insertionSortCmpFunc_intM2L2 aaZ0 abZ0 acZ0 afZ0) N0 (sZ1.1, sZ1.2)).bind fun oZ21 => some oZ21 : Option (List Int)).bind fun oZ23 => some (.inl (IntKind.wrap .i64 (sZ1.1 + 1), oZ23))) (some (.inr sZ1.2))
def M_slices_insertionSortCmpFunc_intM2 (aaZ0 : Nat) (abZ0 : Nat) (acZ0 : Int) (adZ0 : Int) (aeZ0 : List Int) (afZ0 : List Int) : Option (List Int × List Int) :=
  (iter (M_slices_insertionSortCmpFunc_intM2L1 aaZ0 abZ0 acZ0 adZ0 afZ0) N0 (IntKind.wrap .i64 (acZ0 + 1), aeZ0)).bind fun oZ24 => some (oZ24, afZ0)
def M_slices_swapRangeCmpFunc_intM1L1 (aaZ0 : Nat) (abZ0 : Nat) (acZ0 : Int) (adZ0 : Int) (aeZ0 : Int) (sZ1 : Int × List Int) : Option ((Int × List Int) ⊕ (List Int)) :=
  cond (decide (sZ1.1 < aeZ0)) ((grd (0 ≤ (IntKind.wrap .i64 (adZ0 + sZ1.1)) ∧ (IntKind.wrap .i64 (adZ0 + sZ1.1)) < (abZ0 : Int))).bind fun kZ3 => (sZ1.2[(aaZ0 + (Int.toNat (IntKind.wrap .i64 (adZ0 + sZ1.1))))]?).bind fun yZ4 => (grd (0 ≤ (IntKind.wrap .i64 (acZ0 + sZ1.1)) ∧ (IntKind.wrap .i64 (acZ0 + sZ1.1)) < (abZ0 : Int))).bind fun kZ5 => (sZ1.2[(aaZ0 + (Int.toNat (IntKind.wrap .i64 (acZ0 + sZ1.1))))]?).bind fun yZ6 => bnd (sZ1.2.set (aaZ0 + (Int.toNat (IntKind.wrap .i64 (acZ0 + sZ1.1)))) yZ4) fun lZ7 => (lZ7[(aaZ0 + (Int.toNat (IntKind.wrap .i64 (adZ0 + sZ1.1))))]?).bind fun yZ9 => bnd (lZ7.set (aaZ0 + (Int.toNat (IntKind.wrap .i64 (adZ0 + sZ1.1)))) yZ6) fun lZ10 => some (.inl (IntKind.wrap .i64 (sZ1.1 + 1), lZ10))) (some (.inr sZ1.2))
def M_slices_swapRangeCmpFunc_intM1 (aaZ0 : Nat) (abZ0 : Nat) (acZ0 : Int) (adZ0 : Int) (aeZ0 : Int) (afZ0 : List Int) (agZ0 : List Int) : Option (List Int × List Int) :=
  (iter (M_slices_swapRangeCmpFunc_intM1L1 aaZ0 abZ0 acZ0 adZ0 aeZ0) N0 (0, afZ0)).bind fun oZ12 => some (oZ12, agZ0)
def M_slices_rotateCmpFunc_intM1L1 (aaZ0 : Nat) (abZ0 : Nat) (adZ0 : Int) (sZ1 : Int × Int × List Int × List Int) : Option ((Int × Int × List Int × List Int) ⊕ (Int × List Int × List Int)) :=
  cond (sZ1.1 != sZ1.2.1) (cond (decide (sZ1.2.1 < sZ1.1)) ((M_slices_swapRangeCmpFunc_intM1 aaZ0 abZ0 (IntKind.wrap .i64 (adZ0 - sZ1.1)) adZ0 sZ1.2.1 sZ1.2.2.1 sZ1.2.2.2).bind fun rZ4 => some (.inl (IntKind.wrap .i64 (sZ1.1 - sZ1.2.1), sZ1.2.1, rZ4.1, rZ4.2))) ((M_slices_swapRangeCmpFunc_intM1 aaZ0 abZ0 (IntKind.wrap .i64 (adZ0 - sZ1.1)) (IntKind.wrap .i64 ((IntKind.wrap .i64 (adZ0 + sZ1.2.1)) - sZ1.1)) sZ1.1 sZ1.2.2.1 sZ1.2.2.2).bind fun rZ5 => some (.inl (sZ1.1, IntKind.wrap .i64 (sZ1.2.1 - sZ1.1), rZ5.1, rZ5.2)))) (some (.inr (sZ1.1, sZ1.2.2.1, sZ1.2.2.2)))
def M_slices_rotateCmpFunc_intM1 (aaZ0 : Nat) (abZ0 : Nat) (acZ0 : Int) (adZ0 : Int) (aeZ0 : Int) (afZ0 : List Int) (agZ0 : List Int) : Option (List Int × List Int) :=
  (iter (M_slices_rotateCmpFunc_intM1L1 aaZ0 abZ0 adZ0) N0 (IntKind.wrap .i64 (adZ0 - acZ0), IntKind.wrap .i64 (aeZ0 - adZ0), afZ0, agZ0)).bind fun oZ6 => (M_slices_swapRangeCmpFunc_intM1 aaZ0 abZ0 (IntKind.wrap .i64 (adZ0 - oZ6.1)) adZ0 oZ6.1 oZ6.2.1 oZ6.2.2).bind fun rZ7 => some (rZ7.1, rZ7.2)
def M_slices_symMergeCmpFunc_intM1L1 (aaZ0 : Nat) (abZ0 : Nat) (acZ0 : Int) (afZ0 : List Int) (agZ0 : List Int) (sZ2 : Int × Int) : Option ((Int × Int) ⊕ Int) :=
  cond (decide (sZ2.1 < sZ2.2)) ((grd (0 ≤ (IntKind.wrap .i64 (Int.fdiv (IntKind.wrap .u64 (IntKind.wrap .i64 (sZ2.1 + sZ2.2))) (2 ^ (min (Int.toNat 1) (IntKind.bits .u64))))) ∧ (IntKind.wrap .i64 (Int.fdiv (IntKind.wrap .u64 (IntKind.wrap .i64 (sZ2.1 + sZ2.2))) (2 ^ (min (Int.toNat 1) (IntKind.bits .u64))))) < (abZ0 : Int))).bind fun kZ4 => (afZ0[(aaZ0 + (Int.toNat (IntKind.wrap .i64 (Int.fdiv (IntKind.wrap .u64 (IntKind.wrap .i64 (sZ2.1 + sZ2.2))) (2 ^ (min (Int.toNat 1) (IntKind.bits .u64)))))))]?).bind fun yZ5 => (grd (0 ≤ acZ0 ∧ acZ0 < (abZ0 : Int))).bind fun kZ6 => (afZ0[(aaZ0 + (Int.toNat acZ0))]?).bind fun yZ7 => (M_impl_descending_c1 yZ5 yZ7 agZ0).bind fun rZ8 => cond (decide (rZ8 < 0)) (some (.inl (IntKind.wrap .i64 ((IntKind.wrap .i64 (Int.fdiv (IntKind.wrap .u64 (IntKind.wrap .i64 (sZ2.1 + sZ2.2))) (2 ^ (min (Int.toNat 1) (IntKind.bits .u64))))) + 1), sZ2.2))) (some (.inl (sZ2.1, IntKind.wrap .i64 (Int.fdiv (IntKind.wrap .u64 (IntKind.wrap .i64 (sZ2.1 + sZ2.2))) (2 ^ (min (Int.toNat 1) (IntKind.bits .u64)))))))) (some (.inr sZ2.1))
def M_slices_symMergeCmpFunc_intM1L2 (aaZ0 : Nat) (abZ0 : Nat) (oZ10 : Int) (sZ11 : Int × List Int) : Option ((Int × List Int) ⊕ (List Int)) :=
  cond (decide (sZ11.1 < (IntKind.wrap .i64 (oZ10 - 1)))) ((grd (0 ≤ (IntKind.wrap .i64 (sZ11.1 + 1)) ∧ (IntKind.wrap .i64 (sZ11.1 + 1)) < (abZ0 : Int))).bind fun kZ13 => (sZ11.2[(aaZ0 + (Int.toNat (IntKind.wrap .i64 (sZ11.1 + 1))))]?).bind fun yZ14 => (grd (0 ≤ sZ11.1 ∧ sZ11.1 < (abZ0 : Int))).bind fun kZ15 => (sZ11.2[(aaZ0 + (Int.toNat sZ11.1))]?).bind fun yZ16 => bnd (sZ11.2.set (aaZ0 + (Int.toNat sZ11.1)) yZ14) fun lZ17 => (lZ17[(aaZ0 + (Int.toNat (IntKind.wrap .i64 (sZ11.1 + 1))))]?).bind fun yZ19 => bnd (lZ17.set (aaZ0 + (Int.toNat (IntKind.wrap .i64 (sZ11.1 + 1)))) yZ16) fun lZ20 => some (.inl (IntKind.wrap .i64 (sZ11.1 + 1), lZ20))) (some (.inr sZ11.2))
def M_slices_symMergeCmpFunc_intM1L3 (aaZ0 : Nat) (abZ0 : Nat) (adZ0 : Int) (afZ0 : List Int) (agZ0 : List Int) (sZ24 : Int × Int) : Option ((Int × Int) ⊕ Int) :=
  cond (decide (sZ24.1 < sZ24.2)) ((grd (0 ≤ adZ0 ∧ adZ0 < (abZ0 : Int))).bind fun kZ26 => (afZ0[(aaZ0 + (Int.toNat adZ0))]?).bind fun yZ27 => (grd (0 ≤ (IntKind.wrap .i64 (Int.fdiv (IntKind.wrap .u64 (IntKind.wrap .i64 (sZ24.1 + sZ24.2))) (2 ^ (min (Int.toNat 1) (IntKind.bits .u64))))) ∧ (IntKind.wrap .i64 (Int.fdiv (IntKind.wrap .u64 (IntKind.wrap .i64 (sZ24.1 + sZ24.2))) (2 ^ (min (Int.toNat 1) (IntKind.bits .u64))))) < (abZ0 : Int))).bind fun kZ28 => (afZ0[(aaZ0 + (Int.toNat (IntKind.wrap .i64 (Int.fdiv (IntKind.wrap .u64 (IntKind.wrap .i64 (sZ24.1 + sZ24.2))) (2 ^ (min (Int.toNat 1) (IntKind.bits .u64)))))))]?).bind fun yZ29 => (M_impl_descending_c1 yZ27 yZ29 agZ0).bind fun rZ30 => cond (!(decide (rZ30 < 0))) (some (.inl (IntKind.wrap .i64 ((IntKind.wrap .i64 (Int.fdiv (IntKind.wrap .u64 (IntKind.wrap .i64 (sZ24.1 + sZ24.2))) (2 ^ (min (Int.toNat 1) (IntKind.bits .u64))))) + 1), sZ24.2))) (some (.inl (sZ24.1, IntKind.wrap .i64 (Int.fdiv (IntKind.wrap .u64 (IntKind.wrap .i64 (sZ24.1 + sZ24.2))) (2 ^ (min (Int.toNat 1) (IntKind.bits .u64)))))))) (some (.inr sZ24.1))
def M_slices_symMergeCmpFunc_intM1L4 (aaZ0 : Nat) (abZ0 : Nat) (oZ32 : Int) (sZ33 : Int × List Int) : Option ((Int × List Int) ⊕ (List Int)) :=
  cond (decide (oZ32 < sZ33.1)) ((grd (0 ≤ (IntKind.wrap .i64 (sZ33.1 - 1)) ∧ (IntKind.wrap .i64 (sZ33.1 - 1)) < (abZ0 : Int))).bind fun kZ35 => (sZ33.2[(aaZ0 + (Int.toNat (IntKind.wrap .i64 (sZ33.1 - 1))))]?).bind fun yZ36 => (grd (0 ≤ sZ33.1 ∧ sZ33.1 < (abZ0 : Int))).bind fun kZ37 => (sZ33.2[(aaZ0 + (Int.toNat sZ33.1))]?).bind fun yZ38 => bnd (sZ33.2.set (aaZ0 + (Int.toNat sZ33.1)) yZ36) fun lZ39 => (lZ39[(aaZ0 + (Int.toNat (IntKind.wrap .i64 (sZ33.1 - 1))))]?).bind fun yZ41 => bnd (lZ39.set (aaZ0 + (Int.toNat (IntKind.wrap .i64 (sZ33.1 - 1)))) yZ38) fun lZ42 => some (.inl (IntKind.wrap .i64 (sZ33.1 - 1), lZ42))) (some (.inr sZ33.2))
def M_slices_symMergeCmpFunc_intM1L5 (aaZ0 : Nat) (abZ0 : Nat) (acZ0 : Int) (adZ0 : Int) (aeZ0 : Int) (afZ0 : List Int) (agZ0 : List Int) (sZ47 : Int × Int) : Option ((Int × Int) ⊕ Int) :=
  cond (decide (sZ47.1 < sZ47.2)) ((grd (0 ≤ (IntKind.wrap .i64 ((IntKind.wrap .i64 ((IntKind.wrap .i64 ((IntKind.wrap .i64 (Int.fdiv (IntKind.wrap .u64 (IntKind.wrap .i64 (acZ0 + aeZ0))) (2 ^ (min (Int.toNat 1) (IntKind.bits .u64))))) + adZ0)) - 1)) - (IntKind.wrap .i64 (Int.fdiv (IntKind.wrap .u64 (IntKind.wrap .i64 (sZ47.1 + sZ47.2))) (2 ^ (min (Int.toNat 1) (IntKind.bits .u64))))))) ∧ (IntKind.wrap .i64 ((IntKind.wrap .i64 ((IntKind.wrap .i64 ((IntKind.wrap .i64 (Int.fdiv (IntKind.wrap .u64 (IntKind.wrap .i64 (acZ0 + aeZ0))) (2 ^ (min (Int.toNat 1) (IntKind.bits .u64))))) + adZ0)) - 1)) - (IntKind.wrap .i64 (Int.fdiv (IntKind.wrap .u64 (IntKind.wrap .i64 (sZ47.1 + sZ47.2))) (2 ^ (min (Int.toNat 1) (IntKind.bits .u64))))))) < (abZ0 : Int))).bind fun kZ49 => (afZ0[(aaZ0 + (Int.toNat (IntKind.wrap .i64 ((IntKind.wrap .i64 ((IntKind.wrap .i64 ((IntKind.wrap .i64 (Int.fdiv (IntKind.wrap .u64 (IntKind.wrap .i64 (acZ0 + aeZ0))) (2 ^ (min (Int.toNat 1) (IntKind.bits .u64))))) + adZ0)) - 1)) - (IntKind.wrap .i64 (Int.fdiv (IntKind.wrap .u64 (IntKind.wrap .i64 (sZ47.1 + sZ47.2))) (2 ^ (min (Int.toNat 1) (IntKind.bits .u64)))))))))]?).bind fun yZ50 => (grd (0 ≤ (IntKind.wrap .i64 (Int.fdiv (IntKind.wrap .u64 (IntKind.wrap .i64 (sZ47.1 + sZ47.2))) (2 ^ (min (Int.toNat 1) (IntKind.bits .u64))))) ∧ (IntKind.wrap .i64 (Int.fdiv (IntKind.wrap .u64 (IntKind.wrap .i64 (sZ47.1 + sZ47.2))) (2 ^ (min (Int.toNat 1) (IntKind.bits .u64))))) < (abZ0 : Int))).bind fun kZ51 => (afZ0[(aaZ0 + (Int.toNat (IntKind.wrap .i64 (Int.fdiv (IntKind.wrap .u64 (IntKind.wrap .i64 (sZ47.1 + sZ47.2))) (2 ^ (min (Int.toNat 1) (IntKind.bits .u64)))))))]?).bind fun yZ52 => (M_impl_descending_c1 yZ50 yZ52 agZ0).bind fun rZ53 => cond (!(decide (rZ53 < 0))) (some (.inl (IntKind.wrap .i64 ((IntKind.wrap .i64 (Int.fdiv (IntKind.wrap .u64 (IntKind.wrap .i64 (sZ47.1 + sZ47.2))) (2 ^ (min (Int.toNat 1) (IntKind.bits .u64))))) + 1), sZ47.2))) (some (.inl (sZ47.1, IntKind.wrap .i64 (Int.fdiv (IntKind.wrap .u64 (IntKind.wrap .i64 (sZ47.1 + sZ47.2))) (2 ^ (min (Int.toNat 1) (IntKind.bits .u64)))))))) (some (.inr sZ47.1))
def M_slices_symMergeCmpFunc_intM1_B (rcZ0 : Nat → Nat → Int → Int → Int → List Int → List Int → Option (List Int × List Int)) (aaZ0 : Nat) (abZ0 : Nat) (acZ0 : Int) (adZ0 : Int) (aeZ0 : Int) (afZ0 : List Int) (agZ0 : List Int) : Option (List Int × List Int) :=
  cond ((IntKind.wrap .i64 (adZ0 - acZ0)) == 1) ((iter (M_slices_symMergeCmpFunc_intM1L1 aaZ0 abZ0 acZ0 afZ0 agZ0) N0 (adZ0, aeZ0)).bind fun oZ10 => (iter (M_slices_symMergeCmpFunc_intM1L2 aaZ0 abZ0 oZ10) N0 (acZ0, afZ0)).bind fun oZ22 => some (oZ22, agZ0)) (cond ((IntKind.wrap .i64 (aeZ0 - adZ0)) == 1) ((iter (M_slices_symMergeCmpFunc_intM1L3 aaZ0 abZ0 adZ0 afZ0 agZ0) N0 (acZ0, adZ0)).bind fun oZ32 => (iter (M_slices_symMergeCmpFunc_intM1L4 aaZ0 abZ0 oZ32) N0 (adZ0, afZ0)).bind fun oZ44 => some (oZ44, agZ0)) ((cond (decide ((IntKind.wrap .i64 (Int.fdiv (IntKind.wrap .u64 (IntKind.wrap .i64 (acZ0 + aeZ0))) (2 ^ (min (Int.toNat 1) (IntKind.bits .u64))))) < adZ0)) (some (IntKind.wrap .i64 ((IntKind.wrap .i64 ((IntKind.wrap .i64 (Int.fdiv (IntKind.wrap .u64 (IntKind.wrap .i64 (acZ0 + aeZ0))) (2 ^ (min (Int.toNat 1) (IntKind.bits .u64))))) + adZ0)) - aeZ0), IntKind.wrap .i64 (Int.fdiv (IntKind.wrap .u64 (IntKind.wrap .i64 (acZ0 + aeZ0))) (2 ^ (min (Int.toNat 1) (IntKind.bits .u64)))))) (some (acZ0, adZ0)) : Option (Int × Int)).bind fun oZ46 => (iter (M_slices_symMergeCmpFunc_intM1L5 aaZ0 abZ0 acZ0 adZ0 aeZ0 afZ0 agZ0) N0 (oZ46.1, oZ46.2)).bind fun oZ55 => ((cond (decide (oZ55 < adZ0)) (some (decide (adZ0 < (IntKind.wrap .i64 ((IntKind.wrap .i64 ((IntKind.wrap .i64 (Int.fdiv (IntKind.wrap .u64 (IntKind.wrap .i64 (acZ0 + aeZ0))) (2 ^ (min (Int.toNat 1) (IntKind.bits .u64))))) + adZ0)) - oZ55))))) (some false) : Option Bool).bind fun oZ57 => cond (oZ57) ((M_slices_rotateCmpFunc_intM1 aaZ0 abZ0 oZ55 adZ0 (IntKind.wrap .i64 ((IntKind.wrap .i64 ((IntKind.wrap .i64 (Int.fdiv (IntKind.wrap .u64 (IntKind.wrap .i64 (acZ0 + aeZ0))) (2 ^ (min (Int.toNat 1) (IntKind.bits .u64))))) + adZ0)) - oZ55)) afZ0 agZ0).bind fun rZ59 => some (rZ59.1, rZ59.2)) (some (afZ0, agZ0)) : Option (List Int × List Int)).bind fun oZ60 => ((cond (decide (acZ0 < oZ55)) (some (decide (oZ55 < (IntKind.wrap .i64 (Int.fdiv (IntKind.wrap .u64 (IntKind.wrap .i64 (acZ0 + aeZ0))) (2 ^ (min (Int.toNat 1) (IntKind.bits .u64)))))))) (some false) : Option Bool).bind fun oZ62 => cond (oZ62) ((rcZ0 aaZ0 abZ0 acZ0 oZ55 (IntKind.wrap .i64 (Int.fdiv (IntKind.wrap .u64 (IntKind.wrap .i64 (acZ0 + aeZ0))) (2 ^ (min (Int.toNat 1) (IntKind.bits .u64))))) oZ60.1 oZ60.2).bind fun rZ64 => some (rZ64.1, rZ64.2)) (some (oZ60.1, oZ60.2)) : Option (List Int × List Int)).bind fun oZ65 => (cond (decide ((IntKind.wrap .i64 (Int.fdiv (IntKind.wrap .u64 (IntKind.wrap .i64 (acZ0 + aeZ0))) (2 ^ (min (Int.toNat 1) (IntKind.bits .u64))))) < (IntKind.wrap .i64 ((IntKind.wrap .i64 ((IntKind.wrap .i64 (Int.fdiv (IntKind.wrap .u64 (IntKind.wrap .i64 (acZ0 + aeZ0))) (2 ^ (min (Int.toNat 1) (IntKind.bits .u64))))) + adZ0)) - oZ55)))) (some (decide ((IntKind.wrap .i64 ((IntKind.wrap .i64 ((IntKind.wrap .i64 (Int.fdiv (IntKind.wrap .u64 (IntKind.wrap .i64 (acZ0 + aeZ0))) (2 ^ (min (Int.toNat 1) (IntKind.bits .u64))))) + adZ0)) - oZ55)) < aeZ0))) (some false) : Option Bool).bind fun oZ67 => cond (oZ67) ((rcZ0 aaZ0 abZ0 (IntKind.wrap .i64 (Int.fdiv (IntKind.wrap .u64 (IntKind.wrap .i64 (acZ0 + aeZ0))) (2 ^ (min (Int.toNat 1) (IntKind.bits .u64))))) (IntKind.wrap .i64 ((IntKind.wrap .i64 ((IntKind.wrap .i64 (Int.fdiv (IntKind.wrap .u64 (IntKind.wrap .i64 (acZ0 + aeZ0))) (2 ^ (min (Int.toNat 1) (IntKind.bits .u64))))) + adZ0)) - oZ55)) aeZ0 oZ65.1 oZ65.2).bind fun rZ69 => some (rZ69.1, rZ69.2)) (some (oZ65.1, oZ65.2))))
def M_slices_symMergeCmpFunc_intM1 : Nat → Nat → Nat → Int → Int → Int → List Int → List Int → Option (List Int × List Int)
  | 0, _, _, _, _, _, _, _ => none
  | n + 1, aaZ0, abZ0, acZ0, adZ0, aeZ0, afZ0, agZ0 => M_slices_symMergeCmpFunc_intM1_B (M_slices_symMergeCmpFunc_intM1 n) aaZ0 abZ0 acZ0 adZ0 aeZ0 afZ0 agZ0
def M_slices_stableCmpFunc_intM1L1 (aaZ0 : Int) (sZ1 : Nat × Int × Int × List Int × List Int) : Option ((Nat × Int × Int × List Int × List Int) ⊕ (Nat × Int × List Int × List Int)) :=
  cond (decide (sZ1.2.2.1 ≤ aaZ0)) ((M_slices_insertionSortCmpFunc_intM2 0 sZ1.1 sZ1.2.1 sZ1.2.2.1 sZ1.2.2.2.1 sZ1.2.2.2.2).bind fun rZ3 => some (.inl (sZ1.1, sZ1.2.2.1, IntKind.wrap .i64 (sZ1.2.2.1 + 20), rZ3.1, rZ3.2))) (some (.inr (sZ1.1, sZ1.2.1, sZ1.2.2.2.1, sZ1.2.2.2.2)))
def M_slices_stableCmpFunc_intM1L3 (aaZ0 : Int) (oZ4 : Nat × Int × List Int × List Int) (sZ6 : Int × List Int × List Int) (sZ8 : Int × Int × List Int × List Int) : Option ((Int × Int × List Int × List Int) ⊕ (Int × List Int × List Int)) :=
  cond (decide (sZ8.2.1 ≤ aaZ0)) ((M_slices_symMergeCmpFunc_intM1 N0 0 oZ4.1 sZ8.1 (IntKind.wrap .i64 (sZ8.1 + sZ6.1)) sZ8.2.1 sZ8.2.2.1 sZ8.2.2.2).bind fun rZ10 => some (.inl (sZ8.2.1, IntKind.wrap .i64 (sZ8.2.1 + (IntKind.wrap .i64 (2 * sZ6.1))), rZ10.1, rZ10.2))) (some (.inr (sZ8.1, sZ8.2.2.1, sZ8.2.2.2)))
def M_slices_stableCmpFunc_intM1L2 (aaZ0 : Int) (oZ4 : Nat × Int × List Int × List Int) (sZ6 : Int × List Int × List Int) : Option ((Int × List Int × List Int) ⊕ (List Int × List Int)) :=
  cond (decide (sZ6.1 < aaZ0)) ((iter (M_slices_stableCmpFunc_intM1L3 aaZ0 oZ4 sZ6) N0 (0, IntKind.wrap .i64 (2 * sZ6.1), sZ6.2.1, sZ6.2.2)).bind fun oZ11 => cond (decide ((IntKind.wrap .i64 (oZ11.1 + sZ6.1)) < aaZ0)) ((M_slices_symMergeCmpFunc_intM1 N0 0 oZ4.1 oZ11.1 (IntKind.wrap .i64 (oZ11.1 + sZ6.1)) aaZ0 oZ11.2.1 oZ11.2.2).bind fun rZ13 => some (.inl (IntKind.wrap .i64 (sZ6.1 * 2), rZ13.1, rZ13.2))) (some (.inl (IntKind.wrap .i64 (sZ6.1 * 2), oZ11.2.1, oZ11.2.2)))) (some (.inr (sZ6.2.1, sZ6.2.2)))
def M_slices_stableCmpFunc_intM1 (aaZ0 : Int) (abZ0 : List Int) (acZ0 : List Int) : Option (List Int × List Int) :=
  (iter (M_slices_stableCmpFunc_intM1L1 aaZ0) N0 (abZ0.length, 0, 20, abZ0, acZ0)).bind fun oZ4 => (M_slices_insertionSortCmpFunc_intM2 0 oZ4.1 oZ4.2.1 aaZ0 oZ4.2.2.1 oZ4.2.2.2).bind fun rZ5 => (iter (M_slices_stableCmpFunc_intM1L2 aaZ0 oZ4) N0 (20, rZ5.1, rZ5.2)).bind fun oZ14 => some (oZ14.1, oZ14.2)
def M_slices_SortStableFunc_Lint_intM1 (aaZ0 : List Int) (abZ0 : List Int) : Option (List Int × List Int) :=
  (M_slices_stableCmpFunc_intM1 (aaZ0.length : Int) aaZ0 abZ0).bind fun rZ1 => some (rZ1.1, rZ1.2)
def M_impl_packed_c1 (roomZ0 : Int) (p1Z0 : List Int) (p2Z0 : Int) : Option Bool :=
  (geti p1Z0 p2Z0).bind fun yZ1 => some (decide (yZ1 ≤ roomZ0))
def M_impl_packedL1 (ratesZ0 : List Int) (capacityZ0 : Int) (orderZ0 : List Int) (sZ4 : Int × List Int × List Int) : Option ((Int × List Int × List Int) ⊕ (List Int)) :=
  cond (decide (sZ4.1 < (orderZ0.length : Int))) ((geti orderZ0 sZ4.1).bind fun yZ6 => (M_slices_IndexFunc_Lint_int sZ4.2.2 (fun x0 => M_impl_packed_c1 x0 ratesZ0 yZ6)).bind fun rZ7 => (cond (decide (rZ7 < 0)) (bnd ([capacityZ0]) fun lZ9 => (grd ((sZ4.2.2.length + 1) * 8 ≤ 140737488355328)).bind fun uZ12 => bnd (sZ4.2.2 ++ lZ9) fun lZ13 => some ((sZ4.2.2.length : Int), lZ13)) (some (rZ7, sZ4.2.2)) : Option (Int × List Int)).bind fun oZ16 => (grd (0 ≤ oZ16.1 ∧ oZ16.1 < (oZ16.2.length : Int))).bind fun kZ17 => (oZ16.2[(Int.toNat oZ16.1)]?).bind fun yZ18 => (geti ratesZ0 yZ6).bind fun yZ19 => bnd (oZ16.2.set (Int.toNat oZ16.1) (IntKind.wrap .i64 (yZ18 - yZ19))) fun lZ20 => (grd (0 ≤ yZ6 ∧ yZ6 < (sZ4.2.1.length : Int))).bind fun kZ22 => (sZ4.2.1[(Int.toNat yZ6)]?).bind fun yZ23 => bnd (sZ4.2.1.set (Int.toNat yZ6) oZ16.1) fun lZ24 => some (.inl (IntKind.wrap .i64 (sZ4.1 + 1), lZ24, lZ20))) (some (.inr sZ4.2.1))
def M_impl_packed (ratesZ0 : List Int) (capacityZ0 : Int) (orderZ0 : List Int) : Option (List Int) :=
  (grd (0 ≤ (ratesZ0.length : Int) ∧ (ratesZ0.length : Int) ≤ (ratesZ0.length : Int) ∧ (ratesZ0.length : Int) * ((8 : Nat) : Int) ≤ 140737488355328 ∧ (ratesZ0.length : Int) ≤ 9223372036854775807)).bind fun uZ1 => bnd (List.replicate (Int.toNat (ratesZ0.length : Int)) 0) fun lZ2 => (iter (M_impl_packedL1 ratesZ0 capacityZ0 orderZ0) N0 (0, lZ2, [])).bind fun oZ26 => some oZ26
def M_impl_descending (ratesZ0 : List Int) (capacityZ0 : Int) : Option (List Int) :=
  (M_impl_numbered (ratesZ0.length : Int)).bind fun rZ1 => (M_slices_SortStableFunc_Lint_intM1 rZ1 ratesZ0).bind fun rZ2 => bnd (subT rZ2.1 0 rZ1.length) fun lZ3 => (M_impl_packed rZ2.2 capacityZ0 lZ3).bind fun rZ5 => some rZ5
def M_impl_PackDescending (ratesZ0 : List Int) (capacityZ0 : Int) : Option (List Int × Bool) :=
  (M_impl_isPacking ratesZ0 capacityZ0 12).bind fun rZ1 => cond (!rZ1) (some (([]), false)) ((M_impl_descending ratesZ0 capacityZ0).bind fun rZ3 => some (rZ3, true))
def M_laws_eqIntSL1 (aZ0 : List Int) (bZ0 : List Int) (sZ2 : Int) : Option (Int ⊕ (Unit ⊕ Bool)) :=
  cond (decide (sZ2 < (aZ0.length : Int))) ((geti aZ0 sZ2).bind fun yZ4 => (geti bZ0 sZ2).bind fun yZ5 => cond (yZ4 != yZ5) (some (.inr (.inr false))) (some (.inl (IntKind.wrap .i64 (sZ2 + 1))))) (some (.inr (.inl ())))
def M_laws_eqIntS (aZ0 : List Int) (bZ0 : List Int) : Option Bool :=
  cond ((aZ0.length : Int) != (bZ0.length : Int)) (some false) ((iter (M_laws_eqIntSL1 aZ0 bZ0) N0 0).bind fun oZ7 => (match oZ7 with | .inl vZ8 => some true | .inr xZ9 => some xZ9))
def M_laws_markIntSM1L1 (sZ1 : Int × Int × List Int) : Option ((Int × Int × List Int) ⊕ (Int × List Int)) :=
  cond (decide (sZ1.2.1 < (sZ1.2.2.length : Int))) ((grd (0 ≤ sZ1.2.1 ∧ sZ1.2.1 < (sZ1.2.2.length : Int))).bind fun kZ3 => (sZ1.2.2[(Int.toNat sZ1.2.1)]?).bind fun yZ4 => bnd (sZ1.2.2.set (Int.toNat sZ1.2.1) sZ1.1) fun lZ5 => some (.inl (IntKind.wrap .i64 (sZ1.1 + 1), IntKind.wrap .i64 (sZ1.2.1 + 1), lZ5))) (some (.inr (sZ1.1, sZ1.2.2)))
def M_laws_markIntSM1 (aaZ0 : Int) (abZ0 : List Int) : Option (Int × List Int) :=
  (iter (M_laws_markIntSM1L1) N0 (aaZ0, 0, abZ0)).bind fun oZ7 => some (oZ7.1, oZ7.2)
def M_laws_heldIntSL1 (aZ0 : List Int) (sZ1 : Int × Int) : Option ((Int × Int) ⊕ (Int ⊕ Int)) :=
  cond (decide (sZ1.2 < (aZ0.length : Int))) ((geti aZ0 sZ1.2).bind fun yZ3 => cond (yZ3 != sZ1.1) (some (.inr (.inr (-1)))) (some (.inl (IntKind.wrap .i64 (sZ1.1 + 1), IntKind.wrap .i64 (sZ1.2 + 1))))) (some (.inr (.inl sZ1.1)))
def M_laws_heldIntS (aZ0 : List Int) (kZ0 : Int) : Option Int :=
  (iter (M_laws_heldIntSL1 aZ0) N0 (kZ0, 0)).bind fun oZ5 => (match oZ5 with | .inl vZ6 => some vZ6 | .inr xZ7 => some xZ7)
def M_laws_FnExactPackDescending (aRatesZ0 : List Int) (aCapacityZ0 : Int) : Option Bool :=
  cond (decide (1048576 < (aRatesZ0.length : Int))) (some true) ((M_laws_toIntS aRatesZ0).bind fun rZ2 => (M_spec_PackDescending rZ2 aCapacityZ0).bind fun rZ3 => (M_laws_toIntS aRatesZ0).bind fun rZ4 => (M_impl_PackDescending rZ4 aCapacityZ0).bind fun rZ5 => ((M_laws_eqIntS rZ5.1 rZ3.1).bind fun rZ6 => cond (!rZ6) (some true) (some (!(rZ5.2 == rZ3.2))) : Option Bool).bind fun oZ8 => cond (oZ8) (some false) ((M_laws_toIntS aRatesZ0).bind fun rZ10 => (M_laws_eqIntS rZ4 rZ10).bind fun rZ11 => cond (!rZ11) (some false) ((M_laws_markIntSM1 1 rZ4).bind fun rZ13 => (cond (decide (rZ13.1 < 0)) (some true) ((M_laws_eqIntS rZ5.1 rZ3.1).bind fun rZ15 => cond (!rZ15) (some true) (some (!(rZ5.2 == rZ3.2)))) : Option Bool).bind fun oZ17 => cond (oZ17) (some false) ((M_laws_markIntSM1 1 rZ5.1).bind fun rZ19 => bnd (subT rZ19.2 0 rZ5.1.length) fun lZ20 => (M_laws_heldIntS lZ20 1).bind fun rZ22 => cond (decide (rZ22 < 0)) (some false) (cond (rZ22 != rZ19.1) (some false) ((M_laws_toIntS aRatesZ0).bind fun rZ25 => (M_impl_PackDescending rZ25 aCapacityZ0).bind fun rZ26 => ((M_laws_eqIntS rZ26.1 rZ3.1).bind fun rZ27 => cond (!rZ27) (some true) (some (!(rZ26.2 == rZ3.2))) : Option Bool).bind fun oZ29 => cond (oZ29) (some false) ((M_laws_heldIntS lZ20 1).bind fun rZ31 => cond (decide (rZ31 < 0)) (some false) (cond (rZ31 != rZ19.1) (some false) (some true)))))))))
end Vs

namespace Vs
open Go Go.Proofs
theorem hmix : Try.prog.follows .mixedOrders = true := Try.checked.mixed
def A20L1 : ACode := (.seq (.seq (.reg [⟨(some 8), .mv (.t 4), none⟩,
    ⟨(some 9), .mv (.t 0), none⟩,
    ⟨(some 10), .len (.t 9), none⟩,
    ⟨(some 11), .bin .lss (.t 8) (.t 10), none⟩] []) (.cond (.t 11) .skip (.exit 0))) (.seq (.blk 1 (.reg [⟨(some 14), .mv (.t 3), none⟩,
    ⟨(some 15), .mv (.t 4), none⟩,
    ⟨(some 16), .mv (.t 0), none⟩,
    ⟨(some 17), .mv (.t 4), none⟩,
    ⟨(some 18), .idx 1 (.t 16) (.t 17), none⟩,
    ⟨(some 19), .load 1 false (.t 18), none⟩,
    ⟨(some 20), .idx 1 (.t 14) (.t 15), none⟩,
    ⟨none, .store 1 (.t 20) (.t 19), none⟩] [])) (.reg [⟨(some 12), .mv (.t 4), none⟩,
    ⟨(some 13), .bin .add (.t 12) (.c (.i 1)), none⟩,
    ⟨(some 4), .mv (.t 13), none⟩] [])))
def A20R2 : ACode := (.seq (.reg [⟨(some 21), .mv (.t 3), none⟩,
    ⟨(some 2), .mv (.t 21), none⟩] [2]) .ret)
def A20 : ACode := (.seq (.reg [⟨(some 2), .mv (.c (.lst .u 1 [])), none⟩] [2]) (.seq (.reg [⟨(some 5), .mv (.t 0), none⟩,
    ⟨(some 6), .len (.t 5), none⟩,
    ⟨(some 7), .mks 1 (.i 0) 8 (.t 6) (.t 6), none⟩,
    ⟨(some 3), .mv (.t 7), none⟩] [3]) (.seqa (.reg [⟨(some 4), .mv (.c (.i 0)), none⟩] []) (.blk 0 (.loop A20L1)) [3] [3] A20R2)))
def V20 : List RV := [.t 2]
theorem m20 : mtcF Try.prog 20 1 A20 V20 = true := by kernel_rfl
def A67 : ACode := (.seq (.reg [⟨(some 6), .mv (.c (.b false)), none⟩] []) (.seq (.reg [⟨(some 7), .mv (.t 0), none⟩,
    ⟨(some 8), .mv (.t 1), none⟩,
    ⟨(some 9), .bin .geq (.t 7) (.t 8), none⟩,
    ⟨(some 10), .mv (.t 9), none⟩,
    ⟨(some 11), .mv (.t 0), (some (10, true))⟩,
    ⟨(some 12), .mv (.t 2), (some (10, true))⟩,
    ⟨(some 13), .bin .leq (.t 11) (.t 12), (some (10, true))⟩,
    ⟨(some 14), .pick (.t 10) (.t 13) (.c (.b false)), none⟩,
    ⟨(some 6), .mv (.t 14), none⟩] []) .ret))
def V67 : List RV := [.t 6]
theorem m67 : mtcF Try.prog 67 3 A67 V67 = true := by kernel_rfl
def A60R1 : ACode := (.cond (.t 13) .skip (.exit 0))
def A60L2 : ACode := (.seq (.seqr (.reg [⟨(some 6), .mv (.t 5), none⟩,
    ⟨(some 7), .mv (.t 0), none⟩,
    ⟨(some 8), .len (.t 7), none⟩,
    ⟨(some 9), .bin .lss (.t 6) (.t 8), none⟩,
    ⟨(some 10), .mv (.t 9), none⟩,
    ⟨(some 11), .mv (.t 5), (some (10, true))⟩,
    ⟨(some 12), .bin .leq (.t 11) (.c (.i 12)), (some (10, true))⟩,
    ⟨(some 13), .pick (.t 10) (.t 12) (.c (.b false)), none⟩] []) [0, 1, 5, 13] [] A60R1) (.seq (.blk 1 (.seq (.reg [⟨(some 16), .mv (.t 0), none⟩,
    ⟨(some 17), .mv (.t 5), none⟩,
    ⟨(some 18), .idx 1 (.t 16) (.t 17), none⟩,
    ⟨(some 19), .load 1 false (.t 18), none⟩,
    ⟨(some 20), .mv (.t 1), none⟩,
    ⟨(some 21), .call 67 [(.t 19), (.c (.i 1)), (.t 20)], none⟩,
    ⟨(some 22), .un .not (.t 21), none⟩] []) (.cond (.t 22) (.seq (.reg [⟨(some 4), .mv (.c (.b false)), none⟩] []) .ret) .skip))) (.reg [⟨(some 14), .mv (.t 5), none⟩,
    ⟨(some 15), .bin .add (.t 14) (.c (.i 1)), none⟩,
    ⟨(some 5), .mv (.t 15), none⟩] [])))
def A60R3 : ACode := (.seq (.reg [⟨(some 23), .mv (.t 0), none⟩,
    ⟨(some 24), .len (.t 23), none⟩,
    ⟨(some 25), .bin .leq (.t 24) (.c (.i 12)), none⟩,
    ⟨(some 26), .mv (.t 25), none⟩,
    ⟨(some 27), .mv (.t 1), (some (26, true))⟩,
    ⟨(some 28), .call 67 [(.t 27), (.c (.i 1)), (.c (.i 10000))], (some (26, true))⟩,
    ⟨(some 29), .pick (.t 26) (.t 28) (.c (.b false)), none⟩,
    ⟨(some 4), .mv (.t 29), none⟩] []) .ret)
def A60 : ACode := (.seq (.reg [⟨(some 4), .mv (.c (.b false)), none⟩] []) (.seqa (.reg [⟨(some 5), .mv (.c (.i 0)), none⟩] []) (.blk 0 (.loop A60L2)) [0, 1] [] A60R3))
def V60 : List RV := [.t 4]
theorem m60 : mtcF Try.prog 60 2 A60 V60 = true := by kernel_rfl
def A62L1 : ACode := (.seq (.seq (.drw [⟨(some 17), .mv (.t 1), none⟩,
    ⟨(some 18), .mv (.t 17), none⟩,
    ⟨(some 19), .mv (.t 7), (some (18, true))⟩,
    ⟨(some 20), .bin .gtr (.t 19) (.c (.i 0)), (some (18, true))⟩,
    ⟨(some 21), .pick (.t 18) (.t 20) (.c (.b false)), none⟩,
    ⟨(some 22), .mv (.t 21), none⟩,
    ⟨(some 23), .mv (.t 0), (some (22, true))⟩,
    ⟨(some 24), .mv (.t 5), (some (22, true))⟩,
    ⟨(some 25), .mv (.t 7), (some (22, true))⟩,
    ⟨(some 26), .bin .sub (.t 25) (.c (.i 1)), (some (22, true))⟩,
    ⟨(some 27), .idx 1 (.t 24) (.t 26), (some (22, true))⟩,
    ⟨(some 28), .load 1 false (.t 27), (some (22, true))⟩,
    ⟨(some 29), .idx 1 (.t 23) (.t 28), (some (22, true))⟩,
    ⟨(some 30), .load 1 false (.t 29), (some (22, true))⟩,
    ⟨(some 31), .mv (.t 0), (some (22, true))⟩,
    ⟨(some 32), .mv (.t 6), (some (22, true))⟩,
    ⟨(some 33), .idx 1 (.t 31) (.t 32), (some (22, true))⟩,
    ⟨(some 34), .load 1 false (.t 33), (some (22, true))⟩,
    ⟨(some 35), .bin .lss (.t 30) (.t 34), (some (22, true))⟩,
    ⟨(some 36), .pick (.t 22) (.t 35) (.c (.b false)), none⟩] []) (.cond (.t 36) .skip (.exit 2))) (.blk 3 (.reg [⟨(some 37), .mv (.t 7), none⟩,
    ⟨(some 38), .bin .sub (.t 37) (.c (.i 1)), none⟩,
    ⟨(some 7), .mv (.t 38), none⟩] [])))
def A62R2 : ACode := (.drw [⟨(some 39), .bsl 1 true [], none⟩,
    ⟨(some 40), .mv (.t 5), none⟩,
    ⟨(some 41), .mv (.t 7), none⟩,
    ⟨(some 42), .slc 1 (.t 40) none (some (.t 41)) none, none⟩,
    ⟨(some 43), .app 1 8 false (.t 39) (.t 42), none⟩,
    ⟨(some 44), .mv (.t 6), none⟩,
    ⟨(some 45), .bsl 1 true [(.t 44)], none⟩,
    ⟨(some 46), .app 1 8 true (.t 43) (.t 45), none⟩,
    ⟨(some 47), .mv (.t 5), none⟩,
    ⟨(some 48), .mv (.t 7), none⟩,
    ⟨(some 49), .slc 1 (.t 47) (some (.t 48)) none none, none⟩,
    ⟨(some 50), .app 1 8 false (.t 46) (.t 49), none⟩,
    ⟨(some 5), .mv (.t 50), none⟩] [5])
def A62L3 : ACode := (.seq (.seq (.reg [⟨(some 9), .mv (.t 6), none⟩,
    ⟨(some 10), .mv (.t 0), none⟩,
    ⟨(some 11), .len (.t 10), none⟩,
    ⟨(some 12), .bin .lss (.t 9) (.t 11), none⟩] []) (.cond (.t 12) .skip (.exit 0))) (.seq (.blk 1 (.seq (.reg [⟨(some 15), .mv (.t 5), none⟩,
    ⟨(some 16), .len (.t 15), none⟩,
    ⟨(some 7), .mv (.t 16), none⟩] []) (.seqr (.blk 2 (.loop A62L1)) [0, 1, 5, 6, 7] [5] A62R2))) (.reg [⟨(some 13), .mv (.t 6), none⟩,
    ⟨(some 14), .bin .add (.t 13) (.c (.i 1)), none⟩,
    ⟨(some 6), .mv (.t 14), none⟩] [])))
def A62R4 : ACode := (.seq (.reg [⟨(some 51), .mv (.t 5), none⟩,
    ⟨(some 4), .mv (.t 51), none⟩] [4]) .ret)
def A62 : ACode := (.seq (.reg [⟨(some 4), .mv (.c (.lst .u 1 [])), none⟩] [4]) (.seq (.reg [⟨(some 8), .bsl 1 false [], none⟩,
    ⟨(some 5), .mv (.t 8), none⟩] [5]) (.seqa (.reg [⟨(some 6), .mv (.c (.i 0)), none⟩] []) (.blk 0 (.loop A62L3)) [5] [5] A62R4)))
def V62 : List RV := [.t 4]
theorem m62 : mtcF Try.prog 62 2 A62 V62 = true := by kernel_rfl
def A61L1 : ACode := (.seq (.seq (.reg [⟨(some 30), .mv (.t 12), none⟩,
    ⟨(some 31), .mv (.t 9), none⟩,
    ⟨(some 32), .len (.t 31), none⟩,
    ⟨(some 33), .bin .lss (.t 30) (.t 32), none⟩,
    ⟨(some 34), .mv (.t 33), none⟩,
    ⟨(some 35), .mv (.t 9), (some (34, true))⟩,
    ⟨(some 36), .mv (.t 12), (some (34, true))⟩,
    ⟨(some 37), .idx 1 (.t 35) (.t 36), (some (34, true))⟩,
    ⟨(some 38), .load 1 false (.t 37), (some (34, true))⟩,
    ⟨(some 39), .mv (.t 11), (some (34, true))⟩,
    ⟨(some 40), .bin .lss (.t 38) (.t 39), (some (34, true))⟩,
    ⟨(some 41), .pick (.t 34) (.t 40) (.c (.b false)), none⟩] []) (.cond (.t 41) .skip (.exit 2))) (.blk 3 (.reg [⟨(some 42), .mv (.t 12), none⟩,
    ⟨(some 43), .bin .add (.t 42) (.c (.i 1)), none⟩,
    ⟨(some 12), .mv (.t 43), none⟩] [])))
def A61R3 : ACode := (.seq (.reg [⟨(some 52), .mv (.t 9), none⟩,
    ⟨(some 53), .mv (.t 12), none⟩,
    ⟨(some 54), .mv (.t 9), none⟩,
    ⟨(some 55), .mv (.t 12), none⟩,
    ⟨(some 56), .idx 1 (.t 54) (.t 55), none⟩,
    ⟨(some 57), .load 1 false (.t 56), none⟩,
    ⟨(some 58), .mv (.t 11), none⟩,
    ⟨(some 59), .bin .sub (.t 57) (.t 58), none⟩,
    ⟨(some 60), .idx 1 (.t 52) (.t 53), none⟩,
    ⟨none, .store 1 (.t 60) (.t 59), none⟩] []) (.reg [⟨(some 61), .mv (.t 8), none⟩,
    ⟨(some 62), .mv (.t 1), none⟩,
    ⟨(some 63), .mv (.t 10), none⟩,
    ⟨(some 64), .idx 1 (.t 62) (.t 63), none⟩,
    ⟨(some 65), .load 1 false (.t 64), none⟩,
    ⟨(some 66), .mv (.t 12), none⟩,
    ⟨(some 67), .idx 1 (.t 61) (.t 65), none⟩,
    ⟨none, .store 1 (.t 67) (.t 66), none⟩] []))
def A61R2 : ACode := (.seqr (.seq (.reg [⟨(some 44), .mv (.t 12), none⟩,
    ⟨(some 45), .mv (.t 9), none⟩,
    ⟨(some 46), .len (.t 45), none⟩,
    ⟨(some 47), .bin .eql (.t 44) (.t 46), none⟩] []) (.cond (.t 47) (.reg [⟨(some 48), .mv (.t 9), none⟩,
    ⟨(some 49), .mv (.t 2), none⟩,
    ⟨(some 50), .bsl 1 false [(.t 49)], none⟩,
    ⟨(some 51), .app 1 8 true (.t 48) (.t 50), none⟩,
    ⟨(some 9), .mv (.t 51), none⟩] [9]) .skip)) [0, 1, 2, 8, 9, 10, 11, 12] [8, 9] A61R3)
def A61L4 : ACode := (.seq (.seq (.reg [⟨(some 17), .mv (.t 10), none⟩,
    ⟨(some 18), .mv (.t 1), none⟩,
    ⟨(some 19), .len (.t 18), none⟩,
    ⟨(some 20), .bin .lss (.t 17) (.t 19), none⟩] []) (.cond (.t 20) .skip (.exit 0))) (.seq (.blk 1 (.seq (.reg [⟨(some 23), .mv (.t 0), none⟩,
    ⟨(some 24), .mv (.t 1), none⟩,
    ⟨(some 25), .mv (.t 10), none⟩,
    ⟨(some 26), .idx 1 (.t 24) (.t 25), none⟩,
    ⟨(some 27), .load 1 false (.t 26), none⟩,
    ⟨(some 28), .idx 1 (.t 23) (.t 27), none⟩,
    ⟨(some 29), .load 1 false (.t 28), none⟩,
    ⟨(some 11), .mv (.t 29), none⟩] []) (.seq (.reg [⟨(some 12), .mv (.c (.i 0)), none⟩] []) (.seqr (.blk 2 (.loop A61L1)) [0, 1, 2, 8, 9, 10, 11, 12] [8, 9] A61R2)))) (.reg [⟨(some 21), .mv (.t 10), none⟩,
    ⟨(some 22), .bin .add (.t 21) (.c (.i 1)), none⟩,
    ⟨(some 10), .mv (.t 22), none⟩] [])))
def A61R5 : ACode := (.seq (.reg [⟨(some 68), .mv (.t 8), none⟩,
    ⟨(some 69), .mv (.t 9), none⟩,
    ⟨(some 70), .len (.t 69), none⟩,
    ⟨(some 6), .mv (.t 68), none⟩,
    ⟨(some 7), .mv (.t 70), none⟩] [6]) .ret)
def A61 : ACode := (.seq (.reg [⟨(some 6), .mv (.c (.lst .u 1 [])), none⟩,
    ⟨(some 7), .mv (.c (.i 0)), none⟩] [6]) (.seq (.reg [⟨(some 13), .mv (.t 0), none⟩,
    ⟨(some 14), .len (.t 13), none⟩,
    ⟨(some 15), .mks 1 (.i 0) 8 (.t 14) (.t 14), none⟩,
    ⟨(some 8), .mv (.t 15), none⟩] [8]) (.seq (.reg [⟨(some 16), .bsl 1 false [], none⟩,
    ⟨(some 9), .mv (.t 16), none⟩] [9]) (.seqa (.reg [⟨(some 10), .mv (.c (.i 0)), none⟩] []) (.blk 0 (.loop A61L4)) [8, 9] [8, 9] A61R5))))
def V61 : List RV := [.t 6, .t 7]
theorem m61 : mtcF Try.prog 61 3 A61 V61 = true := by kernel_rfl
def A34 : ACode := (.seq (.reg [⟨(some 4), .mv (.c (.lst .u 1 [])), none⟩,
    ⟨(some 5), .mv (.c (.b false)), none⟩] [4]) (.seq (.seq (.reg [⟨(some 8), .mv (.t 0), none⟩,
    ⟨(some 9), .mv (.t 1), none⟩,
    ⟨(some 10), .call 60 [(.t 8), (.t 9)], none⟩,
    ⟨(some 11), .un .not (.t 10), none⟩] []) (.cond (.t 11) (.seq (.reg [⟨(some 12), .bsl 1 false [], none⟩,
    ⟨(some 4), .mv (.t 12), none⟩,
    ⟨(some 5), .mv (.c (.b false)), none⟩] [4]) .ret) .skip)) (.seq (.reg [⟨(some 14), .mv (.t 0), none⟩,
    ⟨(some 15), .mv (.t 0), none⟩,
    ⟨(some 16), .call 62 [(.t 15), (.c (.b true))], none⟩,
    ⟨(some 17), .mv (.t 1), none⟩,
    ⟨(some 18), .call 61 [(.t 14), (.t 16), (.t 17)], none⟩,
    ⟨(some 13), .mv (.t 18), none⟩,
    ⟨(some 19), .ext (.t 13) 0, none⟩,
    ⟨(some 20), .ext (.t 13) 1, none⟩,
    ⟨(some 6), .mv (.t 19), none⟩,
    ⟨(some 7), .mv (.t 20), none⟩] [6]) (.seq (.reg [⟨(some 21), .mv (.t 6), none⟩,
    ⟨(some 4), .mv (.t 21), none⟩,
    ⟨(some 5), .mv (.c (.b true)), none⟩] [4]) .ret))))
def V34 : List RV := [.t 4, .t 5]
theorem m34 : mtcF Try.prog 34 2 A34 V34 = true := by kernel_rfl
def A55 : ACode := (.seq (.reg [⟨(some 6), .mv (.c (.b false)), none⟩] []) (.seq (.reg [⟨(some 7), .mv (.t 1), none⟩,
    ⟨(some 8), .mv (.t 0), none⟩,
    ⟨(some 9), .bin .leq (.t 7) (.t 8), none⟩,
    ⟨(some 10), .mv (.t 9), none⟩,
    ⟨(some 11), .mv (.t 0), (some (10, true))⟩,
    ⟨(some 12), .mv (.t 2), (some (10, true))⟩,
    ⟨(some 13), .bin .leq (.t 11) (.t 12), (some (10, true))⟩,
    ⟨(some 14), .pick (.t 10) (.t 13) (.c (.b false)), none⟩,
    ⟨(some 6), .mv (.t 14), none⟩] []) .ret))
def V55 : List RV := [.t 6]
theorem m55 : mtcF Try.prog 55 3 A55 V55 = true := by kernel_rfl
def A98L1 : ACode := (.seq (.reg [⟨(some 9), .bin .lss (.t 8) (.t 7), none⟩] []) (.seq (.cond (.t 9) .skip (.exit 0)) (.seq (.blk 1 (.seq (.reg [⟨(some 10), .mv (.t 8), none⟩,
    ⟨(some 5), .mv (.t 10), none⟩] []) (.seq (.reg [⟨(some 11), .mv (.t 1), none⟩,
    ⟨(some 12), .mv (.t 0), none⟩,
    ⟨(some 13), .mv (.t 5), none⟩,
    ⟨(some 14), .idx 1 (.t 12) (.t 13), none⟩,
    ⟨(some 15), .load 1 false (.t 14), none⟩,
    ⟨(some 16), .dyn (.t 11) [(.t 15)], none⟩] []) (.cond (.t 16) (.seq (.reg [⟨(some 17), .mv (.t 5), none⟩,
    ⟨(some 4), .mv (.t 17), none⟩] []) .ret) .skip)))) (.reg [⟨(some 18), .bin .add (.t 8) (.c (.i 1)), none⟩,
    ⟨(some 8), .mv (.t 18), none⟩] []))))
def A98R2 : ACode := (.seq (.reg [⟨(some 4), .mv (.c (.i (-1))), none⟩] []) .ret)
def A98 : ACode := (.seq (.reg [⟨(some 4), .mv (.c (.i 0)), none⟩] []) (.seqa (.reg [⟨(some 6), .mv (.t 0), none⟩,
    ⟨(some 7), .len (.t 6), none⟩,
    ⟨(some 8), .mv (.c (.i 0)), none⟩] []) (.blk 0 (.loop A98L1)) [] [] A98R2))
def V98 : List RV := [.t 4]
theorem m98 : mtcF Try.prog 98 2 A98 V98 = true := by kernel_rfl
def A71 : ACode := (.seq (.reg [⟨(some 4), .mv (.c (.b false)), none⟩] []) (.seq (.reg [⟨(some 5), .mv (.t 0), none⟩,
    ⟨(some 6), .mv (.t 1), none⟩,
    ⟨(some 7), .call 98 [(.t 5), (.t 6)], none⟩,
    ⟨(some 8), .bin .geq (.t 7) (.c (.i 0)), none⟩,
    ⟨(some 4), .mv (.t 8), none⟩] []) .ret))
def V71 : List RV := [.t 4]
theorem m71 : mtcF Try.prog 71 2 A71 V71 = true := by kernel_rfl
def A97 : ACode := (.seq (.reg [⟨(some 3), .mv (.c (.b false)), none⟩] []) (.seq (.reg [⟨(some 4), .mv (.t 0), none⟩,
    ⟨(some 5), .load 1 false (.t 1), none⟩,
    ⟨(some 6), .call 55 [(.t 4), (.c (.i 1)), (.t 5)], none⟩,
    ⟨(some 7), .un .not (.t 6), none⟩,
    ⟨(some 3), .mv (.t 7), none⟩] []) .ret))
def V97 : List RV := [.t 3]
theorem m97 : mtcF Try.prog 97 2 A97 V97 = true := by kernel_rfl
def A63 : ACode := (.seq (.reg [⟨(some 4), .box 1 (.t 1), none⟩,
    ⟨(some 6), .mv (.c (.b false)), none⟩] []) (.seq (.reg [⟨(some 7), .load 1 false (.t 4), none⟩,
    ⟨(some 8), .call 55 [(.t 7), (.c (.i 1)), (.c (.i 10000))], none⟩,
    ⟨(some 9), .mv (.t 8), none⟩,
    ⟨(some 10), .mv (.t 0), (some (9, true))⟩,
    ⟨(some 11), .len (.t 10), (some (9, true))⟩,
    ⟨(some 12), .mv (.t 2), (some (9, true))⟩,
    ⟨(some 13), .bin .leq (.t 11) (.t 12), (some (9, true))⟩,
    ⟨(some 14), .pick (.t 9) (.t 13) (.c (.b false)), none⟩,
    ⟨(some 15), .mv (.t 14), none⟩,
    ⟨(some 16), .mv (.t 0), (some (15, true))⟩,
    ⟨(some 17), .mkf 97 [(.t 4)], (some (15, true))⟩,
    ⟨(some 18), .call 71 [(.t 16), (.t 17)], (some (15, true))⟩,
    ⟨(some 19), .un .not (.t 18), (some (15, true))⟩,
    ⟨(some 20), .pick (.t 15) (.t 19) (.c (.b false)), none⟩,
    ⟨(some 6), .mv (.t 20), none⟩] []) .ret))
def V63 : List RV := [.t 6]
theorem m63 : mtcF Try.prog 63 3 A63 V63 = true := by kernel_rfl
def A65L1 : ACode := (.seq (.reg [⟨(some 8), .bin .lss (.t 7) (.t 6), none⟩] []) (.seq (.cond (.t 8) .skip (.exit 0)) (.seq (.blk 1 (.seq (.reg [⟨(some 9), .mv (.t 7), none⟩,
    ⟨(some 4), .mv (.t 9), none⟩] []) (.reg [⟨(some 10), .mv (.t 3), none⟩,
    ⟨(some 11), .mv (.t 4), none⟩,
    ⟨(some 12), .bsl 1 false [(.t 11)], none⟩,
    ⟨(some 13), .app 1 8 true (.t 10) (.t 12), none⟩,
    ⟨(some 3), .mv (.t 13), none⟩] [3]))) (.reg [⟨(some 14), .bin .add (.t 7) (.c (.i 1)), none⟩,
    ⟨(some 7), .mv (.t 14), none⟩] []))))
def A65R2 : ACode := (.seq (.reg [⟨(some 15), .mv (.t 3), none⟩,
    ⟨(some 2), .mv (.t 15), none⟩] [2]) .ret)
def A65 : ACode := (.seq (.reg [⟨(some 2), .mv (.c (.lst .u 1 [])), none⟩] [2]) (.seq (.reg [⟨(some 5), .bsl 1 false [], none⟩,
    ⟨(some 3), .mv (.t 5), none⟩] [3]) (.seqa (.reg [⟨(some 6), .mv (.t 0), none⟩,
    ⟨(some 7), .mv (.c (.i 0)), none⟩] []) (.blk 0 (.loop A65L1)) [3] [3] A65R2)))
def V65 : List RV := [.t 2]
theorem m65 : mtcF Try.prog 65 1 A65 V65 = true := by kernel_rfl
def A110 : ACode := (.seq (.reg [⟨(some 2), .mv (.c (.b false)), none⟩] []) (.seq (.reg [⟨(some 3), .mv (.t 0), none⟩,
    ⟨(some 4), .mv (.t 0), none⟩,
    ⟨(some 5), .bin .neq (.t 3) (.t 4), none⟩,
    ⟨(some 2), .mv (.t 5), none⟩] []) .ret))
def V110 : List RV := [.t 2]
theorem m110 : mtcF Try.prog 110 1 A110 V110 = true := by kernel_rfl
def A92 : ACode := (.seq (.reg [⟨(some 4), .mv (.c (.i 0)), none⟩] []) (.seq (.reg [⟨(some 7), .mv (.t 0), none⟩,
    ⟨(some 8), .call 110 [(.t 7)], none⟩,
    ⟨(some 5), .mv (.t 8), none⟩] []) (.seq (.reg [⟨(some 9), .mv (.t 1), none⟩,
    ⟨(some 10), .call 110 [(.t 9)], none⟩,
    ⟨(some 6), .mv (.t 10), none⟩] []) (.seq (.seq (.reg [⟨(some 11), .mv (.t 5), none⟩] []) (.cond (.t 11) (.seq (.seq (.reg [⟨(some 12), .mv (.t 6), none⟩] []) (.cond (.t 12) (.seq (.reg [⟨(some 4), .mv (.c (.i 0)), none⟩] []) .ret) .skip)) (.seq (.reg [⟨(some 4), .mv (.c (.i (-1))), none⟩] []) .ret)) .skip)) (.seq (.seq (.reg [⟨(some 13), .mv (.t 6), none⟩] []) (.cond (.t 13) (.seq (.reg [⟨(some 4), .mv (.c (.i 1)), none⟩] []) .ret) .skip)) (.seq (.seq (.reg [⟨(some 14), .mv (.t 0), none⟩,
    ⟨(some 15), .mv (.t 1), none⟩,
    ⟨(some 16), .bin .lss (.t 14) (.t 15), none⟩] []) (.cond (.t 16) (.seq (.reg [⟨(some 4), .mv (.c (.i (-1))), none⟩] []) .ret) .skip)) (.seq (.seq (.reg [⟨(some 17), .mv (.t 0), none⟩,
    ⟨(some 18), .mv (.t 1), none⟩,
    ⟨(some 19), .bin .gtr (.t 17) (.t 18), none⟩] []) (.cond (.t 19) (.seq (.reg [⟨(some 4), .mv (.c (.i 1)), none⟩] []) .ret) .skip)) (.seq (.reg [⟨(some 4), .mv (.c (.i 0)), none⟩] []) .ret))))))))
def V92 : List RV := [.t 4]
theorem m92 : mtcF Try.prog 92 2 A92 V92 = true := by kernel_rfl
def A105 : ACode := (.seq (.reg [⟨(some 5), .mv (.c (.i 0)), none⟩] []) (.seq (.drw [⟨(some 6), .load 1 false (.t 2), none⟩,
    ⟨(some 7), .mv (.t 1), none⟩,
    ⟨(some 8), .idx 1 (.t 6) (.t 7), none⟩,
    ⟨(some 9), .load 1 false (.t 8), none⟩,
    ⟨(some 10), .load 1 false (.t 2), none⟩,
    ⟨(some 11), .mv (.t 0), none⟩,
    ⟨(some 12), .idx 1 (.t 10) (.t 11), none⟩,
    ⟨(some 13), .load 1 false (.t 12), none⟩,
    ⟨(some 14), .call 92 [(.t 9), (.t 13)], none⟩,
    ⟨(some 5), .mv (.t 14), none⟩] []) .ret))
def V105 : List RV := [.t 5]
theorem m105 : mtcF Try.prog 105 3 A105 V105 = true := by kernel_rfl
def A117M1R1 : ACode := (.cond (.t 34) .skip (.exit 2))
def A117M1L2 : ACode := (.seq (.seqr (.drw [⟨(some 18), .mv (.t 9), none⟩,
    ⟨(some 19), .mv (.t 1), none⟩,
    ⟨(some 20), .bin .gtr (.t 18) (.t 19), none⟩,
    ⟨(some 21), .mv (.t 20), none⟩,
    ⟨(some 22), .mv (.t 3), (some (21, true))⟩,
    ⟨(some 23), .mv (.t 0), (some (21, true))⟩,
    ⟨(some 24), .mv (.t 9), (some (21, true))⟩,
    ⟨(some 25), .idx 1 (.t 23) (.t 24), (some (21, true))⟩,
    ⟨(some 26), .load 1 false (.t 25), (some (21, true))⟩,
    ⟨(some 27), .mv (.t 0), (some (21, true))⟩,
    ⟨(some 28), .mv (.t 9), (some (21, true))⟩,
    ⟨(some 29), .bin .sub (.t 28) (.c (.i 1)), (some (21, true))⟩,
    ⟨(some 30), .idx 1 (.t 27) (.t 29), (some (21, true))⟩,
    ⟨(some 31), .load 1 false (.t 30), (some (21, true))⟩,
    ⟨(some 32), .dyn (.t 22) [(.t 26), (.t 31)], (some (21, true))⟩,
    ⟨(some 33), .bin .lss (.t 32) (.c (.i 0)), (some (21, true))⟩,
    ⟨(some 34), .pick (.t 21) (.t 33) (.c (.b false)), none⟩] []) [0, 1, 2, 3, 8, 9, 34] [1000000000, 1000000001] A117M1R1) (.seq (.blk 3 (.drw [⟨(some 37), .mv (.t 0), none⟩,
    ⟨(some 38), .mv (.t 9), none⟩,
    ⟨(some 39), .mv (.t 0), none⟩,
    ⟨(some 40), .mv (.t 9), none⟩,
    ⟨(some 41), .bin .sub (.t 40) (.c (.i 1)), none⟩,
    ⟨(some 42), .mv (.t 0), none⟩,
    ⟨(some 43), .mv (.t 9), none⟩,
    ⟨(some 44), .bin .sub (.t 43) (.c (.i 1)), none⟩,
    ⟨(some 45), .idx 1 (.t 42) (.t 44), none⟩,
    ⟨(some 46), .load 1 false (.t 45), none⟩,
    ⟨(some 47), .mv (.t 0), none⟩,
    ⟨(some 48), .mv (.t 9), none⟩,
    ⟨(some 49), .idx 1 (.t 47) (.t 48), none⟩,
    ⟨(some 50), .load 1 false (.t 49), none⟩,
    ⟨(some 51), .idx 1 (.t 37) (.t 38), none⟩,
    ⟨none, .store 1 (.t 51) (.t 46), none⟩,
    ⟨(some 52), .idx 1 (.t 39) (.t 41), none⟩,
    ⟨none, .store 1 (.t 52) (.t 50), none⟩] [])) (.reg [⟨(some 35), .mv (.t 9), none⟩,
    ⟨(some 36), .bin .sub (.t 35) (.c (.i 1)), none⟩,
    ⟨(some 9), .mv (.t 36), none⟩] [])))
def A117M1R3 : ACode := (.reg [⟨(some 15), .mv (.t 8), none⟩,
    ⟨(some 16), .bin .add (.t 15) (.c (.i 1)), none⟩,
    ⟨(some 8), .mv (.t 16), none⟩] [])
def A117M1L4 : ACode := (.seq (.seq (.reg [⟨(some 12), .mv (.t 8), none⟩,
    ⟨(some 13), .mv (.t 2), none⟩,
    ⟨(some 14), .bin .lss (.t 12) (.t 13), none⟩] []) (.cond (.t 14) .skip (.exit 0))) (.seqr (.blk 1 (.seq (.reg [⟨(some 17), .mv (.t 8), none⟩,
    ⟨(some 9), .mv (.t 17), none⟩] []) (.blk 2 (.loop A117M1L2)))) [0, 1, 2, 3, 8] [1000000000, 1000000001] A117M1R3))
def A117M1 : ACode := (.seq (.reg [⟨(some 10), .mv (.t 1), none⟩,
    ⟨(some 11), .bin .add (.t 10) (.c (.i 1)), none⟩,
    ⟨(some 8), .mv (.t 11), none⟩] []) (.blk 0 (.loop A117M1L4)))
def V117M1 : List RV := []
theorem m117M1 : mtcF Try.prog 117 4 A117M1 V117M1 = true := by kernel_rfl
def A117M2R1 : ACode := (.cond (.t 34) .skip (.exit 2))
def A117M2L2 : ACode := (.seq (.seqr (.drw [⟨(some 18), .mv (.t 9), none⟩,
    ⟨(some 19), .mv (.t 1), none⟩,
    ⟨(some 20), .bin .gtr (.t 18) (.t 19), none⟩,
    ⟨(some 21), .mv (.t 20), none⟩,
    ⟨(some 22), .mv (.t 3), (some (21, true))⟩,
    ⟨(some 23), .mv (.t 0), (some (21, true))⟩,
    ⟨(some 24), .mv (.t 9), (some (21, true))⟩,
    ⟨(some 25), .idx 1 (.t 23) (.t 24), (some (21, true))⟩,
    ⟨(some 26), .load 1 false (.t 25), (some (21, true))⟩,
    ⟨(some 27), .mv (.t 0), (some (21, true))⟩,
    ⟨(some 28), .mv (.t 9), (some (21, true))⟩,
    ⟨(some 29), .bin .sub (.t 28) (.c (.i 1)), (some (21, true))⟩,
    ⟨(some 30), .idx 1 (.t 27) (.t 29), (some (21, true))⟩,
    ⟨(some 31), .load 1 false (.t 30), (some (21, true))⟩,
    ⟨(some 32), .dyn (.t 22) [(.t 26), (.t 31)], (some (21, true))⟩,
    ⟨(some 33), .bin .lss (.t 32) (.c (.i 0)), (some (21, true))⟩,
    ⟨(some 34), .pick (.t 21) (.t 33) (.c (.b false)), none⟩] []) [0, 1, 2, 3, 8, 9, 34] [1000000000, 1000000001] A117M2R1) (.seq (.blk 3 (.drw [⟨(some 37), .mv (.t 0), none⟩,
    ⟨(some 38), .mv (.t 9), none⟩,
    ⟨(some 39), .mv (.t 0), none⟩,
    ⟨(some 40), .mv (.t 9), none⟩,
    ⟨(some 41), .bin .sub (.t 40) (.c (.i 1)), none⟩,
    ⟨(some 42), .mv (.t 0), none⟩,
    ⟨(some 43), .mv (.t 9), none⟩,
    ⟨(some 44), .bin .sub (.t 43) (.c (.i 1)), none⟩,
    ⟨(some 45), .idx 1 (.t 42) (.t 44), none⟩,
    ⟨(some 46), .load 1 false (.t 45), none⟩,
    ⟨(some 47), .mv (.t 0), none⟩,
    ⟨(some 48), .mv (.t 9), none⟩,
    ⟨(some 49), .idx 1 (.t 47) (.t 48), none⟩,
    ⟨(some 50), .load 1 false (.t 49), none⟩,
    ⟨(some 51), .idx 1 (.t 37) (.t 38), none⟩,
    ⟨none, .store 1 (.t 51) (.t 46), none⟩,
    ⟨(some 52), .idx 1 (.t 39) (.t 41), none⟩,
    ⟨none, .store 1 (.t 52) (.t 50), none⟩] [])) (.reg [⟨(some 35), .mv (.t 9), none⟩,
    ⟨(some 36), .bin .sub (.t 35) (.c (.i 1)), none⟩,
    ⟨(some 9), .mv (.t 36), none⟩] [])))
def A117M2R3 : ACode := (.reg [⟨(some 15), .mv (.t 8), none⟩,
    ⟨(some 16), .bin .add (.t 15) (.c (.i 1)), none⟩,
    ⟨(some 8), .mv (.t 16), none⟩] [])
def A117M2L4 : ACode := (.seq (.seq (.reg [⟨(some 12), .mv (.t 8), none⟩,
    ⟨(some 13), .mv (.t 2), none⟩,
    ⟨(some 14), .bin .lss (.t 12) (.t 13), none⟩] []) (.cond (.t 14) .skip (.exit 0))) (.seqr (.blk 1 (.seq (.reg [⟨(some 17), .mv (.t 8), none⟩,
    ⟨(some 9), .mv (.t 17), none⟩] []) (.blk 2 (.loop A117M2L2)))) [0, 1, 2, 3, 8] [1000000000, 1000000001] A117M2R3))
def A117M2 : ACode := (.seq (.reg [⟨(some 10), .mv (.t 1), none⟩,
    ⟨(some 11), .bin .add (.t 10) (.c (.i 1)), none⟩,
    ⟨(some 8), .mv (.t 11), none⟩] []) (.blk 0 (.loop A117M2L4)))
def V117M2 : List RV := []
theorem m117M2 : mtcF Try.prog 117 4 A117M2 V117M2 = true := by kernel_rfl
def A137M1L1 : ACode := (.seq (.seq (.reg [⟨(some 11), .mv (.t 10), none⟩,
    ⟨(some 12), .mv (.t 3), none⟩,
    ⟨(some 13), .bin .lss (.t 11) (.t 12), none⟩] []) (.cond (.t 13) .skip (.exit 0))) (.seq (.blk 1 (.drw [⟨(some 16), .mv (.t 0), none⟩,
    ⟨(some 17), .mv (.t 1), none⟩,
    ⟨(some 18), .mv (.t 10), none⟩,
    ⟨(some 19), .bin .add (.t 17) (.t 18), none⟩,
    ⟨(some 20), .mv (.t 0), none⟩,
    ⟨(some 21), .mv (.t 2), none⟩,
    ⟨(some 22), .mv (.t 10), none⟩,
    ⟨(some 23), .bin .add (.t 21) (.t 22), none⟩,
    ⟨(some 24), .mv (.t 0), none⟩,
    ⟨(some 25), .mv (.t 2), none⟩,
    ⟨(some 26), .mv (.t 10), none⟩,
    ⟨(some 27), .bin .add (.t 25) (.t 26), none⟩,
    ⟨(some 28), .idx 1 (.t 24) (.t 27), none⟩,
    ⟨(some 29), .load 1 false (.t 28), none⟩,
    ⟨(some 30), .mv (.t 0), none⟩,
    ⟨(some 31), .mv (.t 1), none⟩,
    ⟨(some 32), .mv (.t 10), none⟩,
    ⟨(some 33), .bin .add (.t 31) (.t 32), none⟩,
    ⟨(some 34), .idx 1 (.t 30) (.t 33), none⟩,
    ⟨(some 35), .load 1 false (.t 34), none⟩,
    ⟨(some 36), .idx 1 (.t 16) (.t 19), none⟩,
    ⟨none, .store 1 (.t 36) (.t 29), none⟩,
    ⟨(some 37), .idx 1 (.t 20) (.t 23), none⟩,
    ⟨none, .store 1 (.t 37) (.t 35), none⟩] [])) (.reg [⟨(some 14), .mv (.t 10), none⟩,
    ⟨(some 15), .bin .add (.t 14) (.c (.i 1)), none⟩,
    ⟨(some 10), .mv (.t 15), none⟩] [])))
def A137M1 : ACode := (.seq (.reg [⟨(some 10), .mv (.c (.i 0)), none⟩] []) (.blk 0 (.loop A137M1L1)))
def V137M1 : List RV := []
theorem m137M1 : mtcF Try.prog 137 5 A137M1 V137M1 = true := by kernel_rfl
def A135M1L1 : ACode := (.seq (.seq (.reg [⟨(some 18), .mv (.t 10), none⟩,
    ⟨(some 19), .mv (.t 11), none⟩,
    ⟨(some 20), .bin .neq (.t 18) (.t 19), none⟩] []) (.cond (.t 20) .skip (.exit 0))) (.blk 1 (.seq (.reg [⟨(some 21), .mv (.t 10), none⟩,
    ⟨(some 22), .mv (.t 11), none⟩,
    ⟨(some 23), .bin .gtr (.t 21) (.t 22), none⟩] []) (.cond (.t 23) (.seq (.reg [⟨(some 24), .mv (.t 0), none⟩,
    ⟨(some 25), .mv (.t 2), none⟩,
    ⟨(some 26), .mv (.t 10), none⟩,
    ⟨(some 27), .bin .sub (.t 25) (.t 26), none⟩,
    ⟨(some 28), .mv (.t 2), none⟩,
    ⟨(some 29), .mv (.t 11), none⟩,
    ⟨(some 30), .mv (.t 4), none⟩,
    ⟨(some 31), .callM 137 [(.t 24), (.t 27), (.t 28), (.t 29), (.t 30)] [1000000000, 1000000001], none⟩] []) (.reg [⟨(some 32), .mv (.t 10), none⟩,
    ⟨(some 33), .mv (.t 11), none⟩,
    ⟨(some 34), .bin .sub (.t 32) (.t 33), none⟩,
    ⟨(some 10), .mv (.t 34), none⟩] [])) (.seq (.reg [⟨(some 35), .mv (.t 0), none⟩,
    ⟨(some 36), .mv (.t 2), none⟩,
    ⟨(some 37), .mv (.t 10), none⟩,
    ⟨(some 38), .bin .sub (.t 36) (.t 37), none⟩,
    ⟨(some 39), .mv (.t 2), none⟩,
    ⟨(some 40), .mv (.t 11), none⟩,
    ⟨(some 41), .bin .add (.t 39) (.t 40), none⟩,
    ⟨(some 42), .mv (.t 10), none⟩,
    ⟨(some 43), .bin .sub (.t 41) (.t 42), none⟩,
    ⟨(some 44), .mv (.t 10), none⟩,
    ⟨(some 45), .mv (.t 4), none⟩,
    ⟨(some 46), .callM 137 [(.t 35), (.t 38), (.t 43), (.t 44), (.t 45)] [1000000000, 1000000001], none⟩] []) (.reg [⟨(some 47), .mv (.t 11), none⟩,
    ⟨(some 48), .mv (.t 10), none⟩,
    ⟨(some 49), .bin .sub (.t 47) (.t 48), none⟩,
    ⟨(some 11), .mv (.t 49), none⟩] []))))))
def A135M1R2 : ACode := (.reg [⟨(some 50), .mv (.t 0), none⟩,
    ⟨(some 51), .mv (.t 2), none⟩,
    ⟨(some 52), .mv (.t 10), none⟩,
    ⟨(some 53), .bin .sub (.t 51) (.t 52), none⟩,
    ⟨(some 54), .mv (.t 2), none⟩,
    ⟨(some 55), .mv (.t 10), none⟩,
    ⟨(some 56), .mv (.t 4), none⟩,
    ⟨(some 57), .callM 137 [(.t 50), (.t 53), (.t 54), (.t 55), (.t 56)] [1000000000, 1000000001], none⟩] [])
def A135M1 : ACode := (.seq (.reg [⟨(some 12), .mv (.t 2), none⟩,
    ⟨(some 13), .mv (.t 1), none⟩,
    ⟨(some 14), .bin .sub (.t 12) (.t 13), none⟩,
    ⟨(some 10), .mv (.t 14), none⟩] []) (.seq (.reg [⟨(some 15), .mv (.t 3), none⟩,
    ⟨(some 16), .mv (.t 2), none⟩,
    ⟨(some 17), .bin .sub (.t 15) (.t 16), none⟩,
    ⟨(some 11), .mv (.t 17), none⟩] []) (.seqr (.blk 0 (.loop A135M1L1)) [0, 2, 4, 10] [1000000000, 1000000001] A135M1R2)))
def V135M1 : List RV := []
theorem m135M1 : mtcF Try.prog 135 5 A135M1 V135M1 = true := by kernel_rfl
def A129M1L1 : ACode := (.seq (.seq (.reg [⟨(some 31), .mv (.t 10), none⟩,
    ⟨(some 32), .mv (.t 11), none⟩,
    ⟨(some 33), .bin .lss (.t 31) (.t 32), none⟩] []) (.cond (.t 33) .skip (.exit 0))) (.blk 1 (.seq (.reg [⟨(some 34), .mv (.t 10), none⟩,
    ⟨(some 35), .mv (.t 11), none⟩,
    ⟨(some 36), .bin .add (.t 34) (.t 35), none⟩,
    ⟨(some 37), .conv .u64 (.t 36), none⟩,
    ⟨(some 38), .bin .shr (.t 37) (.c (.sc (.int .u64 1))), none⟩,
    ⟨(some 39), .conv .i64 (.t 38), none⟩,
    ⟨(some 12), .mv (.t 39), none⟩] []) (.seq (.drw [⟨(some 40), .mv (.t 4), none⟩,
    ⟨(some 41), .mv (.t 0), none⟩,
    ⟨(some 42), .mv (.t 12), none⟩,
    ⟨(some 43), .idx 1 (.t 41) (.t 42), none⟩,
    ⟨(some 44), .load 1 false (.t 43), none⟩,
    ⟨(some 45), .mv (.t 0), none⟩,
    ⟨(some 46), .mv (.t 1), none⟩,
    ⟨(some 47), .idx 1 (.t 45) (.t 46), none⟩,
    ⟨(some 48), .load 1 false (.t 47), none⟩,
    ⟨(some 49), .dyn (.t 40) [(.t 44), (.t 48)], none⟩,
    ⟨(some 50), .bin .lss (.t 49) (.c (.i 0)), none⟩] []) (.cond (.t 50) (.reg [⟨(some 51), .mv (.t 12), none⟩,
    ⟨(some 52), .bin .add (.t 51) (.c (.i 1)), none⟩,
    ⟨(some 10), .mv (.t 52), none⟩] []) (.reg [⟨(some 53), .mv (.t 12), none⟩,
    ⟨(some 11), .mv (.t 53), none⟩] []))))))
def A129M1L3 : ACode := (.seq (.seq (.reg [⟨(some 55), .mv (.t 13), none⟩,
    ⟨(some 56), .mv (.t 10), none⟩,
    ⟨(some 57), .bin .sub (.t 56) (.c (.i 1)), none⟩,
    ⟨(some 58), .bin .lss (.t 55) (.t 57), none⟩] []) (.cond (.t 58) .skip (.exit 2))) (.seq (.blk 3 (.drw [⟨(some 61), .mv (.t 0), none⟩,
    ⟨(some 62), .mv (.t 13), none⟩,
    ⟨(some 63), .mv (.t 0), none⟩,
    ⟨(some 64), .mv (.t 13), none⟩,
    ⟨(some 65), .bin .add (.t 64) (.c (.i 1)), none⟩,
    ⟨(some 66), .mv (.t 0), none⟩,
    ⟨(some 67), .mv (.t 13), none⟩,
    ⟨(some 68), .bin .add (.t 67) (.c (.i 1)), none⟩,
    ⟨(some 69), .idx 1 (.t 66) (.t 68), none⟩,
    ⟨(some 70), .load 1 false (.t 69), none⟩,
    ⟨(some 71), .mv (.t 0), none⟩,
    ⟨(some 72), .mv (.t 13), none⟩,
    ⟨(some 73), .idx 1 (.t 71) (.t 72), none⟩,
    ⟨(some 74), .load 1 false (.t 73), none⟩,
    ⟨(some 75), .idx 1 (.t 61) (.t 62), none⟩,
    ⟨none, .store 1 (.t 75) (.t 70), none⟩,
    ⟨(some 76), .idx 1 (.t 63) (.t 65), none⟩,
    ⟨none, .store 1 (.t 76) (.t 74), none⟩] [])) (.reg [⟨(some 59), .mv (.t 13), none⟩,
    ⟨(some 60), .bin .add (.t 59) (.c (.i 1)), none⟩,
    ⟨(some 13), .mv (.t 60), none⟩] [])))
def A129M1R4 : ACode := .ret
def A129M1R2 : ACode := (.seqa (.reg [⟨(some 54), .mv (.t 1), none⟩,
    ⟨(some 13), .mv (.t 54), none⟩] []) (.blk 2 (.loop A129M1L3)) [] [1000000000, 1000000001] A129M1R4)
def A129M1L5 : ACode := (.seq (.seq (.reg [⟨(some 83), .mv (.t 14), none⟩,
    ⟨(some 84), .mv (.t 15), none⟩,
    ⟨(some 85), .bin .lss (.t 83) (.t 84), none⟩] []) (.cond (.t 85) .skip (.exit 4))) (.blk 5 (.seq (.reg [⟨(some 86), .mv (.t 14), none⟩,
    ⟨(some 87), .mv (.t 15), none⟩,
    ⟨(some 88), .bin .add (.t 86) (.t 87), none⟩,
    ⟨(some 89), .conv .u64 (.t 88), none⟩,
    ⟨(some 90), .bin .shr (.t 89) (.c (.sc (.int .u64 1))), none⟩,
    ⟨(some 91), .conv .i64 (.t 90), none⟩,
    ⟨(some 16), .mv (.t 91), none⟩] []) (.seq (.drw [⟨(some 92), .mv (.t 4), none⟩,
    ⟨(some 93), .mv (.t 0), none⟩,
    ⟨(some 94), .mv (.t 2), none⟩,
    ⟨(some 95), .idx 1 (.t 93) (.t 94), none⟩,
    ⟨(some 96), .load 1 false (.t 95), none⟩,
    ⟨(some 97), .mv (.t 0), none⟩,
    ⟨(some 98), .mv (.t 16), none⟩,
    ⟨(some 99), .idx 1 (.t 97) (.t 98), none⟩,
    ⟨(some 100), .load 1 false (.t 99), none⟩,
    ⟨(some 101), .dyn (.t 92) [(.t 96), (.t 100)], none⟩,
    ⟨(some 102), .bin .lss (.t 101) (.c (.i 0)), none⟩,
    ⟨(some 103), .un .not (.t 102), none⟩] []) (.cond (.t 103) (.reg [⟨(some 104), .mv (.t 16), none⟩,
    ⟨(some 105), .bin .add (.t 104) (.c (.i 1)), none⟩,
    ⟨(some 14), .mv (.t 105), none⟩] []) (.reg [⟨(some 106), .mv (.t 16), none⟩,
    ⟨(some 15), .mv (.t 106), none⟩] []))))))
def A129M1L7 : ACode := (.seq (.seq (.reg [⟨(some 108), .mv (.t 17), none⟩,
    ⟨(some 109), .mv (.t 14), none⟩,
    ⟨(some 110), .bin .gtr (.t 108) (.t 109), none⟩] []) (.cond (.t 110) .skip (.exit 6))) (.seq (.blk 7 (.drw [⟨(some 113), .mv (.t 0), none⟩,
    ⟨(some 114), .mv (.t 17), none⟩,
    ⟨(some 115), .mv (.t 0), none⟩,
    ⟨(some 116), .mv (.t 17), none⟩,
    ⟨(some 117), .bin .sub (.t 116) (.c (.i 1)), none⟩,
    ⟨(some 118), .mv (.t 0), none⟩,
    ⟨(some 119), .mv (.t 17), none⟩,
    ⟨(some 120), .bin .sub (.t 119) (.c (.i 1)), none⟩,
    ⟨(some 121), .idx 1 (.t 118) (.t 120), none⟩,
    ⟨(some 122), .load 1 false (.t 121), none⟩,
    ⟨(some 123), .mv (.t 0), none⟩,
    ⟨(some 124), .mv (.t 17), none⟩,
    ⟨(some 125), .idx 1 (.t 123) (.t 124), none⟩,
    ⟨(some 126), .load 1 false (.t 125), none⟩,
    ⟨(some 127), .idx 1 (.t 113) (.t 114), none⟩,
    ⟨none, .store 1 (.t 127) (.t 122), none⟩,
    ⟨(some 128), .idx 1 (.t 115) (.t 117), none⟩,
    ⟨none, .store 1 (.t 128) (.t 126), none⟩] [])) (.reg [⟨(some 111), .mv (.t 17), none⟩,
    ⟨(some 112), .bin .sub (.t 111) (.c (.i 1)), none⟩,
    ⟨(some 17), .mv (.t 112), none⟩] [])))
def A129M1R8 : ACode := .ret
def A129M1R6 : ACode := (.seqa (.reg [⟨(some 107), .mv (.t 2), none⟩,
    ⟨(some 17), .mv (.t 107), none⟩] []) (.blk 6 (.loop A129M1L7)) [] [1000000000, 1000000001] A129M1R8)
def A129M1L10 : ACode := (.seq (.seq (.reg [⟨(some 149), .mv (.t 20), none⟩,
    ⟨(some 150), .mv (.t 21), none⟩,
    ⟨(some 151), .bin .lss (.t 149) (.t 150), none⟩] []) (.cond (.t 151) .skip (.exit 8))) (.blk 9 (.seq (.reg [⟨(some 152), .mv (.t 20), none⟩,
    ⟨(some 153), .mv (.t 21), none⟩,
    ⟨(some 154), .bin .add (.t 152) (.t 153), none⟩,
    ⟨(some 155), .conv .u64 (.t 154), none⟩,
    ⟨(some 156), .bin .shr (.t 155) (.c (.sc (.int .u64 1))), none⟩,
    ⟨(some 157), .conv .i64 (.t 156), none⟩,
    ⟨(some 23), .mv (.t 157), none⟩] []) (.seq (.drw [⟨(some 158), .mv (.t 4), none⟩,
    ⟨(some 159), .mv (.t 0), none⟩,
    ⟨(some 160), .mv (.t 22), none⟩,
    ⟨(some 161), .mv (.t 23), none⟩,
    ⟨(some 162), .bin .sub (.t 160) (.t 161), none⟩,
    ⟨(some 163), .idx 1 (.t 159) (.t 162), none⟩,
    ⟨(some 164), .load 1 false (.t 163), none⟩,
    ⟨(some 165), .mv (.t 0), none⟩,
    ⟨(some 166), .mv (.t 23), none⟩,
    ⟨(some 167), .idx 1 (.t 165) (.t 166), none⟩,
    ⟨(some 168), .load 1 false (.t 167), none⟩,
    ⟨(some 169), .dyn (.t 158) [(.t 164), (.t 168)], none⟩,
    ⟨(some 170), .bin .lss (.t 169) (.c (.i 0)), none⟩,
    ⟨(some 171), .un .not (.t 170), none⟩] []) (.cond (.t 171) (.reg [⟨(some 172), .mv (.t 23), none⟩,
    ⟨(some 173), .bin .add (.t 172) (.c (.i 1)), none⟩,
    ⟨(some 20), .mv (.t 173), none⟩] []) (.reg [⟨(some 174), .mv (.t 23), none⟩,
    ⟨(some 21), .mv (.t 174), none⟩] []))))))
def A129M1R12 : ACode := (.cond (.t 185) (.reg [⟨(some 186), .mv (.t 0), none⟩,
    ⟨(some 187), .mv (.t 20), none⟩,
    ⟨(some 188), .mv (.t 2), none⟩,
    ⟨(some 189), .mv (.t 24), none⟩,
    ⟨(some 190), .mv (.t 4), none⟩,
    ⟨(some 191), .callM 135 [(.t 186), (.t 187), (.t 188), (.t 189), (.t 190)] [1000000000, 1000000001], none⟩] []) .skip)
def A129M1R14 : ACode := (.cond (.t 199) (.reg [⟨(some 200), .mv (.t 0), none⟩,
    ⟨(some 201), .mv (.t 1), none⟩,
    ⟨(some 202), .mv (.t 20), none⟩,
    ⟨(some 203), .mv (.t 18), none⟩,
    ⟨(some 204), .mv (.t 4), none⟩,
    ⟨(some 205), .callM 129 [(.t 200), (.t 201), (.t 202), (.t 203), (.t 204)] [1000000000, 1000000001], none⟩] []) .skip)
def A129M1R16 : ACode := (.cond (.t 213) (.reg [⟨(some 214), .mv (.t 0), none⟩,
    ⟨(some 215), .mv (.t 18), none⟩,
    ⟨(some 216), .mv (.t 24), none⟩,
    ⟨(some 217), .mv (.t 3), none⟩,
    ⟨(some 218), .mv (.t 4), none⟩,
    ⟨(some 219), .callM 129 [(.t 214), (.t 215), (.t 216), (.t 217), (.t 218)] [1000000000, 1000000001], none⟩] []) .skip)
def A129M1R15 : ACode := (.seqr (.reg [⟨(some 206), .mv (.t 18), none⟩,
    ⟨(some 207), .mv (.t 24), none⟩,
    ⟨(some 208), .bin .lss (.t 206) (.t 207), none⟩,
    ⟨(some 209), .mv (.t 208), none⟩,
    ⟨(some 210), .mv (.t 24), (some (209, true))⟩,
    ⟨(some 211), .mv (.t 3), (some (209, true))⟩,
    ⟨(some 212), .bin .lss (.t 210) (.t 211), (some (209, true))⟩,
    ⟨(some 213), .pick (.t 209) (.t 212) (.c (.b false)), none⟩] []) [0, 3, 4, 18, 24, 213] [1000000000, 1000000001] A129M1R16)
def A129M1R13 : ACode := (.seqr (.seqr (.reg [⟨(some 192), .mv (.t 1), none⟩,
    ⟨(some 193), .mv (.t 20), none⟩,
    ⟨(some 194), .bin .lss (.t 192) (.t 193), none⟩,
    ⟨(some 195), .mv (.t 194), none⟩,
    ⟨(some 196), .mv (.t 20), (some (195, true))⟩,
    ⟨(some 197), .mv (.t 18), (some (195, true))⟩,
    ⟨(some 198), .bin .lss (.t 196) (.t 197), (some (195, true))⟩,
    ⟨(some 199), .pick (.t 195) (.t 198) (.c (.b false)), none⟩] []) [0, 1, 3, 4, 18, 20, 24, 199] [1000000000, 1000000001] A129M1R14) [0, 3, 4, 18, 24] [1000000000, 1000000001] A129M1R15)
def A129M1R11 : ACode := (.seq (.reg [⟨(some 175), .mv (.t 19), none⟩,
    ⟨(some 176), .mv (.t 20), none⟩,
    ⟨(some 177), .bin .sub (.t 175) (.t 176), none⟩,
    ⟨(some 24), .mv (.t 177), none⟩] []) (.seqr (.seqr (.reg [⟨(some 178), .mv (.t 20), none⟩,
    ⟨(some 179), .mv (.t 2), none⟩,
    ⟨(some 180), .bin .lss (.t 178) (.t 179), none⟩,
    ⟨(some 181), .mv (.t 180), none⟩,
    ⟨(some 182), .mv (.t 2), (some (181, true))⟩,
    ⟨(some 183), .mv (.t 24), (some (181, true))⟩,
    ⟨(some 184), .bin .lss (.t 182) (.t 183), (some (181, true))⟩,
    ⟨(some 185), .pick (.t 181) (.t 184) (.c (.b false)), none⟩] []) [0, 1, 2, 3, 4, 18, 20, 24, 185] [1000000000, 1000000001] A129M1R12) [0, 1, 3, 4, 18, 20, 24] [1000000000, 1000000001] A129M1R13))
def A129M1R9 : ACode := (.seq (.reg [⟨(some 147), .mv (.t 19), none⟩,
    ⟨(some 148), .bin .sub (.t 147) (.c (.i 1)), none⟩,
    ⟨(some 22), .mv (.t 148), none⟩] []) (.seqr (.blk 8 (.loop A129M1L10)) [0, 1, 2, 3, 4, 18, 19, 20] [1000000000, 1000000001] A129M1R11))
def A129M1 : ACode := (.seq (.seq (.reg [⟨(some 25), .mv (.t 2), none⟩,
    ⟨(some 26), .mv (.t 1), none⟩,
    ⟨(some 27), .bin .sub (.t 25) (.t 26), none⟩,
    ⟨(some 28), .bin .eql (.t 27) (.c (.i 1)), none⟩] []) (.cond (.t 28) (.seq (.reg [⟨(some 29), .mv (.t 2), none⟩,
    ⟨(some 10), .mv (.t 29), none⟩] []) (.seq (.reg [⟨(some 30), .mv (.t 3), none⟩,
    ⟨(some 11), .mv (.t 30), none⟩] []) (.seqr (.blk 0 (.loop A129M1L1)) [0, 1, 10] [1000000000, 1000000001] A129M1R2))) .skip)) (.seq (.seq (.reg [⟨(some 77), .mv (.t 3), none⟩,
    ⟨(some 78), .mv (.t 2), none⟩,
    ⟨(some 79), .bin .sub (.t 77) (.t 78), none⟩,
    ⟨(some 80), .bin .eql (.t 79) (.c (.i 1)), none⟩] []) (.cond (.t 80) (.seq (.reg [⟨(some 81), .mv (.t 1), none⟩,
    ⟨(some 14), .mv (.t 81), none⟩] []) (.seq (.reg [⟨(some 82), .mv (.t 2), none⟩,
    ⟨(some 15), .mv (.t 82), none⟩] []) (.seqr (.blk 4 (.loop A129M1L5)) [0, 2, 14] [1000000000, 1000000001] A129M1R6))) .skip)) (.seq (.reg [⟨(some 129), .mv (.t 1), none⟩,
    ⟨(some 130), .mv (.t 3), none⟩,
    ⟨(some 131), .bin .add (.t 129) (.t 130), none⟩,
    ⟨(some 132), .conv .u64 (.t 131), none⟩,
    ⟨(some 133), .bin .shr (.t 132) (.c (.sc (.int .u64 1))), none⟩,
    ⟨(some 134), .conv .i64 (.t 133), none⟩,
    ⟨(some 18), .mv (.t 134), none⟩] []) (.seq (.reg [⟨(some 135), .mv (.t 18), none⟩,
    ⟨(some 136), .mv (.t 2), none⟩,
    ⟨(some 137), .bin .add (.t 135) (.t 136), none⟩,
    ⟨(some 19), .mv (.t 137), none⟩] []) (.seq (.reg [⟨(some 20), .mv (.c (.i 0)), none⟩,
    ⟨(some 21), .mv (.c (.i 0)), none⟩] []) (.seqr (.seq (.reg [⟨(some 138), .mv (.t 2), none⟩,
    ⟨(some 139), .mv (.t 18), none⟩,
    ⟨(some 140), .bin .gtr (.t 138) (.t 139), none⟩] []) (.cond (.t 140) (.seq (.reg [⟨(some 141), .mv (.t 19), none⟩,
    ⟨(some 142), .mv (.t 3), none⟩,
    ⟨(some 143), .bin .sub (.t 141) (.t 142), none⟩,
    ⟨(some 20), .mv (.t 143), none⟩] []) (.reg [⟨(some 144), .mv (.t 18), none⟩,
    ⟨(some 21), .mv (.t 144), none⟩] [])) (.seq (.reg [⟨(some 145), .mv (.t 1), none⟩,
    ⟨(some 20), .mv (.t 145), none⟩] []) (.reg [⟨(some 146), .mv (.t 2), none⟩,
    ⟨(some 21), .mv (.t 146), none⟩] [])))) [0, 1, 2, 3, 4, 18, 19, 20, 21] [1000000000, 1000000001] A129M1R9))))))
def V129M1 : List RV := []
theorem m129M1 : mtcF Try.prog 129 5 A129M1 V129M1 = true := by kernel_rfl
def A115M1L1 : ACode := (.seq (.seq (.reg [⟨(some 11), .mv (.t 8), none⟩,
    ⟨(some 12), .mv (.t 1), none⟩,
    ⟨(some 13), .bin .leq (.t 11) (.t 12), none⟩] []) (.cond (.t 13) .skip (.exit 0))) (.blk 1 (.seq (.reg [⟨(some 14), .mv (.t 0), none⟩,
    ⟨(some 15), .mv (.t 7), none⟩,
    ⟨(some 16), .mv (.t 8), none⟩,
    ⟨(some 17), .mv (.t 2), none⟩,
    ⟨(some 18), .callM 117 [(.t 14), (.t 15), (.t 16), (.t 17)] [1000000000, 1000000001], none⟩] []) (.seq (.reg [⟨(some 19), .mv (.t 8), none⟩,
    ⟨(some 7), .mv (.t 19), none⟩] []) (.reg [⟨(some 20), .mv (.t 8), none⟩,
    ⟨(some 21), .mv (.t 6), none⟩,
    ⟨(some 22), .bin .add (.t 20) (.t 21), none⟩,
    ⟨(some 8), .mv (.t 22), none⟩] [])))))
def A115M1L3 : ACode := (.seq (.seq (.reg [⟨(some 33), .mv (.t 8), none⟩,
    ⟨(some 34), .mv (.t 1), none⟩,
    ⟨(some 35), .bin .leq (.t 33) (.t 34), none⟩] []) (.cond (.t 35) .skip (.exit 4))) (.blk 5 (.seq (.reg [⟨(some 36), .mv (.t 0), none⟩,
    ⟨(some 37), .mv (.t 7), none⟩,
    ⟨(some 38), .mv (.t 7), none⟩,
    ⟨(some 39), .mv (.t 6), none⟩,
    ⟨(some 40), .bin .add (.t 38) (.t 39), none⟩,
    ⟨(some 41), .mv (.t 8), none⟩,
    ⟨(some 42), .mv (.t 2), none⟩,
    ⟨(some 43), .callM 129 [(.t 36), (.t 37), (.t 40), (.t 41), (.t 42)] [1000000000, 1000000001], none⟩] []) (.seq (.reg [⟨(some 44), .mv (.t 8), none⟩,
    ⟨(some 7), .mv (.t 44), none⟩] []) (.reg [⟨(some 45), .mv (.t 8), none⟩,
    ⟨(some 46), .mv (.t 6), none⟩,
    ⟨(some 47), .bin .mul (.c (.i 2)) (.t 46), none⟩,
    ⟨(some 48), .bin .add (.t 45) (.t 47), none⟩,
    ⟨(some 8), .mv (.t 48), none⟩] [])))))
def A115M1R4 : ACode := (.seq (.seq (.reg [⟨(some 49), .mv (.t 7), none⟩,
    ⟨(some 50), .mv (.t 6), none⟩,
    ⟨(some 51), .bin .add (.t 49) (.t 50), none⟩,
    ⟨(some 9), .mv (.t 51), none⟩] []) (.seq (.reg [⟨(some 52), .mv (.t 9), none⟩,
    ⟨(some 53), .mv (.t 1), none⟩,
    ⟨(some 54), .bin .lss (.t 52) (.t 53), none⟩] []) (.cond (.t 54) (.reg [⟨(some 55), .mv (.t 0), none⟩,
    ⟨(some 56), .mv (.t 7), none⟩,
    ⟨(some 57), .mv (.t 9), none⟩,
    ⟨(some 58), .mv (.t 1), none⟩,
    ⟨(some 59), .mv (.t 2), none⟩,
    ⟨(some 60), .callM 129 [(.t 55), (.t 56), (.t 57), (.t 58), (.t 59)] [1000000000, 1000000001], none⟩] []) .skip))) (.reg [⟨(some 61), .mv (.t 6), none⟩,
    ⟨(some 62), .bin .mul (.t 61) (.c (.i 2)), none⟩,
    ⟨(some 6), .mv (.t 62), none⟩] []))
def A115M1L5 : ACode := (.seq (.seq (.reg [⟨(some 28), .mv (.t 6), none⟩,
    ⟨(some 29), .mv (.t 1), none⟩,
    ⟨(some 30), .bin .lss (.t 28) (.t 29), none⟩] []) (.cond (.t 30) .skip (.exit 2))) (.blk 3 (.seq (.reg [⟨(some 31), .mv (.t 6), none⟩,
    ⟨(some 32), .bin .mul (.c (.i 2)) (.t 31), none⟩,
    ⟨(some 7), .mv (.c (.i 0)), none⟩,
    ⟨(some 8), .mv (.t 32), none⟩] []) (.seqr (.blk 4 (.loop A115M1L3)) [0, 1, 2, 6, 7] [1000000000, 1000000001] A115M1R4))))
def A115M1R2 : ACode := (.seq (.reg [⟨(some 23), .mv (.t 0), none⟩,
    ⟨(some 24), .mv (.t 7), none⟩,
    ⟨(some 25), .mv (.t 1), none⟩,
    ⟨(some 26), .mv (.t 2), none⟩,
    ⟨(some 27), .callM 117 [(.t 23), (.t 24), (.t 25), (.t 26)] [1000000000, 1000000001], none⟩] []) (.blk 2 (.loop A115M1L5)))
def A115M1 : ACode := (.seq (.reg [⟨(some 6), .mv (.c (.i 20)), none⟩] []) (.seq (.reg [⟨(some 10), .mv (.t 6), none⟩,
    ⟨(some 7), .mv (.c (.i 0)), none⟩,
    ⟨(some 8), .mv (.t 10), none⟩] []) (.seqr (.blk 0 (.loop A115M1L1)) [0, 1, 2, 6, 7] [1000000000, 1000000001] A115M1R2)))
def V115M1 : List RV := []
theorem m115M1 : mtcF Try.prog 115 3 A115M1 V115M1 = true := by kernel_rfl
def A104M1 : ACode := (.reg [⟨(some 4), .mv (.t 0), none⟩,
    ⟨(some 5), .mv (.t 0), none⟩,
    ⟨(some 6), .len (.t 5), none⟩,
    ⟨(some 7), .mv (.t 1), none⟩,
    ⟨(some 8), .callM 115 [(.t 4), (.t 6), (.t 7)] [1000000000, 1000000001], none⟩] [])
def V104M1 : List RV := []
theorem m104M1 : mtcF Try.prog 104 2 A104M1 V104M1 = true := by kernel_rfl
def A99 : ACode := (.seq (.reg [⟨(some 4), .mv (.c (.b false)), none⟩] []) (.seq (.reg [⟨(some 5), .mv (.t 0), none⟩,
    ⟨(some 6), .load 1 false (.t 1), none⟩,
    ⟨(some 7), .load 1 false (.t 2), none⟩,
    ⟨(some 8), .idx 1 (.t 6) (.t 7), none⟩,
    ⟨(some 9), .load 1 false (.t 8), none⟩,
    ⟨(some 10), .bin .geq (.t 5) (.t 9), none⟩,
    ⟨(some 4), .mv (.t 10), none⟩] []) .ret))
def V99 : List RV := [.t 4]
theorem m99 : mtcF Try.prog 99 3 A99 V99 = true := by kernel_rfl
def A64R1 : ACode := (.seq (.drw [⟨(some 33), .mv (.t 8), none⟩,
    ⟨(some 34), .mv (.t 11), none⟩,
    ⟨(some 35), .idx 1 (.t 33) (.t 34), none⟩,
    ⟨(some 36), .load 1 false (.t 35), none⟩,
    ⟨(some 37), .load 1 false (.t 3), none⟩,
    ⟨(some 38), .load 1 false (.t 10), none⟩,
    ⟨(some 39), .idx 1 (.t 37) (.t 38), none⟩,
    ⟨(some 40), .load 1 false (.t 39), none⟩,
    ⟨(some 41), .bin .sub (.t 36) (.t 40), none⟩,
    ⟨(some 42), .idx 1 (.t 33) (.t 34), none⟩,
    ⟨none, .store 1 (.t 42) (.t 41), none⟩] []) (.reg [⟨(some 43), .mv (.t 7), none⟩,
    ⟨(some 44), .load 1 false (.t 10), none⟩,
    ⟨(some 45), .mv (.t 11), none⟩,
    ⟨(some 46), .idx 1 (.t 43) (.t 44), none⟩,
    ⟨none, .store 1 (.t 46) (.t 45), none⟩] []))
def A64L2 : ACode := (.seq (.reg [⟨(some 19), .bin .lss (.t 18) (.t 17), none⟩] []) (.seq (.cond (.t 19) .skip (.exit 0)) (.seq (.blk 1 (.seq (.reg [⟨(some 20), .idx 1 (.t 16) (.t 18), none⟩,
    ⟨(some 21), .load 1 false (.t 20), none⟩,
    ⟨(some 10), .alloc (.i 0), none⟩,
    ⟨none, .store 1 (.t 10) (.t 21), none⟩] []) (.seq (.reg [⟨(some 22), .mv (.t 8), none⟩,
    ⟨(some 23), .mkf 99 [(.t 3), (.t 10)], none⟩,
    ⟨(some 24), .call 98 [(.t 22), (.t 23)], none⟩,
    ⟨(some 11), .mv (.t 24), none⟩] []) (.seqr (.seq (.reg [⟨(some 25), .mv (.t 11), none⟩,
    ⟨(some 26), .bin .lss (.t 25) (.c (.i 0)), none⟩] []) (.cond (.t 26) (.seq (.reg [⟨(some 27), .mv (.t 8), none⟩,
    ⟨(some 28), .len (.t 27), none⟩,
    ⟨(some 11), .mv (.t 28), none⟩] []) (.reg [⟨(some 29), .mv (.t 8), none⟩,
    ⟨(some 30), .mv (.t 1), none⟩,
    ⟨(some 31), .bsl 1 false [(.t 30)], none⟩,
    ⟨(some 32), .app 1 8 true (.t 29) (.t 31), none⟩,
    ⟨(some 8), .mv (.t 32), none⟩] [8])) .skip)) [1, 3, 7, 8, 10, 11, 16, 17, 18] [3, 7, 8, 10] A64R1)))) (.reg [⟨(some 47), .bin .add (.t 18) (.c (.i 1)), none⟩,
    ⟨(some 18), .mv (.t 47), none⟩] []))))
def A64R3 : ACode := (.seq (.reg [⟨(some 48), .mv (.t 7), none⟩,
    ⟨(some 6), .mv (.t 48), none⟩] [6]) .ret)
def A64 : ACode := (.seq (.reg [⟨(some 3), .box 1 (.t 0), none⟩,
    ⟨(some 6), .mv (.c (.lst .u 1 [])), none⟩] [6]) (.seq (.reg [⟨(some 12), .load 1 false (.t 3), none⟩,
    ⟨(some 13), .len (.t 12), none⟩,
    ⟨(some 14), .mks 1 (.i 0) 8 (.t 13) (.t 13), none⟩,
    ⟨(some 15), .bsl 1 false [], none⟩,
    ⟨(some 7), .mv (.t 14), none⟩,
    ⟨(some 8), .mv (.t 15), none⟩] [7, 8]) (.seqa (.reg [⟨(some 16), .mv (.t 2), none⟩,
    ⟨(some 17), .len (.t 16), none⟩,
    ⟨(some 18), .mv (.c (.i 0)), none⟩] []) (.blk 0 (.loop A64L2)) [7] [7] A64R3)))
def V64 : List RV := [.t 6]
theorem m64 : mtcF Try.prog 64 3 A64 V64 = true := by kernel_rfl
def A77 : ACode := (.seq (.reg [⟨(some 2), .box 1 (.t 0), none⟩,
    ⟨(some 4), .mv (.c (.lst .u 1 [])), none⟩] [4]) (.seq (.reg [⟨(some 6), .load 1 false (.t 2), none⟩,
    ⟨(some 7), .len (.t 6), none⟩,
    ⟨(some 8), .call 65 [(.t 7)], none⟩,
    ⟨(some 5), .mv (.t 8), none⟩] [5]) (.seq (.reg [⟨(some 9), .mv (.t 5), none⟩,
    ⟨(some 10), .mkf 105 [(.t 2)], none⟩,
    ⟨(some 11), .callM 104 [(.t 9), (.t 10)] [5, 2], none⟩] []) (.seq (.reg [⟨(some 12), .load 1 false (.t 2), none⟩,
    ⟨(some 13), .mv (.t 1), none⟩,
    ⟨(some 14), .mv (.t 5), none⟩,
    ⟨(some 15), .call 64 [(.t 12), (.t 13), (.t 14)], none⟩,
    ⟨(some 4), .mv (.t 15), none⟩] [4]) .ret))))
def V77 : List RV := [.t 4]
theorem m77 : mtcF Try.prog 77 2 A77 V77 = true := by kernel_rfl
def A35 : ACode := (.seq (.reg [⟨(some 4), .mv (.c (.lst .u 1 [])), none⟩,
    ⟨(some 5), .mv (.c (.b false)), none⟩] [4]) (.seq (.seq (.reg [⟨(some 6), .mv (.t 0), none⟩,
    ⟨(some 7), .mv (.t 1), none⟩,
    ⟨(some 8), .call 63 [(.t 6), (.t 7), (.c (.i 12))], none⟩,
    ⟨(some 9), .un .not (.t 8), none⟩] []) (.cond (.t 9) (.seq (.reg [⟨(some 4), .mv (.c (.lst .u 1 [])), none⟩,
    ⟨(some 5), .mv (.c (.b false)), none⟩] [4]) .ret) .skip)) (.seq (.reg [⟨(some 10), .mv (.t 0), none⟩,
    ⟨(some 11), .mv (.t 1), none⟩,
    ⟨(some 12), .call 77 [(.t 10), (.t 11)], none⟩,
    ⟨(some 4), .mv (.t 12), none⟩,
    ⟨(some 5), .mv (.c (.b true)), none⟩] [4]) .ret)))
def V35 : List RV := [.t 4, .t 5]
theorem m35 : mtcF Try.prog 35 2 A35 V35 = true := by kernel_rfl
def A22L1 : ACode := (.seq (.seq (.reg [⟨(some 11), .mv (.t 5), none⟩,
    ⟨(some 12), .mv (.t 0), none⟩,
    ⟨(some 13), .len (.t 12), none⟩,
    ⟨(some 14), .bin .lss (.t 11) (.t 13), none⟩] []) (.cond (.t 14) .skip (.exit 0))) (.seq (.blk 1 (.seq (.drw [⟨(some 17), .mv (.t 0), none⟩,
    ⟨(some 18), .mv (.t 5), none⟩,
    ⟨(some 19), .idx 1 (.t 17) (.t 18), none⟩,
    ⟨(some 20), .load 1 false (.t 19), none⟩,
    ⟨(some 21), .mv (.t 1), none⟩,
    ⟨(some 22), .mv (.t 5), none⟩,
    ⟨(some 23), .idx 1 (.t 21) (.t 22), none⟩,
    ⟨(some 24), .load 1 false (.t 23), none⟩,
    ⟨(some 25), .bin .neq (.t 20) (.t 24), none⟩] []) (.cond (.t 25) (.seq (.reg [⟨(some 4), .mv (.c (.b false)), none⟩] []) .ret) .skip))) (.reg [⟨(some 15), .mv (.t 5), none⟩,
    ⟨(some 16), .bin .add (.t 15) (.c (.i 1)), none⟩,
    ⟨(some 5), .mv (.t 16), none⟩] [])))
def A22R2 : ACode := (.seq (.reg [⟨(some 4), .mv (.c (.b true)), none⟩] []) .ret)
def A22 : ACode := (.seq (.reg [⟨(some 4), .mv (.c (.b false)), none⟩] []) (.seq (.seq (.reg [⟨(some 6), .mv (.t 0), none⟩,
    ⟨(some 7), .len (.t 6), none⟩,
    ⟨(some 8), .mv (.t 1), none⟩,
    ⟨(some 9), .len (.t 8), none⟩,
    ⟨(some 10), .bin .neq (.t 7) (.t 9), none⟩] []) (.cond (.t 10) (.seq (.reg [⟨(some 4), .mv (.c (.b false)), none⟩] []) .ret) .skip)) (.seqa (.reg [⟨(some 5), .mv (.c (.i 0)), none⟩] []) (.blk 0 (.loop A22L1)) [] [] A22R2)))
def V22 : List RV := [.t 4]
theorem m22 : mtcF Try.prog 22 2 A22 V22 = true := by kernel_rfl
def A23M1L1 : ACode := (.seq (.seq (.reg [⟨(some 6), .mv (.t 5), none⟩,
    ⟨(some 7), .mv (.t 0), none⟩,
    ⟨(some 8), .len (.t 7), none⟩,
    ⟨(some 9), .bin .lss (.t 6) (.t 8), none⟩] []) (.cond (.t 9) .skip (.exit 0))) (.seq (.blk 1 (.seq (.reg [⟨(some 12), .mv (.t 0), none⟩,
    ⟨(some 13), .mv (.t 5), none⟩,
    ⟨(some 14), .mv (.t 1), none⟩,
    ⟨(some 15), .idx 1 (.t 12) (.t 13), none⟩,
    ⟨none, .store 1 (.t 15) (.t 14), none⟩] []) (.reg [⟨(some 16), .mv (.t 1), none⟩,
    ⟨(some 17), .bin .add (.t 16) (.c (.i 1)), none⟩,
    ⟨(some 1), .mv (.t 17), none⟩] []))) (.reg [⟨(some 10), .mv (.t 5), none⟩,
    ⟨(some 11), .bin .add (.t 10) (.c (.i 1)), none⟩,
    ⟨(some 5), .mv (.t 11), none⟩] [])))
def A23M1R2 : ACode := (.seq (.reg [⟨(some 18), .mv (.t 1), none⟩,
    ⟨(some 4), .mv (.t 18), none⟩] []) .ret)
def A23M1 : ACode := (.seq (.reg [⟨(some 4), .mv (.c (.i 0)), none⟩] []) (.seqa (.reg [⟨(some 5), .mv (.c (.i 0)), none⟩] []) (.blk 0 (.loop A23M1L1)) [1] [1000000000] A23M1R2))
def V23M1 : List RV := [.t 4]
theorem m23M1 : mtcF Try.prog 23 2 A23M1 V23M1 = true := by kernel_rfl
def A24L1 : ACode := (.seq (.seq (.reg [⟨(some 6), .mv (.t 5), none⟩,
    ⟨(some 7), .mv (.t 0), none⟩,
    ⟨(some 8), .len (.t 7), none⟩,
    ⟨(some 9), .bin .lss (.t 6) (.t 8), none⟩] []) (.cond (.t 9) .skip (.exit 0))) (.seq (.blk 1 (.seq (.seq (.reg [⟨(some 12), .mv (.t 0), none⟩,
    ⟨(some 13), .mv (.t 5), none⟩,
    ⟨(some 14), .idx 1 (.t 12) (.t 13), none⟩,
    ⟨(some 15), .load 1 false (.t 14), none⟩,
    ⟨(some 16), .mv (.t 1), none⟩,
    ⟨(some 17), .bin .neq (.t 15) (.t 16), none⟩] []) (.cond (.t 17) (.seq (.reg [⟨(some 4), .mv (.c (.i (-1))), none⟩] []) .ret) .skip)) (.reg [⟨(some 18), .mv (.t 1), none⟩,
    ⟨(some 19), .bin .add (.t 18) (.c (.i 1)), none⟩,
    ⟨(some 1), .mv (.t 19), none⟩] []))) (.reg [⟨(some 10), .mv (.t 5), none⟩,
    ⟨(some 11), .bin .add (.t 10) (.c (.i 1)), none⟩,
    ⟨(some 5), .mv (.t 11), none⟩] [])))
def A24R2 : ACode := (.seq (.reg [⟨(some 20), .mv (.t 1), none⟩,
    ⟨(some 4), .mv (.t 20), none⟩] []) .ret)
def A24 : ACode := (.seq (.reg [⟨(some 4), .mv (.c (.i 0)), none⟩] []) (.seqa (.reg [⟨(some 5), .mv (.c (.i 0)), none⟩] []) (.blk 0 (.loop A24L1)) [1] [] A24R2))
def V24 : List RV := [.t 4]
theorem m24 : mtcF Try.prog 24 2 A24 V24 = true := by kernel_rfl
def A7R1 : ACode := (.cond (.t 41) (.seq (.reg [⟨(some 4), .mv (.c (.b false)), none⟩] []) .ret) .skip)
def A7R2 : ACode := (.cond (.t 62) (.seq (.reg [⟨(some 4), .mv (.c (.b false)), none⟩] []) .ret) .skip)
def A7R3 : ACode := (.cond (.t 89) (.seq (.reg [⟨(some 4), .mv (.c (.b false)), none⟩] []) .ret) .skip)
def A7 : ACode := (.seq (.reg [⟨(some 4), .mv (.c (.b false)), none⟩] []) (.seq (.seq (.reg [⟨(some 15), .mv (.t 0), none⟩,
    ⟨(some 16), .len (.t 15), none⟩,
    ⟨(some 17), .bin .gtr (.t 16) (.c (.i 1048576)), none⟩] []) (.cond (.t 17) (.seq (.reg [⟨(some 4), .mv (.c (.b true)), none⟩] []) .ret) .skip)) (.seq (.reg [⟨(some 19), .mv (.t 0), none⟩,
    ⟨(some 20), .call 20 [(.t 19)], none⟩,
    ⟨(some 21), .mv (.t 1), none⟩,
    ⟨(some 22), .call 34 [(.t 20), (.t 21)], none⟩,
    ⟨(some 18), .mv (.t 22), none⟩,
    ⟨(some 23), .ext (.t 18) 0, none⟩,
    ⟨(some 24), .ext (.t 18) 1, none⟩,
    ⟨(some 5), .mv (.t 23), none⟩,
    ⟨(some 6), .mv (.t 24), none⟩] [5]) (.seq (.reg [⟨(some 25), .mv (.t 0), none⟩,
    ⟨(some 26), .call 20 [(.t 25)], none⟩,
    ⟨(some 7), .mv (.t 26), none⟩] [7]) (.seq (.reg [⟨(some 28), .mv (.t 7), none⟩,
    ⟨(some 29), .mv (.t 1), none⟩,
    ⟨(some 30), .call 35 [(.t 28), (.t 29)], none⟩,
    ⟨(some 27), .mv (.t 30), none⟩,
    ⟨(some 31), .ext (.t 27) 0, none⟩,
    ⟨(some 32), .ext (.t 27) 1, none⟩,
    ⟨(some 8), .mv (.t 31), none⟩,
    ⟨(some 9), .mv (.t 32), none⟩] [8]) (.seq (.seqr (.reg [⟨(some 33), .mv (.t 8), none⟩,
    ⟨(some 34), .mv (.t 5), none⟩,
    ⟨(some 35), .call 22 [(.t 33), (.t 34)], none⟩,
    ⟨(some 36), .un .not (.t 35), none⟩,
    ⟨(some 37), .mv (.t 36), none⟩,
    ⟨(some 38), .mv (.t 9), (some (37, false))⟩,
    ⟨(some 39), .mv (.t 6), (some (37, false))⟩,
    ⟨(some 40), .beq true (.t 38) (.t 39), (some (37, false))⟩,
    ⟨(some 41), .pick (.t 37) (.c (.b true)) (.t 40), none⟩] []) [0, 1, 5, 6, 7, 8, 9, 41] [5, 7, 8] A7R1) (.seq (.seq (.reg [⟨(some 42), .mv (.t 7), none⟩,
    ⟨(some 43), .mv (.t 0), none⟩,
    ⟨(some 44), .call 20 [(.t 43)], none⟩,
    ⟨(some 45), .call 22 [(.t 42), (.t 44)], none⟩,
    ⟨(some 46), .un .not (.t 45), none⟩] []) (.cond (.t 46) (.seq (.reg [⟨(some 4), .mv (.c (.b false)), none⟩] []) .ret) .skip)) (.seq (.reg [⟨(some 10), .mv (.c (.i 1)), none⟩] []) (.seq (.reg [⟨(some 47), .mv (.t 7), none⟩,
    ⟨(some 48), .mv (.t 10), none⟩,
    ⟨(some 49), .callM 23 [(.t 47), (.t 48)] [7], none⟩,
    ⟨(some 10), .mv (.t 49), none⟩] []) (.seq (.seqr (.reg [⟨(some 50), .mv (.t 10), none⟩,
    ⟨(some 51), .bin .lss (.t 50) (.c (.i 0)), none⟩,
    ⟨(some 52), .mv (.t 51), none⟩,
    ⟨(some 53), .mv (.t 8), (some (52, false))⟩,
    ⟨(some 54), .mv (.t 5), (some (52, false))⟩,
    ⟨(some 55), .call 22 [(.t 53), (.t 54)], (some (52, false))⟩,
    ⟨(some 56), .un .not (.t 55), (some (52, false))⟩,
    ⟨(some 57), .pick (.t 52) (.c (.b true)) (.t 56), none⟩,
    ⟨(some 58), .mv (.t 57), none⟩,
    ⟨(some 59), .mv (.t 9), (some (58, false))⟩,
    ⟨(some 60), .mv (.t 6), (some (58, false))⟩,
    ⟨(some 61), .beq true (.t 59) (.t 60), (some (58, false))⟩,
    ⟨(some 62), .pick (.t 58) (.c (.b true)) (.t 61), none⟩] []) [0, 1, 5, 6, 8, 62] [5, 8] A7R2) (.seq (.reg [⟨(some 11), .mv (.c (.i 1)), none⟩] []) (.seq (.reg [⟨(some 63), .mv (.t 8), none⟩,
    ⟨(some 64), .mv (.t 11), none⟩,
    ⟨(some 65), .callM 23 [(.t 63), (.t 64)] [8], none⟩,
    ⟨(some 11), .mv (.t 65), none⟩] []) (.seq (.reg [⟨(some 12), .mv (.c (.i 1)), none⟩] []) (.seq (.reg [⟨(some 66), .mv (.t 8), none⟩,
    ⟨(some 67), .mv (.t 12), none⟩,
    ⟨(some 68), .call 24 [(.t 66), (.t 67)], none⟩,
    ⟨(some 12), .mv (.t 68), none⟩] []) (.seq (.seq (.reg [⟨(some 69), .mv (.t 12), none⟩,
    ⟨(some 70), .bin .lss (.t 69) (.c (.i 0)), none⟩] []) (.cond (.t 70) (.seq (.reg [⟨(some 4), .mv (.c (.b false)), none⟩] []) .ret) .skip)) (.seq (.seq (.reg [⟨(some 71), .mv (.t 12), none⟩,
    ⟨(some 72), .mv (.t 11), none⟩,
    ⟨(some 73), .bin .neq (.t 71) (.t 72), none⟩] []) (.cond (.t 73) (.seq (.reg [⟨(some 4), .mv (.c (.b false)), none⟩] []) .ret) .skip)) (.seq (.reg [⟨(some 75), .mv (.t 0), none⟩,
    ⟨(some 76), .call 20 [(.t 75)], none⟩,
    ⟨(some 77), .mv (.t 1), none⟩,
    ⟨(some 78), .call 35 [(.t 76), (.t 77)], none⟩,
    ⟨(some 74), .mv (.t 78), none⟩,
    ⟨(some 79), .ext (.t 74) 0, none⟩,
    ⟨(some 80), .ext (.t 74) 1, none⟩,
    ⟨(some 13), .mv (.t 79), none⟩,
    ⟨(some 14), .mv (.t 80), none⟩] [13]) (.seq (.seqr (.reg [⟨(some 81), .mv (.t 13), none⟩,
    ⟨(some 82), .mv (.t 5), none⟩,
    ⟨(some 83), .call 22 [(.t 81), (.t 82)], none⟩,
    ⟨(some 84), .un .not (.t 83), none⟩,
    ⟨(some 85), .mv (.t 84), none⟩,
    ⟨(some 86), .mv (.t 14), (some (85, false))⟩,
    ⟨(some 87), .mv (.t 6), (some (85, false))⟩,
    ⟨(some 88), .beq true (.t 86) (.t 87), (some (85, false))⟩,
    ⟨(some 89), .pick (.t 85) (.c (.b true)) (.t 88), none⟩] []) [8, 11, 89] [8] A7R3) (.seq (.reg [⟨(some 12), .mv (.c (.i 1)), none⟩] []) (.seq (.reg [⟨(some 90), .mv (.t 8), none⟩,
    ⟨(some 91), .mv (.t 12), none⟩,
    ⟨(some 92), .call 24 [(.t 90), (.t 91)], none⟩,
    ⟨(some 12), .mv (.t 92), none⟩] []) (.seq (.seq (.reg [⟨(some 93), .mv (.t 12), none⟩,
    ⟨(some 94), .bin .lss (.t 93) (.c (.i 0)), none⟩] []) (.cond (.t 94) (.seq (.reg [⟨(some 4), .mv (.c (.b false)), none⟩] []) .ret) .skip)) (.seq (.seq (.reg [⟨(some 95), .mv (.t 12), none⟩,
    ⟨(some 96), .mv (.t 11), none⟩,
    ⟨(some 97), .bin .neq (.t 95) (.t 96), none⟩] []) (.cond (.t 97) (.seq (.reg [⟨(some 4), .mv (.c (.b false)), none⟩] []) .ret) .skip)) (.seq (.reg [⟨(some 4), .mv (.c (.b true)), none⟩] []) .ret)))))))))))))))))))))))
def V7 : List RV := [.t 4]
theorem m7 : mtcF Try.prog 7 2 A7 V7 = true := by kernel_rfl
end Vs

