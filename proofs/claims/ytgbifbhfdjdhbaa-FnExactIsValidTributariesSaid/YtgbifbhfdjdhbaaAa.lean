/-
  Part of the proof that the law FnExactIsValidTributaries returns true at every input; no condition beside the row's own.
-/
import Derived.Test.YtgbifbhfdjdhbaaFd
import Derived.Test.YtgbifbhfdjdhbaaChecked
import Derived.KernelRfl
set_option linter.unusedSimpArgs false
set_option linter.unusedVariables false
namespace Vs
open Go
structure TTributary where
  From : Int
  To : Int
  Rate : Int
  deriving DecidableEq
def e_TTributary (f : Fl) (x : TTributary) : AV := .agg [.i x.From, .i x.To, .i x.Rate]
theorem e_TTributary_nrm (f : Fl) (x : TTributary) : (e_TTributary f x).nrm = e_TTributary .o x := by simp [e_TTributary, nrm_sc, nrm_lst, nrm_agg, nrm_sc]
theorem e_TTributary_nrmm (f : Fl) (xs : List TTributary) : (xs.map (e_TTributary f)).map AV.nrm = xs.map (e_TTributary .o) := by simp [e_TTributary_nrm]
theorem e_TTributary_als (f : Fl) (x : TTributary) : (e_TTributary f x).als = e_TTributary f.als x := by simp [e_TTributary, als_sc, als_lst, als_agg, nrm_sc]
theorem e_TTributary_alsm (f : Fl) (xs : List TTributary) : (xs.map (e_TTributary f)).map AV.als = xs.map (e_TTributary f.als) := by simp [e_TTributary_als]
theorem e_TTributary_fix (f : Fl) (x : TTributary) : (e_TTributary f x).fix = e_TTributary f.fix x := by simp [e_TTributary, fix_sc, fix_lst, fix_agg, nrm_sc]
theorem e_TTributary_fixm (f : Fl) (xs : List TTributary) : (xs.map (e_TTributary f)).map AV.fix = xs.map (e_TTributary f.fix) := by simp [e_TTributary_fix]
def M_laws_szTributaryS (aZ0 : List TTributary) (leftZ0 : Int) : Option Int :=
  cond (decide ((IntKind.wrap .i64 (leftZ0 - (aZ0.length : Int))) < 0)) (some (-1)) (some (IntKind.wrap .i64 (leftZ0 - (aZ0.length : Int))))
def M_laws_toTributary (aZ0 : TTributary) : Option TTributary :=
  some (⟨aZ0.From, aZ0.To, aZ0.Rate⟩ : TTributary)
def M_laws_toTributarySL1 (aZ0 : List TTributary) (sZ4 : Int × List TTributary) : Option ((Int × List TTributary) ⊕ (List TTributary)) :=
  cond (decide (sZ4.1 < (aZ0.length : Int))) ((geti aZ0 sZ4.1).bind fun yZ6 => (M_laws_toTributary yZ6).bind fun rZ7 => (chk sZ4.1 sZ4.2.length).bind fun kZ8 => (sZ4.2[kZ8]?).bind fun yZ9 => bnd (sZ4.2.set kZ8 rZ7) fun lZ10 => some (.inl (IntKind.wrap .i64 (sZ4.1 + 1), lZ10))) (some (.inr sZ4.2))
def M_laws_toTributaryS (aZ0 : List TTributary) : Option (List TTributary) :=
  (grd (0 ≤ (aZ0.length : Int) ∧ (aZ0.length : Int) ≤ (aZ0.length : Int) ∧ (aZ0.length : Int) * ((24 : Nat) : Int) ≤ 140737488355328 ∧ (aZ0.length : Int) ≤ 9223372036854775807)).bind fun uZ1 => bnd (List.replicate (aZ0.length : Int).toNat (⟨0, 0, 0⟩ : TTributary)) fun lZ2 => (iter (M_laws_toTributarySL1 aZ0) N0 (0, lZ2)).bind fun oZ12 => some oZ12
def M_spec_l1In (xZ0 : Int) (aZ0 : Int) (bZ0 : Int) : Option Bool :=
  cond (decide (aZ0 ≤ xZ0)) (some (decide (xZ0 ≤ bZ0))) (some false)
def M_spec_l18Pair (aZ0 : Int) (bZ0 : Int) (nodesZ0 : Int) : Option Bool :=
  (M_spec_l1In aZ0 0 (IntKind.wrap .i64 (nodesZ0 - 1))).bind fun rZ1 => cond (rZ1) ((M_spec_l1In bZ0 0 (IntKind.wrap .i64 (nodesZ0 - 1))).bind fun rZ3 => cond (rZ3) (some (aZ0 != bZ0)) (some false)) (some false)
def M_spec_l18GoodL1 (listZ0 : List TTributary) (nodesZ0 : Int) (sZ1 : Int) : Option (Int ⊕ (Unit ⊕ Bool)) :=
  (cond (decide (sZ1 < (listZ0.length : Int))) (some (decide (sZ1 ≤ 12))) (some false) : Option Bool).bind fun oZ3 => cond (oZ3) (((geti listZ0 sZ1).bind fun yZ5 => (M_spec_l18Pair yZ5.From yZ5.To nodesZ0).bind fun rZ6 => cond (!rZ6) (some true) ((M_spec_l1In yZ5.Rate 1 1000).bind fun rZ8 => some (!rZ8)) : Option Bool).bind fun oZ9 => cond (oZ9) (some (.inr (.inr false))) (some (.inl (IntKind.wrap .i64 (sZ1 + 1))))) (some (.inr (.inl ())))
def M_spec_l18Good (listZ0 : List TTributary) (nodesZ0 : Int) : Option Bool :=
  (iter (M_spec_l18GoodL1 listZ0 nodesZ0) N0 0).bind fun oZ11 => (match oZ11 with | .inl vZ12 => (M_spec_l1In nodesZ0 2 8).bind fun rZ14 => cond (rZ14) (some (decide ((listZ0.length : Int) ≤ 12))) (some false) | .inr xZ13 => some xZ13)
def M_spec_IsValidTributaries (listZ0 : List TTributary) (nodesZ0 : Int) : Option Bool :=
  (M_spec_l18Good listZ0 nodesZ0).bind fun rZ1 => some rZ1
def M_impl_within (nZ0 : Int) (lowZ0 : Int) (highZ0 : Int) : Option Bool :=
  cond (decide (lowZ0 ≤ nZ0)) (some (decide (nZ0 ≤ highZ0))) (some false)
def M_slices_IndexFunc_TributaryL1 (sZ0 : List TTributary) (fZ0 : TTributary → Option Bool) (sZ1 : Int) : Option (Int ⊕ (Unit ⊕ Int)) :=
  cond (decide (sZ1 < (sZ0.length : Int))) ((geti sZ0 sZ1).bind fun yZ3 => (fZ0 yZ3).bind fun rZ4 => cond (rZ4) (some (.inr (.inr sZ1))) (some (.inl (IntKind.wrap .i64 (sZ1 + 1))))) (some (.inr (.inl ())))
def M_slices_IndexFunc_Tributary (sZ0 : List TTributary) (fZ0 : TTributary → Option Bool) : Option Int :=
  (iter (M_slices_IndexFunc_TributaryL1 sZ0 fZ0) N0 0).bind fun oZ6 => (match oZ6 with | .inl vZ7 => some (-1) | .inr xZ8 => some xZ8)
def M_slices_ContainsFunc_Tributary (sZ0 : List TTributary) (fZ0 : TTributary → Option Bool) : Option Bool :=
  (M_slices_IndexFunc_Tributary sZ0 fZ0).bind fun rZ1 => some (decide (0 ≤ rZ1))
def M_impl_areEnds (aZ0 : Int) (bZ0 : Int) (nodesZ0 : Int) : Option Bool :=
  (M_impl_within aZ0 0 (IntKind.wrap .i64 (nodesZ0 - 1))).bind fun rZ1 => cond (rZ1) ((M_impl_within bZ0 0 (IntKind.wrap .i64 (nodesZ0 - 1))).bind fun rZ3 => cond (rZ3) (some (aZ0 != bZ0)) (some false)) (some false)
def M_impl_IsValidTributaries_c1 (tZ0 : TTributary) (p1Z0 : Int) : Option Bool :=
  (M_impl_areEnds tZ0.From tZ0.To p1Z0).bind fun rZ1 => cond (!rZ1) (some true) ((M_impl_within tZ0.Rate 1 1000).bind fun rZ3 => some (!rZ3))
def M_impl_IsValidTributaries (listZ0 : List TTributary) (nodesZ0 : Int) : Option Bool :=
  (M_impl_within nodesZ0 2 8).bind fun rZ1 => cond (rZ1) (cond (decide ((listZ0.length : Int) ≤ 12)) ((M_slices_ContainsFunc_Tributary listZ0 (fun x0 => M_impl_IsValidTributaries_c1 x0 nodesZ0)).bind fun rZ4 => some (!rZ4)) (some false)) (some false)
def M_laws_eqTributary (aZ0 : TTributary) (bZ0 : TTributary) : Option Bool :=
  cond (aZ0.From != bZ0.From) (some false) (cond (aZ0.To != bZ0.To) (some false) (cond (aZ0.Rate != bZ0.Rate) (some false) (some true)))
def M_laws_eqTributarySL1 (aZ0 : List TTributary) (bZ0 : List TTributary) (sZ2 : Int) : Option (Int ⊕ (Unit ⊕ Bool)) :=
  cond (decide (sZ2 < (aZ0.length : Int))) ((geti aZ0 sZ2).bind fun yZ4 => (geti bZ0 sZ2).bind fun yZ5 => (M_laws_eqTributary yZ4 yZ5).bind fun rZ6 => cond (!rZ6) (some (.inr (.inr false))) (some (.inl (IntKind.wrap .i64 (sZ2 + 1))))) (some (.inr (.inl ())))
def M_laws_eqTributaryS (aZ0 : List TTributary) (bZ0 : List TTributary) : Option Bool :=
  cond ((aZ0.length : Int) != (bZ0.length : Int)) (some false) ((iter (M_laws_eqTributarySL1 aZ0 bZ0) N0 0).bind fun oZ8 => (match oZ8 with | .inl vZ9 => some true | .inr xZ10 => some xZ10))
def M_laws_FnExactIsValidTributaries (aListZ0 : List TTributary) (aNodesZ0 : Int) : Option Bool :=
  (M_laws_szTributaryS aListZ0 1048576).bind fun rZ1 => cond (decide (rZ1 < 0)) (some true) ((M_laws_toTributaryS aListZ0).bind fun rZ3 => (M_spec_IsValidTributaries rZ3 aNodesZ0).bind fun rZ4 => (M_laws_toTributaryS aListZ0).bind fun rZ5 => (M_impl_IsValidTributaries rZ5 aNodesZ0).bind fun rZ6 => cond (!(rZ6 == rZ4)) (some false) ((M_laws_toTributaryS aListZ0).bind fun rZ8 => (M_laws_eqTributaryS rZ5 rZ8).bind fun rZ9 => cond (!rZ9) (some false) (some true)))
end Vs

namespace Vs
open Go Go.Proofs
theorem hmix : Try.prog.follows .mixedOrders = true := Try.checked.mixed
def A14 : ACode := (.seq (.reg [⟨(some 4), .mv (.c (.i 0)), none⟩] []) (.seq (.reg [⟨(some 5), .mv (.t 1), none⟩,
    ⟨(some 6), .mv (.t 0), none⟩,
    ⟨(some 7), .len (.t 6), none⟩,
    ⟨(some 8), .bin .sub (.t 5) (.t 7), none⟩,
    ⟨(some 1), .mv (.t 8), none⟩] []) (.seq (.seq (.reg [⟨(some 9), .mv (.t 1), none⟩,
    ⟨(some 10), .bin .lss (.t 9) (.c (.i 0)), none⟩] []) (.cond (.t 10) (.seq (.reg [⟨(some 4), .mv (.c (.i (-1))), none⟩] []) .ret) .skip)) (.seq (.reg [⟨(some 11), .mv (.t 1), none⟩,
    ⟨(some 4), .mv (.t 11), none⟩] []) .ret))))
def V14 : List RV := [.t 4]
theorem m14 : mtcF Try.prog 14 2 A14 V14 = true := by kernel_rfl
def A28 : ACode := (.seq (.reg [⟨(some 1), .box 3 (.t 0), none⟩,
    ⟨(some 2), .alloc (.agg [.i 0, .i 0, .i 0]), none⟩] []) (.seq (.reg [⟨(some 3), .alloc (.agg [.i 0, .i 0, .i 0]), none⟩] []) (.seq (.reg [⟨(some 4), .fad 0 (.t 1), none⟩,
    ⟨(some 5), .load 1 false (.t 4), none⟩,
    ⟨(some 6), .fad 0 (.t 3), none⟩,
    ⟨none, .store 1 (.t 6) (.t 5), none⟩] []) (.seq (.reg [⟨(some 7), .fad 1 (.t 1), none⟩,
    ⟨(some 8), .load 1 false (.t 7), none⟩,
    ⟨(some 9), .fad 1 (.t 3), none⟩,
    ⟨none, .store 1 (.t 9) (.t 8), none⟩] []) (.seq (.reg [⟨(some 10), .fad 2 (.t 1), none⟩,
    ⟨(some 11), .load 1 false (.t 10), none⟩,
    ⟨(some 12), .fad 2 (.t 3), none⟩,
    ⟨none, .store 1 (.t 12) (.t 11), none⟩] []) (.seq (.reg [⟨(some 13), .load 3 true (.t 3), none⟩,
    ⟨none, .store 3 (.t 2) (.t 13), none⟩] []) .ret))))))
def V28 : List RV := [.c 2 3 true]
theorem m28 : mtcF Try.prog 28 1 A28 V28 = true := by kernel_rfl
def A16L1 : ACode := (.seq (.seq (.reg [⟨(some 8), .mv (.t 4), none⟩,
    ⟨(some 9), .mv (.t 0), none⟩,
    ⟨(some 10), .len (.t 9), none⟩,
    ⟨(some 11), .bin .lss (.t 8) (.t 10), none⟩] []) (.cond (.t 11) .skip (.exit 0))) (.seq (.blk 1 (.reg [⟨(some 14), .mv (.t 3), none⟩,
    ⟨(some 15), .mv (.t 4), none⟩,
    ⟨(some 16), .mv (.t 0), none⟩,
    ⟨(some 17), .mv (.t 4), none⟩,
    ⟨(some 18), .idx 3 (.t 16) (.t 17), none⟩,
    ⟨(some 19), .load 3 true (.t 18), none⟩,
    ⟨(some 20), .call 28 [(.t 19)], none⟩,
    ⟨(some 21), .idx 3 (.t 14) (.t 15), none⟩,
    ⟨none, .store 3 (.t 21) (.t 20), none⟩] [])) (.reg [⟨(some 12), .mv (.t 4), none⟩,
    ⟨(some 13), .bin .add (.t 12) (.c (.i 1)), none⟩,
    ⟨(some 4), .mv (.t 13), none⟩] [])))
def A16R2 : ACode := (.seq (.reg [⟨(some 22), .mv (.t 3), none⟩,
    ⟨(some 2), .mv (.t 22), none⟩] [2]) .ret)
def A16 : ACode := (.seq (.reg [⟨(some 2), .mv (.c (.lst .u 3 [])), none⟩] [2]) (.seq (.reg [⟨(some 5), .mv (.t 0), none⟩,
    ⟨(some 6), .len (.t 5), none⟩,
    ⟨(some 7), .mks 3 (.agg [.i 0, .i 0, .i 0]) 24 (.t 6) (.t 6), none⟩,
    ⟨(some 3), .mv (.t 7), none⟩] [3]) (.seqa (.reg [⟨(some 4), .mv (.c (.i 0)), none⟩] []) (.blk 0 (.loop A16L1)) [3] [3] A16R2)))
def V16 : List RV := [.t 2]
theorem m16 : mtcF Try.prog 16 1 A16 V16 = true := by kernel_rfl
def A67 : ACode := (.seq (.reg [⟨(some 6), .mv (.c (.b false)), none⟩] []) (.seq (.reg [⟨(some 7), .mv (.t 0), none⟩,
    ⟨(some 8), .mv (.t 1), none⟩,
    ⟨(some 9), .bin .geq (.t 7) (.t 8), none⟩,
    ⟨(some 10), .mv (.t 9), none⟩,
    ⟨(some 11), .mv (.t 0), (some (10, true))⟩,
    ⟨(some 12), .mv (.t 2), (some (10, true))⟩,
    ⟨(some 13), .bin .leq (.t 11) (.t 12), (some (10, true))⟩,
    ⟨(some 14), .pick (.t 10) (.t 13) (.c (.b false)), none⟩,
    ⟨(some 6), .mv (.t 14), none⟩] []) .ret))
def V67 : List RV := [.t 6]
theorem m67 : mtcF Try.prog 67 3 A67 V67 = true := by kernel_rfl
def A95 : ACode := (.seq (.reg [⟨(some 6), .mv (.c (.b false)), none⟩] []) (.seq (.reg [⟨(some 7), .mv (.t 0), none⟩,
    ⟨(some 8), .mv (.t 2), none⟩,
    ⟨(some 9), .bin .sub (.t 8) (.c (.i 1)), none⟩,
    ⟨(some 10), .call 67 [(.t 7), (.c (.i 0)), (.t 9)], none⟩,
    ⟨(some 11), .mv (.t 10), none⟩,
    ⟨(some 12), .mv (.t 1), (some (11, true))⟩,
    ⟨(some 13), .mv (.t 2), (some (11, true))⟩,
    ⟨(some 14), .bin .sub (.t 13) (.c (.i 1)), (some (11, true))⟩,
    ⟨(some 15), .call 67 [(.t 12), (.c (.i 0)), (.t 14)], (some (11, true))⟩,
    ⟨(some 16), .pick (.t 11) (.t 15) (.c (.b false)), none⟩,
    ⟨(some 17), .mv (.t 16), none⟩,
    ⟨(some 18), .mv (.t 0), (some (17, true))⟩,
    ⟨(some 19), .mv (.t 1), (some (17, true))⟩,
    ⟨(some 20), .bin .neq (.t 18) (.t 19), (some (17, true))⟩,
    ⟨(some 21), .pick (.t 17) (.t 20) (.c (.b false)), none⟩,
    ⟨(some 6), .mv (.t 21), none⟩] []) .ret))
def V95 : List RV := [.t 6]
theorem m95 : mtcF Try.prog 95 3 A95 V95 = true := by kernel_rfl
def A54R1 : ACode := (.cond (.t 13) .skip (.exit 0))
def A54R2 : ACode := (.cond (.t 37) (.seq (.reg [⟨(some 4), .mv (.c (.b false)), none⟩] []) .ret) .skip)
def A54L3 : ACode := (.seq (.seqr (.reg [⟨(some 6), .mv (.t 5), none⟩,
    ⟨(some 7), .mv (.t 0), none⟩,
    ⟨(some 8), .len (.t 7), none⟩,
    ⟨(some 9), .bin .lss (.t 6) (.t 8), none⟩,
    ⟨(some 10), .mv (.t 9), none⟩,
    ⟨(some 11), .mv (.t 5), (some (10, true))⟩,
    ⟨(some 12), .bin .leq (.t 11) (.c (.i 12)), (some (10, true))⟩,
    ⟨(some 13), .pick (.t 10) (.t 12) (.c (.b false)), none⟩] []) [0, 1, 5, 13] [] A54R1) (.seq (.blk 1 (.seqr (.drw [⟨(some 16), .mv (.t 0), none⟩,
    ⟨(some 17), .mv (.t 5), none⟩,
    ⟨(some 18), .idx 3 (.t 16) (.t 17), none⟩,
    ⟨(some 19), .fad 0 (.t 18), none⟩,
    ⟨(some 20), .load 1 false (.t 19), none⟩,
    ⟨(some 21), .mv (.t 0), none⟩,
    ⟨(some 22), .mv (.t 5), none⟩,
    ⟨(some 23), .idx 3 (.t 21) (.t 22), none⟩,
    ⟨(some 24), .fad 1 (.t 23), none⟩,
    ⟨(some 25), .load 1 false (.t 24), none⟩,
    ⟨(some 26), .mv (.t 1), none⟩,
    ⟨(some 27), .call 95 [(.t 20), (.t 25), (.t 26)], none⟩,
    ⟨(some 28), .un .not (.t 27), none⟩,
    ⟨(some 29), .mv (.t 28), none⟩,
    ⟨(some 30), .mv (.t 0), (some (29, false))⟩,
    ⟨(some 31), .mv (.t 5), (some (29, false))⟩,
    ⟨(some 32), .idx 3 (.t 30) (.t 31), (some (29, false))⟩,
    ⟨(some 33), .fad 2 (.t 32), (some (29, false))⟩,
    ⟨(some 34), .load 1 false (.t 33), (some (29, false))⟩,
    ⟨(some 35), .call 67 [(.t 34), (.c (.i 1)), (.c (.i 1000))], (some (29, false))⟩,
    ⟨(some 36), .un .not (.t 35), (some (29, false))⟩,
    ⟨(some 37), .pick (.t 29) (.c (.b true)) (.t 36), none⟩] []) [0, 1, 5, 37] [] A54R2)) (.reg [⟨(some 14), .mv (.t 5), none⟩,
    ⟨(some 15), .bin .add (.t 14) (.c (.i 1)), none⟩,
    ⟨(some 5), .mv (.t 15), none⟩] [])))
def A54R4 : ACode := (.seq (.reg [⟨(some 38), .mv (.t 1), none⟩,
    ⟨(some 39), .call 67 [(.t 38), (.c (.i 2)), (.c (.i 8))], none⟩,
    ⟨(some 40), .mv (.t 39), none⟩,
    ⟨(some 41), .mv (.t 0), (some (40, true))⟩,
    ⟨(some 42), .len (.t 41), (some (40, true))⟩,
    ⟨(some 43), .bin .leq (.t 42) (.c (.i 12)), (some (40, true))⟩,
    ⟨(some 44), .pick (.t 40) (.t 43) (.c (.b false)), none⟩,
    ⟨(some 4), .mv (.t 44), none⟩] []) .ret)
def A54 : ACode := (.seq (.reg [⟨(some 4), .mv (.c (.b false)), none⟩] []) (.seqa (.reg [⟨(some 5), .mv (.c (.i 0)), none⟩] []) (.blk 0 (.loop A54L3)) [0, 1] [] A54R4))
def V54 : List RV := [.t 4]
theorem m54 : mtcF Try.prog 54 2 A54 V54 = true := by kernel_rfl
def A15 : ACode := (.seq (.reg [⟨(some 4), .mv (.c (.b false)), none⟩] []) (.seq (.reg [⟨(some 5), .mv (.t 0), none⟩,
    ⟨(some 6), .mv (.t 1), none⟩,
    ⟨(some 7), .call 54 [(.t 5), (.t 6)], none⟩,
    ⟨(some 4), .mv (.t 7), none⟩] []) .ret))
def V15 : List RV := [.t 4]
theorem m15 : mtcF Try.prog 15 2 A15 V15 = true := by kernel_rfl
def A55 : ACode := (.seq (.reg [⟨(some 6), .mv (.c (.b false)), none⟩] []) (.seq (.reg [⟨(some 7), .mv (.t 1), none⟩,
    ⟨(some 8), .mv (.t 0), none⟩,
    ⟨(some 9), .bin .leq (.t 7) (.t 8), none⟩,
    ⟨(some 10), .mv (.t 9), none⟩,
    ⟨(some 11), .mv (.t 0), (some (10, true))⟩,
    ⟨(some 12), .mv (.t 2), (some (10, true))⟩,
    ⟨(some 13), .bin .leq (.t 11) (.t 12), (some (10, true))⟩,
    ⟨(some 14), .pick (.t 10) (.t 13) (.c (.b false)), none⟩,
    ⟨(some 6), .mv (.t 14), none⟩] []) .ret))
def V55 : List RV := [.t 6]
theorem m55 : mtcF Try.prog 55 3 A55 V55 = true := by kernel_rfl
def A96L1 : ACode := (.seq (.reg [⟨(some 9), .bin .lss (.t 8) (.t 7), none⟩] []) (.seq (.cond (.t 9) .skip (.exit 0)) (.seq (.blk 1 (.seq (.reg [⟨(some 10), .mv (.t 8), none⟩,
    ⟨(some 5), .mv (.t 10), none⟩] []) (.seq (.reg [⟨(some 11), .mv (.t 1), none⟩,
    ⟨(some 12), .mv (.t 0), none⟩,
    ⟨(some 13), .mv (.t 5), none⟩,
    ⟨(some 14), .idx 3 (.t 12) (.t 13), none⟩,
    ⟨(some 15), .load 3 true (.t 14), none⟩,
    ⟨(some 16), .dyn (.t 11) [(.t 15)], none⟩] []) (.cond (.t 16) (.seq (.reg [⟨(some 17), .mv (.t 5), none⟩,
    ⟨(some 4), .mv (.t 17), none⟩] []) .ret) .skip)))) (.reg [⟨(some 18), .bin .add (.t 8) (.c (.i 1)), none⟩,
    ⟨(some 8), .mv (.t 18), none⟩] []))))
def A96R2 : ACode := (.seq (.reg [⟨(some 4), .mv (.c (.i (-1))), none⟩] []) .ret)
def A96 : ACode := (.seq (.reg [⟨(some 4), .mv (.c (.i 0)), none⟩] []) (.seqa (.reg [⟨(some 6), .mv (.t 0), none⟩,
    ⟨(some 7), .len (.t 6), none⟩,
    ⟨(some 8), .mv (.c (.i 0)), none⟩] []) (.blk 0 (.loop A96L1)) [] [] A96R2))
def V96 : List RV := [.t 4]
theorem m96 : mtcF Try.prog 96 2 A96 V96 = true := by kernel_rfl
def A56 : ACode := (.seq (.reg [⟨(some 4), .mv (.c (.b false)), none⟩] []) (.seq (.reg [⟨(some 5), .mv (.t 0), none⟩,
    ⟨(some 6), .mv (.t 1), none⟩,
    ⟨(some 7), .call 96 [(.t 5), (.t 6)], none⟩,
    ⟨(some 8), .bin .geq (.t 7) (.c (.i 0)), none⟩,
    ⟨(some 4), .mv (.t 8), none⟩] []) .ret))
def V56 : List RV := [.t 4]
theorem m56 : mtcF Try.prog 56 2 A56 V56 = true := by kernel_rfl
def A58 : ACode := (.seq (.reg [⟨(some 6), .mv (.c (.b false)), none⟩] []) (.seq (.reg [⟨(some 7), .mv (.t 0), none⟩,
    ⟨(some 8), .mv (.t 2), none⟩,
    ⟨(some 9), .bin .sub (.t 8) (.c (.i 1)), none⟩,
    ⟨(some 10), .call 55 [(.t 7), (.c (.i 0)), (.t 9)], none⟩,
    ⟨(some 11), .mv (.t 10), none⟩,
    ⟨(some 12), .mv (.t 1), (some (11, true))⟩,
    ⟨(some 13), .mv (.t 2), (some (11, true))⟩,
    ⟨(some 14), .bin .sub (.t 13) (.c (.i 1)), (some (11, true))⟩,
    ⟨(some 15), .call 55 [(.t 12), (.c (.i 0)), (.t 14)], (some (11, true))⟩,
    ⟨(some 16), .pick (.t 11) (.t 15) (.c (.b false)), none⟩,
    ⟨(some 17), .mv (.t 16), none⟩,
    ⟨(some 18), .mv (.t 0), (some (17, true))⟩,
    ⟨(some 19), .mv (.t 1), (some (17, true))⟩,
    ⟨(some 20), .bin .neq (.t 18) (.t 19), (some (17, true))⟩,
    ⟨(some 21), .pick (.t 17) (.t 20) (.c (.b false)), none⟩,
    ⟨(some 6), .mv (.t 21), none⟩] []) .ret))
def V58 : List RV := [.t 6]
theorem m58 : mtcF Try.prog 58 3 A58 V58 = true := by kernel_rfl
def A57 : ACode := (.seq (.reg [⟨(some 2), .box 3 (.t 0), none⟩,
    ⟨(some 3), .mv (.c (.b false)), none⟩] []) (.seq (.reg [⟨(some 4), .fad 0 (.t 2), none⟩,
    ⟨(some 5), .load 1 false (.t 4), none⟩,
    ⟨(some 6), .fad 1 (.t 2), none⟩,
    ⟨(some 7), .load 1 false (.t 6), none⟩,
    ⟨(some 8), .load 1 false (.t 1), none⟩,
    ⟨(some 9), .call 58 [(.t 5), (.t 7), (.t 8)], none⟩,
    ⟨(some 10), .un .not (.t 9), none⟩,
    ⟨(some 11), .mv (.t 10), none⟩,
    ⟨(some 12), .fad 2 (.t 2), (some (11, false))⟩,
    ⟨(some 13), .load 1 false (.t 12), (some (11, false))⟩,
    ⟨(some 14), .call 55 [(.t 13), (.c (.i 1)), (.c (.i 1000))], (some (11, false))⟩,
    ⟨(some 15), .un .not (.t 14), (some (11, false))⟩,
    ⟨(some 16), .pick (.t 11) (.c (.b true)) (.t 15), none⟩,
    ⟨(some 3), .mv (.t 16), none⟩] []) .ret))
def V57 : List RV := [.t 3]
theorem m57 : mtcF Try.prog 57 2 A57 V57 = true := by kernel_rfl
def A17 : ACode := (.seq (.reg [⟨(some 3), .box 1 (.t 1), none⟩,
    ⟨(some 4), .mv (.c (.b false)), none⟩] []) (.seq (.reg [⟨(some 5), .load 1 false (.t 3), none⟩,
    ⟨(some 6), .call 55 [(.t 5), (.c (.i 2)), (.c (.i 8))], none⟩,
    ⟨(some 7), .mv (.t 6), none⟩,
    ⟨(some 8), .mv (.t 0), (some (7, true))⟩,
    ⟨(some 9), .len (.t 8), (some (7, true))⟩,
    ⟨(some 10), .bin .leq (.t 9) (.c (.i 12)), (some (7, true))⟩,
    ⟨(some 11), .pick (.t 7) (.t 10) (.c (.b false)), none⟩,
    ⟨(some 12), .mv (.t 11), none⟩,
    ⟨(some 13), .mv (.t 0), (some (12, true))⟩,
    ⟨(some 14), .mkf 57 [(.t 3)], (some (12, true))⟩,
    ⟨(some 15), .call 56 [(.t 13), (.t 14)], (some (12, true))⟩,
    ⟨(some 16), .un .not (.t 15), (some (12, true))⟩,
    ⟨(some 17), .pick (.t 12) (.t 16) (.c (.b false)), none⟩,
    ⟨(some 4), .mv (.t 17), none⟩] []) .ret))
def V17 : List RV := [.t 4]
theorem m17 : mtcF Try.prog 17 2 A17 V17 = true := by kernel_rfl
def A59 : ACode := (.seq (.reg [⟨(some 2), .box 3 (.t 0), none⟩,
    ⟨(some 3), .box 3 (.t 1), none⟩,
    ⟨(some 4), .mv (.c (.b false)), none⟩] []) (.seq (.seq (.reg [⟨(some 5), .fad 0 (.t 2), none⟩,
    ⟨(some 6), .load 1 false (.t 5), none⟩,
    ⟨(some 7), .fad 0 (.t 3), none⟩,
    ⟨(some 8), .load 1 false (.t 7), none⟩,
    ⟨(some 9), .bin .neq (.t 6) (.t 8), none⟩] []) (.cond (.t 9) (.seq (.reg [⟨(some 4), .mv (.c (.b false)), none⟩] []) .ret) .skip)) (.seq (.seq (.reg [⟨(some 10), .fad 1 (.t 2), none⟩,
    ⟨(some 11), .load 1 false (.t 10), none⟩,
    ⟨(some 12), .fad 1 (.t 3), none⟩,
    ⟨(some 13), .load 1 false (.t 12), none⟩,
    ⟨(some 14), .bin .neq (.t 11) (.t 13), none⟩] []) (.cond (.t 14) (.seq (.reg [⟨(some 4), .mv (.c (.b false)), none⟩] []) .ret) .skip)) (.seq (.seq (.reg [⟨(some 15), .fad 2 (.t 2), none⟩,
    ⟨(some 16), .load 1 false (.t 15), none⟩,
    ⟨(some 17), .fad 2 (.t 3), none⟩,
    ⟨(some 18), .load 1 false (.t 17), none⟩,
    ⟨(some 19), .bin .neq (.t 16) (.t 18), none⟩] []) (.cond (.t 19) (.seq (.reg [⟨(some 4), .mv (.c (.b false)), none⟩] []) .ret) .skip)) (.seq (.reg [⟨(some 4), .mv (.c (.b true)), none⟩] []) .ret)))))
def V59 : List RV := [.t 4]
theorem m59 : mtcF Try.prog 59 2 A59 V59 = true := by kernel_rfl
def A18L1 : ACode := (.seq (.seq (.reg [⟨(some 11), .mv (.t 5), none⟩,
    ⟨(some 12), .mv (.t 0), none⟩,
    ⟨(some 13), .len (.t 12), none⟩,
    ⟨(some 14), .bin .lss (.t 11) (.t 13), none⟩] []) (.cond (.t 14) .skip (.exit 0))) (.seq (.blk 1 (.seq (.drw [⟨(some 17), .mv (.t 0), none⟩,
    ⟨(some 18), .mv (.t 5), none⟩,
    ⟨(some 19), .idx 3 (.t 17) (.t 18), none⟩,
    ⟨(some 20), .load 3 true (.t 19), none⟩,
    ⟨(some 21), .mv (.t 1), none⟩,
    ⟨(some 22), .mv (.t 5), none⟩,
    ⟨(some 23), .idx 3 (.t 21) (.t 22), none⟩,
    ⟨(some 24), .load 3 true (.t 23), none⟩,
    ⟨(some 25), .call 59 [(.t 20), (.t 24)], none⟩,
    ⟨(some 26), .un .not (.t 25), none⟩] []) (.cond (.t 26) (.seq (.reg [⟨(some 4), .mv (.c (.b false)), none⟩] []) .ret) .skip))) (.reg [⟨(some 15), .mv (.t 5), none⟩,
    ⟨(some 16), .bin .add (.t 15) (.c (.i 1)), none⟩,
    ⟨(some 5), .mv (.t 16), none⟩] [])))
def A18R2 : ACode := (.seq (.reg [⟨(some 4), .mv (.c (.b true)), none⟩] []) .ret)
def A18 : ACode := (.seq (.reg [⟨(some 4), .mv (.c (.b false)), none⟩] []) (.seq (.seq (.reg [⟨(some 6), .mv (.t 0), none⟩,
    ⟨(some 7), .len (.t 6), none⟩,
    ⟨(some 8), .mv (.t 1), none⟩,
    ⟨(some 9), .len (.t 8), none⟩,
    ⟨(some 10), .bin .neq (.t 7) (.t 9), none⟩] []) (.cond (.t 10) (.seq (.reg [⟨(some 4), .mv (.c (.b false)), none⟩] []) .ret) .skip)) (.seqa (.reg [⟨(some 5), .mv (.c (.i 0)), none⟩] []) (.blk 0 (.loop A18L1)) [] [] A18R2)))
def V18 : List RV := [.t 4]
theorem m18 : mtcF Try.prog 18 2 A18 V18 = true := by kernel_rfl
def A3 : ACode := (.seq (.reg [⟨(some 4), .mv (.c (.b false)), none⟩] []) (.seq (.reg [⟨(some 5), .mv (.c (.i 1048576)), none⟩] []) (.seq (.reg [⟨(some 9), .mv (.t 0), none⟩,
    ⟨(some 10), .mv (.t 5), none⟩,
    ⟨(some 11), .call 14 [(.t 9), (.t 10)], none⟩,
    ⟨(some 5), .mv (.t 11), none⟩] []) (.seq (.seq (.reg [⟨(some 12), .mv (.t 5), none⟩,
    ⟨(some 13), .bin .lss (.t 12) (.c (.i 0)), none⟩] []) (.cond (.t 13) (.seq (.reg [⟨(some 4), .mv (.c (.b true)), none⟩] []) .ret) .skip)) (.seq (.reg [⟨(some 14), .mv (.t 0), none⟩,
    ⟨(some 15), .call 16 [(.t 14)], none⟩,
    ⟨(some 16), .mv (.t 1), none⟩,
    ⟨(some 17), .call 15 [(.t 15), (.t 16)], none⟩,
    ⟨(some 6), .mv (.t 17), none⟩] []) (.seq (.reg [⟨(some 18), .mv (.t 0), none⟩,
    ⟨(some 19), .call 16 [(.t 18)], none⟩,
    ⟨(some 7), .mv (.t 19), none⟩] [7]) (.seq (.reg [⟨(some 20), .mv (.t 7), none⟩,
    ⟨(some 21), .mv (.t 1), none⟩,
    ⟨(some 22), .call 17 [(.t 20), (.t 21)], none⟩,
    ⟨(some 8), .mv (.t 22), none⟩] []) (.seq (.seq (.reg [⟨(some 23), .mv (.t 8), none⟩,
    ⟨(some 24), .mv (.t 6), none⟩,
    ⟨(some 25), .beq true (.t 23) (.t 24), none⟩] []) (.cond (.t 25) (.seq (.reg [⟨(some 4), .mv (.c (.b false)), none⟩] []) .ret) .skip)) (.seq (.seq (.reg [⟨(some 26), .mv (.t 7), none⟩,
    ⟨(some 27), .mv (.t 0), none⟩,
    ⟨(some 28), .call 16 [(.t 27)], none⟩,
    ⟨(some 29), .call 18 [(.t 26), (.t 28)], none⟩,
    ⟨(some 30), .un .not (.t 29), none⟩] []) (.cond (.t 30) (.seq (.reg [⟨(some 4), .mv (.c (.b false)), none⟩] []) .ret) .skip)) (.seq (.reg [⟨(some 4), .mv (.c (.b true)), none⟩] []) .ret))))))))))
def V3 : List RV := [.t 4]
theorem m3 : mtcF Try.prog 3 2 A3 V3 = true := by kernel_rfl
end Vs

namespace Vs
open Go Go.Proofs
theorem VT1 : (∀ (f : Fl) (x : TTributary), e_TTributary f x = .agg [.i x.From, .i x.To, .i x.Rate]) := fun _ _ => rfl
theorem w_laws_szTributaryS (aZ0 : List TTributary) (leftZ0 : Int) {r : Int} (h : M_laws_szTributaryS aZ0 leftZ0 = some r) : Ok Try.prog 14 [.lst .o 3 (aZ0.map (e_TTributary .o)), .i leftZ0] ((fun r => .i r) r) := by
  refine ok_of_body hmix m14 rfl ?_
  unfold M_laws_szTributaryS at h
  simp only [A14, V14, body_eq]
  rcases bt (decide ((IntKind.wrap .i64 (leftZ0 - (aZ0.length : Int))) < 0)) with cZ1 | cZ1
  · replace h := cond_t cZ1 h
    cases h
    try simp only [VS1, VS2, VS3, VS4, VS5, VS6, VT1, e_TTributary_nrm, e_TTributary_als, e_TTributary_fix, e_TTributary_nrmm, e_TTributary_alsm, e_TTributary_fixm, ↓reduceIte, reduceCtorEq, Nat.reduceEqDiff, Nat.reduceAdd, Nat.reduceLeDiff, Int.reduceLE, cZ1]
    simp [qL, qJ, qJ0, qS, qX, qR, Shp, VS1, VS2, VS3, VS4, VS5, VS6, VT1, e_TTributary_nrm, e_TTributary_als, e_TTributary_fix, e_TTributary_nrmm, e_TTributary_alsm, e_TTributary_fixm, V14]
  · replace h := cond_f cZ1 h
    cases h
    try simp only [VS1, VS2, VS3, VS4, VS5, VS6, VT1, e_TTributary_nrm, e_TTributary_als, e_TTributary_fix, e_TTributary_nrmm, e_TTributary_alsm, e_TTributary_fixm, ↓reduceIte, reduceCtorEq, Nat.reduceEqDiff, Nat.reduceAdd, Nat.reduceLeDiff, Int.reduceLE, cZ1]
    simp [qL, qJ, qJ0, qS, qX, qR, Shp, VS1, VS2, VS3, VS4, VS5, VS6, VT1, e_TTributary_nrm, e_TTributary_als, e_TTributary_fix, e_TTributary_nrmm, e_TTributary_alsm, e_TTributary_fixm, V14]
theorem w_laws_toTributary (aZ0 : TTributary) {r : TTributary} (h : M_laws_toTributary aZ0 = some r) : Ok Try.prog 28 [.agg [.i aZ0.From, .i aZ0.To, .i aZ0.Rate]] ((fun r => .agg [.i r.From, .i r.To, .i r.Rate]) r) := by
  refine ok_of_body hmix m28 rfl ?_
  unfold M_laws_toTributary at h
  simp only [A28, V28, body_eq]
  cases h
  try simp only [VS1, VS2, VS3, VS4, VS5, VS6, VT1, e_TTributary_nrm, e_TTributary_als, e_TTributary_fix, e_TTributary_nrmm, e_TTributary_alsm, e_TTributary_fixm, ↓reduceIte, reduceCtorEq, Nat.reduceEqDiff, Nat.reduceAdd, Nat.reduceLeDiff, Int.reduceLE]
  simp [qL, qJ, qJ0, qS, qX, qR, Shp, VS1, VS2, VS3, VS4, VS5, VS6, VT1, e_TTributary_nrm, e_TTributary_als, e_TTributary_fix, e_TTributary_nrmm, e_TTributary_alsm, e_TTributary_fixm, V28]
def S_laws_toTributarySL1 (aZ0 : List TTributary) (v : Int × List TTributary) : St := ⟨[(0, .lst .o 3 (aZ0.map (e_TTributary .o))), (3, .sl 3 0 v.2.length), (4, .i v.1)], [(3, .arr 3 (v.2.map (e_TTributary .u)))]⟩
def SX_laws_toTributarySL1 (v : List TTributary) : St := ⟨[(3, .sl 3 0 v.length)], [(3, .arr 3 (v.map (e_TTributary .u)))]⟩
theorem w_laws_toTributarySL1 (aZ0 : List TTributary) (sZ4 : Int × List TTributary) (o : (Int × List TTributary) ⊕ (List TTributary)) (h : M_laws_toTributarySL1 aZ0 sZ4 = some o) : AWP (Ok Try.prog) A16L1 (qL [0, 3, 4] [3] (S_laws_toTributarySL1 aZ0) (qX 0 [3] [3] (SX_laws_toTributarySL1)) o) (S_laws_toTributarySL1 aZ0 sZ4) := by
  unfold M_laws_toTributarySL1 at h
  simp only [S_laws_toTributarySL1, A16L1]
  rcases bt (decide (sZ4.1 < (aZ0.length : Int))) with cZ5 | cZ5
  · replace h := cond_t cZ5 h
    obtain ⟨yZ6, hyZ6, h⟩ := bind_s h
    obtain ⟨hyZ6a, hyZ6b⟩ := geti_s hyZ6
    obtain ⟨rZ7, hrZ7, h⟩ := bind_s h
    simp only [VS1, VS2, VS3, VS4, VS5, VS6, VT1, e_TTributary_nrm, e_TTributary_als, e_TTributary_fix, e_TTributary_nrmm, e_TTributary_alsm, e_TTributary_fixm, ↓reduceIte, reduceCtorEq, Nat.reduceEqDiff, Nat.reduceAdd, Nat.reduceLeDiff, Int.reduceLE, cZ5, hyZ6a, hyZ6b]
    refine call_u (by simp only [VS1, VS2, VS3, VS4, VS5, VS6, VT1, e_TTributary_nrm, e_TTributary_als, e_TTributary_fix, e_TTributary_nrmm, e_TTributary_alsm, e_TTributary_fixm, ↓reduceIte, reduceCtorEq, Nat.reduceEqDiff, Nat.reduceAdd, Nat.reduceLeDiff, Int.reduceLE, cZ5, hyZ6a, hyZ6b]; exact w_laws_toTributary _ hrZ7 ) (by simp [AV.allU, allUL, allUL_iff, VT1, e_TTributary_nrm, e_TTributary_als, e_TTributary_fix, e_TTributary_nrmm, e_TTributary_alsm, e_TTributary_fixm]) (by simp [VS1, VS2, VS3, VS4, VS5, VS6, VT1, e_TTributary_nrm, e_TTributary_als, e_TTributary_fix, e_TTributary_nrmm, e_TTributary_alsm, e_TTributary_fixm]) ?_
    obtain ⟨kZ8, hkZ8, h⟩ := bind_s h
    obtain ⟨hkZ8a, hkZ8b, hkZ8c⟩ := chk_s hkZ8
    obtain ⟨yZ9, hyZ9, h⟩ := bind_s h
    obtain ⟨lZ10, hlZ10, h⟩ := bnd_s h
    have eZ11 : (sZ4.2.map (e_TTributary .u)).set kZ8 (.agg [.i rZ7.From, .i rZ7.To, .i rZ7.Rate]) = lZ10.map (e_TTributary .u) := by rw [← hlZ10, List.map_set]; rfl
    cases h
    try simp only [VS1, VS2, VS3, VS4, VS5, VS6, VT1, e_TTributary_nrm, e_TTributary_als, e_TTributary_fix, e_TTributary_nrmm, e_TTributary_alsm, e_TTributary_fixm, ↓reduceIte, reduceCtorEq, Nat.reduceEqDiff, Nat.reduceAdd, Nat.reduceLeDiff, Int.reduceLE, cZ5, hyZ6a, hyZ6b, hkZ8a, hkZ8b, hkZ8c, hyZ9, eZ11]
    simp [qL, qJ, qJ0, qS, qX, qR, Shp, VS1, VS2, VS3, VS4, VS5, VS6, VT1, e_TTributary_nrm, e_TTributary_als, e_TTributary_fix, e_TTributary_nrmm, e_TTributary_alsm, e_TTributary_fixm, S_laws_toTributarySL1, SX_laws_toTributarySL1, ← hlZ10]
  · replace h := cond_f cZ5 h
    cases h
    try simp only [VS1, VS2, VS3, VS4, VS5, VS6, VT1, e_TTributary_nrm, e_TTributary_als, e_TTributary_fix, e_TTributary_nrmm, e_TTributary_alsm, e_TTributary_fixm, ↓reduceIte, reduceCtorEq, Nat.reduceEqDiff, Nat.reduceAdd, Nat.reduceLeDiff, Int.reduceLE, cZ5]
    simp [qL, qJ, qJ0, qS, qX, qR, Shp, VS1, VS2, VS3, VS4, VS5, VS6, VT1, e_TTributary_nrm, e_TTributary_als, e_TTributary_fix, e_TTributary_nrmm, e_TTributary_alsm, e_TTributary_fixm, S_laws_toTributarySL1, SX_laws_toTributarySL1]
theorem w_laws_toTributaryS (aZ0 : List TTributary) {r : List TTributary} (h : M_laws_toTributaryS aZ0 = some r) : Ok Try.prog 16 [.lst .o 3 (aZ0.map (e_TTributary .o))] ((fun r => .lst .u 3 (r.map (e_TTributary .u))) r) := by
  refine ok_of_body hmix m16 rfl ?_
  unfold M_laws_toTributaryS at h
  simp only [A16, V16, body_eq]
  obtain ⟨uZ1, huZ1, h⟩ := bind_s h
  obtain ⟨huZ11, huZ12, huZ13, huZ14⟩ := grd_s huZ1
  obtain ⟨lZ2, hlZ2, h⟩ := bnd_s h
  have eZ3 : List.replicate (aZ0.length : Int).toNat (.agg [.i 0, .i 0, .i 0] : AV) = lZ2.map (e_TTributary .u) := by rw [← hlZ2, List.map_replicate]; rfl
  obtain ⟨oZ12, hoZ12, h⟩ := bind_s h
  try simp only [VS1, VS2, VS3, VS4, VS5, VS6, VT1, e_TTributary_nrm, e_TTributary_als, e_TTributary_fix, e_TTributary_nrmm, e_TTributary_alsm, e_TTributary_fixm, ↓reduceIte, reduceCtorEq, Nat.reduceEqDiff, Nat.reduceAdd, Nat.reduceLeDiff, Int.reduceLE, huZ11, huZ12, huZ13, huZ14, eZ3]
  refine join_rule0 (blk_rule0 (loop_rule (w_laws_toTributarySL1 aZ0) hoZ12 ?_)) ?_
  · simp [qL, qJ, qJ0, qS, qX, qR, Shp, VS1, VS2, VS3, VS4, VS5, VS6, VT1, e_TTributary_nrm, e_TTributary_als, e_TTributary_fix, e_TTributary_nrmm, e_TTributary_alsm, e_TTributary_fixm, S_laws_toTributarySL1, SX_laws_toTributarySL1, ← hlZ2, List.length_replicate]
  · simp only [SX_laws_toTributarySL1, A16R2]
    cases h
    try simp only [VS1, VS2, VS3, VS4, VS5, VS6, VT1, e_TTributary_nrm, e_TTributary_als, e_TTributary_fix, e_TTributary_nrmm, e_TTributary_alsm, e_TTributary_fixm, ↓reduceIte, reduceCtorEq, Nat.reduceEqDiff, Nat.reduceAdd, Nat.reduceLeDiff, Int.reduceLE, huZ11, huZ12, huZ13, huZ14, eZ3]
    simp [qL, qJ, qJ0, qS, qX, qR, Shp, VS1, VS2, VS3, VS4, VS5, VS6, VT1, e_TTributary_nrm, e_TTributary_als, e_TTributary_fix, e_TTributary_nrmm, e_TTributary_alsm, e_TTributary_fixm, V16]
theorem w_spec_l1In (xZ0 : Int) (aZ0 : Int) (bZ0 : Int) {r : Bool} (h : M_spec_l1In xZ0 aZ0 bZ0 = some r) : Ok Try.prog 67 [.i xZ0, .i aZ0, .i bZ0] ((fun r => .b r) r) := by
  refine ok_of_body hmix m67 rfl ?_
  unfold M_spec_l1In at h
  simp only [A67, V67, body_eq]
  rcases bt (decide (aZ0 ≤ xZ0)) with cZ1 | cZ1
  · replace h := cond_t cZ1 h
    cases h
    try simp only [VS1, VS2, VS3, VS4, VS5, VS6, VT1, e_TTributary_nrm, e_TTributary_als, e_TTributary_fix, e_TTributary_nrmm, e_TTributary_alsm, e_TTributary_fixm, ↓reduceIte, reduceCtorEq, Nat.reduceEqDiff, Nat.reduceAdd, Nat.reduceLeDiff, Int.reduceLE, cZ1]
    simp [qL, qJ, qJ0, qS, qX, qR, Shp, VS1, VS2, VS3, VS4, VS5, VS6, VT1, e_TTributary_nrm, e_TTributary_als, e_TTributary_fix, e_TTributary_nrmm, e_TTributary_alsm, e_TTributary_fixm, V67]
  · replace h := cond_f cZ1 h
    cases h
    try simp only [VS1, VS2, VS3, VS4, VS5, VS6, VT1, e_TTributary_nrm, e_TTributary_als, e_TTributary_fix, e_TTributary_nrmm, e_TTributary_alsm, e_TTributary_fixm, ↓reduceIte, reduceCtorEq, Nat.reduceEqDiff, Nat.reduceAdd, Nat.reduceLeDiff, Int.reduceLE, cZ1]
    simp [qL, qJ, qJ0, qS, qX, qR, Shp, VS1, VS2, VS3, VS4, VS5, VS6, VT1, e_TTributary_nrm, e_TTributary_als, e_TTributary_fix, e_TTributary_nrmm, e_TTributary_alsm, e_TTributary_fixm, V67]
theorem w_spec_l18Pair (aZ0 : Int) (bZ0 : Int) (nodesZ0 : Int) {r : Bool} (h : M_spec_l18Pair aZ0 bZ0 nodesZ0 = some r) : Ok Try.prog 95 [.i aZ0, .i bZ0, .i nodesZ0] ((fun r => .b r) r) := by
  refine ok_of_body hmix m95 rfl ?_
  unfold M_spec_l18Pair at h
  simp only [A95, V95, body_eq]
  obtain ⟨rZ1, hrZ1, h⟩ := bind_s h
  simp only [VS1, VS2, VS3, VS4, VS5, VS6, VT1, e_TTributary_nrm, e_TTributary_als, e_TTributary_fix, e_TTributary_nrmm, e_TTributary_alsm, e_TTributary_fixm, ↓reduceIte, reduceCtorEq, Nat.reduceEqDiff, Nat.reduceAdd, Nat.reduceLeDiff, Int.reduceLE]
  refine call_s (by simp only [VS1, VS2, VS3, VS4, VS5, VS6, VT1, e_TTributary_nrm, e_TTributary_als, e_TTributary_fix, e_TTributary_nrmm, e_TTributary_alsm, e_TTributary_fixm, ↓reduceIte, reduceCtorEq, Nat.reduceEqDiff, Nat.reduceAdd, Nat.reduceLeDiff, Int.reduceLE]; exact w_spec_l1In _ _ _ hrZ1 ) ?_
  rcases bt (rZ1) with cZ2 | cZ2
  · replace h := cond_t cZ2 h
    obtain ⟨rZ3, hrZ3, h⟩ := bind_s h
    simp only [VS1, VS2, VS3, VS4, VS5, VS6, VT1, e_TTributary_nrm, e_TTributary_als, e_TTributary_fix, e_TTributary_nrmm, e_TTributary_alsm, e_TTributary_fixm, ↓reduceIte, reduceCtorEq, Nat.reduceEqDiff, Nat.reduceAdd, Nat.reduceLeDiff, Int.reduceLE, cZ2]
    refine call_s (by simp only [VS1, VS2, VS3, VS4, VS5, VS6, VT1, e_TTributary_nrm, e_TTributary_als, e_TTributary_fix, e_TTributary_nrmm, e_TTributary_alsm, e_TTributary_fixm, ↓reduceIte, reduceCtorEq, Nat.reduceEqDiff, Nat.reduceAdd, Nat.reduceLeDiff, Int.reduceLE, cZ2]; exact w_spec_l1In _ _ _ hrZ3 ) ?_
    rcases bt (rZ3) with cZ4 | cZ4
    · replace h := cond_t cZ4 h
      cases h
      try simp only [VS1, VS2, VS3, VS4, VS5, VS6, VT1, e_TTributary_nrm, e_TTributary_als, e_TTributary_fix, e_TTributary_nrmm, e_TTributary_alsm, e_TTributary_fixm, ↓reduceIte, reduceCtorEq, Nat.reduceEqDiff, Nat.reduceAdd, Nat.reduceLeDiff, Int.reduceLE, cZ2, cZ4]
      simp [qL, qJ, qJ0, qS, qX, qR, Shp, VS1, VS2, VS3, VS4, VS5, VS6, VT1, e_TTributary_nrm, e_TTributary_als, e_TTributary_fix, e_TTributary_nrmm, e_TTributary_alsm, e_TTributary_fixm, V95]
    · replace h := cond_f cZ4 h
      cases h
      try simp only [VS1, VS2, VS3, VS4, VS5, VS6, VT1, e_TTributary_nrm, e_TTributary_als, e_TTributary_fix, e_TTributary_nrmm, e_TTributary_alsm, e_TTributary_fixm, ↓reduceIte, reduceCtorEq, Nat.reduceEqDiff, Nat.reduceAdd, Nat.reduceLeDiff, Int.reduceLE, cZ2, cZ4]
      simp [qL, qJ, qJ0, qS, qX, qR, Shp, VS1, VS2, VS3, VS4, VS5, VS6, VT1, e_TTributary_nrm, e_TTributary_als, e_TTributary_fix, e_TTributary_nrmm, e_TTributary_alsm, e_TTributary_fixm, V95]
  · replace h := cond_f cZ2 h
    cases h
    try simp only [VS1, VS2, VS3, VS4, VS5, VS6, VT1, e_TTributary_nrm, e_TTributary_als, e_TTributary_fix, e_TTributary_nrmm, e_TTributary_alsm, e_TTributary_fixm, ↓reduceIte, reduceCtorEq, Nat.reduceEqDiff, Nat.reduceAdd, Nat.reduceLeDiff, Int.reduceLE, cZ2]
    simp [qL, qJ, qJ0, qS, qX, qR, Shp, VS1, VS2, VS3, VS4, VS5, VS6, VT1, e_TTributary_nrm, e_TTributary_als, e_TTributary_fix, e_TTributary_nrmm, e_TTributary_alsm, e_TTributary_fixm, V95]
def S_spec_l18GoodL1 (listZ0 : List TTributary) (nodesZ0 : Int) (v : Int) : St := ⟨[(0, .lst .o 3 (listZ0.map (e_TTributary .o))), (1, .i nodesZ0), (5, .i v)], []⟩
def SX_spec_l18GoodL1 (listZ0 : List TTributary) (nodesZ0 : Int) (v : Unit) : St := ⟨[(0, .lst .o 3 (listZ0.map (e_TTributary .o))), (1, .i nodesZ0)], []⟩
theorem w_spec_l18GoodL1 (listZ0 : List TTributary) (nodesZ0 : Int) (sZ1 : Int) (o : Int ⊕ (Unit ⊕ Bool)) (h : M_spec_l18GoodL1 listZ0 nodesZ0 sZ1 = some o) : AWP (Ok Try.prog) A54L3 (qL [0, 1, 5] [] (S_spec_l18GoodL1 listZ0 nodesZ0) (qS (qX 0 [0, 1] [] (SX_spec_l18GoodL1 listZ0 nodesZ0)) (qR V54 (fun r => .b r))) o) (S_spec_l18GoodL1 listZ0 nodesZ0 sZ1) := by
  unfold M_spec_l18GoodL1 at h
  simp only [S_spec_l18GoodL1, A54L3]
  obtain ⟨oZ3, hoZ3, h⟩ := bind_s h
  try simp only [VS1, VS2, VS3, VS4, VS5, VS6, VT1, e_TTributary_nrm, e_TTributary_als, e_TTributary_fix, e_TTributary_nrmm, e_TTributary_alsm, e_TTributary_fixm, ↓reduceIte, reduceCtorEq, Nat.reduceEqDiff, Nat.reduceAdd, Nat.reduceLeDiff, Int.reduceLE]
  refine join_rule0 (sh := (fun v => ⟨[(0, .lst .o 3 (listZ0.map (e_TTributary .o))), (1, .i nodesZ0), (5, .i sZ1), (13, .b v)], []⟩)) (s := oZ3) ?_ ?_
  · replace h := hoZ3
    rcases bt (decide (sZ1 < (listZ0.length : Int))) with cZ2 | cZ2
    · replace h := cond_t cZ2 h
      cases h
      try simp only [VS1, VS2, VS3, VS4, VS5, VS6, VT1, e_TTributary_nrm, e_TTributary_als, e_TTributary_fix, e_TTributary_nrmm, e_TTributary_alsm, e_TTributary_fixm, ↓reduceIte, reduceCtorEq, Nat.reduceEqDiff, Nat.reduceAdd, Nat.reduceLeDiff, Int.reduceLE, cZ2]
      simp [qL, qJ, qJ0, qS, qX, qR, Shp, VS1, VS2, VS3, VS4, VS5, VS6, VT1, e_TTributary_nrm, e_TTributary_als, e_TTributary_fix, e_TTributary_nrmm, e_TTributary_alsm, e_TTributary_fixm]
    · replace h := cond_f cZ2 h
      cases h
      try simp only [VS1, VS2, VS3, VS4, VS5, VS6, VT1, e_TTributary_nrm, e_TTributary_als, e_TTributary_fix, e_TTributary_nrmm, e_TTributary_alsm, e_TTributary_fixm, ↓reduceIte, reduceCtorEq, Nat.reduceEqDiff, Nat.reduceAdd, Nat.reduceLeDiff, Int.reduceLE, cZ2]
      simp [qL, qJ, qJ0, qS, qX, qR, Shp, VS1, VS2, VS3, VS4, VS5, VS6, VT1, e_TTributary_nrm, e_TTributary_als, e_TTributary_fix, e_TTributary_nrmm, e_TTributary_alsm, e_TTributary_fixm]
  · simp only [A54R1]
    rcases bt (oZ3) with cZ4 | cZ4
    · replace h := cond_t cZ4 h
      obtain ⟨oZ9, hoZ9, h⟩ := bind_s h
      try simp only [VS1, VS2, VS3, VS4, VS5, VS6, VT1, e_TTributary_nrm, e_TTributary_als, e_TTributary_fix, e_TTributary_nrmm, e_TTributary_alsm, e_TTributary_fixm, ↓reduceIte, reduceCtorEq, Nat.reduceEqDiff, Nat.reduceAdd, Nat.reduceLeDiff, Int.reduceLE, cZ4]
      refine join_rule0 (sh := (fun v => ⟨[(0, .lst .o 3 (listZ0.map (e_TTributary .o))), (1, .i nodesZ0), (5, .i sZ1), (37, .b v)], []⟩)) (s := oZ9) ?_ ?_
      · replace h := hoZ9
        obtain ⟨yZ5, hyZ5, h⟩ := bind_s h
        obtain ⟨hyZ5a, hyZ5b⟩ := geti_s hyZ5
        obtain ⟨rZ6, hrZ6, h⟩ := bind_s h
        simp only [VS1, VS2, VS3, VS4, VS5, VS6, VT1, e_TTributary_nrm, e_TTributary_als, e_TTributary_fix, e_TTributary_nrmm, e_TTributary_alsm, e_TTributary_fixm, ↓reduceIte, reduceCtorEq, Nat.reduceEqDiff, Nat.reduceAdd, Nat.reduceLeDiff, Int.reduceLE, cZ4, hyZ5a, hyZ5b]
        refine call_s (by simp only [VS1, VS2, VS3, VS4, VS5, VS6, VT1, e_TTributary_nrm, e_TTributary_als, e_TTributary_fix, e_TTributary_nrmm, e_TTributary_alsm, e_TTributary_fixm, ↓reduceIte, reduceCtorEq, Nat.reduceEqDiff, Nat.reduceAdd, Nat.reduceLeDiff, Int.reduceLE, cZ4, hyZ5a, hyZ5b]; exact w_spec_l18Pair _ _ _ hrZ6 ) ?_
        rcases bt (!rZ6) with cZ7 | cZ7
        · replace h := cond_t cZ7 h
          cases h
          try simp only [VS1, VS2, VS3, VS4, VS5, VS6, VT1, e_TTributary_nrm, e_TTributary_als, e_TTributary_fix, e_TTributary_nrmm, e_TTributary_alsm, e_TTributary_fixm, ↓reduceIte, reduceCtorEq, Nat.reduceEqDiff, Nat.reduceAdd, Nat.reduceLeDiff, Int.reduceLE, cZ4, hyZ5a, hyZ5b, cZ7]
          simp [qL, qJ, qJ0, qS, qX, qR, Shp, VS1, VS2, VS3, VS4, VS5, VS6, VT1, e_TTributary_nrm, e_TTributary_als, e_TTributary_fix, e_TTributary_nrmm, e_TTributary_alsm, e_TTributary_fixm]
        · replace h := cond_f cZ7 h
          obtain ⟨rZ8, hrZ8, h⟩ := bind_s h
          simp only [VS1, VS2, VS3, VS4, VS5, VS6, VT1, e_TTributary_nrm, e_TTributary_als, e_TTributary_fix, e_TTributary_nrmm, e_TTributary_alsm, e_TTributary_fixm, ↓reduceIte, reduceCtorEq, Nat.reduceEqDiff, Nat.reduceAdd, Nat.reduceLeDiff, Int.reduceLE, cZ4, hyZ5a, hyZ5b, cZ7]
          refine call_s (by simp only [VS1, VS2, VS3, VS4, VS5, VS6, VT1, e_TTributary_nrm, e_TTributary_als, e_TTributary_fix, e_TTributary_nrmm, e_TTributary_alsm, e_TTributary_fixm, ↓reduceIte, reduceCtorEq, Nat.reduceEqDiff, Nat.reduceAdd, Nat.reduceLeDiff, Int.reduceLE, cZ4, hyZ5a, hyZ5b, cZ7]; exact w_spec_l1In _ _ _ hrZ8 ) ?_
          cases h
          try simp only [VS1, VS2, VS3, VS4, VS5, VS6, VT1, e_TTributary_nrm, e_TTributary_als, e_TTributary_fix, e_TTributary_nrmm, e_TTributary_alsm, e_TTributary_fixm, ↓reduceIte, reduceCtorEq, Nat.reduceEqDiff, Nat.reduceAdd, Nat.reduceLeDiff, Int.reduceLE, cZ4, hyZ5a, hyZ5b, cZ7]
          simp [qL, qJ, qJ0, qS, qX, qR, Shp, VS1, VS2, VS3, VS4, VS5, VS6, VT1, e_TTributary_nrm, e_TTributary_als, e_TTributary_fix, e_TTributary_nrmm, e_TTributary_alsm, e_TTributary_fixm]
      · simp only [A54R2]
        rcases bt (oZ9) with cZ10 | cZ10
        · replace h := cond_t cZ10 h
          cases h
          try simp only [VS1, VS2, VS3, VS4, VS5, VS6, VT1, e_TTributary_nrm, e_TTributary_als, e_TTributary_fix, e_TTributary_nrmm, e_TTributary_alsm, e_TTributary_fixm, ↓reduceIte, reduceCtorEq, Nat.reduceEqDiff, Nat.reduceAdd, Nat.reduceLeDiff, Int.reduceLE, cZ4, cZ10]
          simp [qL, qJ, qJ0, qS, qX, qR, Shp, VS1, VS2, VS3, VS4, VS5, VS6, VT1, e_TTributary_nrm, e_TTributary_als, e_TTributary_fix, e_TTributary_nrmm, e_TTributary_alsm, e_TTributary_fixm, V54]
        · replace h := cond_f cZ10 h
          cases h
          try simp only [VS1, VS2, VS3, VS4, VS5, VS6, VT1, e_TTributary_nrm, e_TTributary_als, e_TTributary_fix, e_TTributary_nrmm, e_TTributary_alsm, e_TTributary_fixm, ↓reduceIte, reduceCtorEq, Nat.reduceEqDiff, Nat.reduceAdd, Nat.reduceLeDiff, Int.reduceLE, cZ4, cZ10]
          simp [qL, qJ, qJ0, qS, qX, qR, Shp, VS1, VS2, VS3, VS4, VS5, VS6, VT1, e_TTributary_nrm, e_TTributary_als, e_TTributary_fix, e_TTributary_nrmm, e_TTributary_alsm, e_TTributary_fixm, S_spec_l18GoodL1, SX_spec_l18GoodL1]
    · replace h := cond_f cZ4 h
      cases h
      try simp only [VS1, VS2, VS3, VS4, VS5, VS6, VT1, e_TTributary_nrm, e_TTributary_als, e_TTributary_fix, e_TTributary_nrmm, e_TTributary_alsm, e_TTributary_fixm, ↓reduceIte, reduceCtorEq, Nat.reduceEqDiff, Nat.reduceAdd, Nat.reduceLeDiff, Int.reduceLE, cZ4]
      simp [qL, qJ, qJ0, qS, qX, qR, Shp, VS1, VS2, VS3, VS4, VS5, VS6, VT1, e_TTributary_nrm, e_TTributary_als, e_TTributary_fix, e_TTributary_nrmm, e_TTributary_alsm, e_TTributary_fixm, S_spec_l18GoodL1, SX_spec_l18GoodL1]
theorem w_spec_l18Good (listZ0 : List TTributary) (nodesZ0 : Int) {r : Bool} (h : M_spec_l18Good listZ0 nodesZ0 = some r) : Ok Try.prog 54 [.lst .o 3 (listZ0.map (e_TTributary .o)), .i nodesZ0] ((fun r => .b r) r) := by
  refine ok_of_body hmix m54 rfl ?_
  unfold M_spec_l18Good at h
  simp only [A54, V54, body_eq]
  obtain ⟨oZ11, hoZ11, h⟩ := bind_s h
  try simp only [VS1, VS2, VS3, VS4, VS5, VS6, VT1, e_TTributary_nrm, e_TTributary_als, e_TTributary_fix, e_TTributary_nrmm, e_TTributary_alsm, e_TTributary_fixm, ↓reduceIte, reduceCtorEq, Nat.reduceEqDiff, Nat.reduceAdd, Nat.reduceLeDiff, Int.reduceLE]
  refine join_rule (o := oZ11) (blk_rule sideR (loop_rule (w_spec_l18GoodL1 listZ0 nodesZ0) hoZ11 ?_)) (fun vZ12 hv => ?_) (fun xZ13 hv e τ hne hq => ?_)
  · simp [qL, qJ, qJ0, qS, qX, qR, Shp, VS1, VS2, VS3, VS4, VS5, VS6, VT1, e_TTributary_nrm, e_TTributary_als, e_TTributary_fix, e_TTributary_nrmm, e_TTributary_alsm, e_TTributary_fixm, S_spec_l18GoodL1, SX_spec_l18GoodL1]
  · subst hv
    simp only [] at h
    simp only [SX_spec_l18GoodL1, A54R4]
    obtain ⟨rZ14, hrZ14, h⟩ := bind_s h
    simp only [VS1, VS2, VS3, VS4, VS5, VS6, VT1, e_TTributary_nrm, e_TTributary_als, e_TTributary_fix, e_TTributary_nrmm, e_TTributary_alsm, e_TTributary_fixm, ↓reduceIte, reduceCtorEq, Nat.reduceEqDiff, Nat.reduceAdd, Nat.reduceLeDiff, Int.reduceLE]
    refine call_s (by simp only [VS1, VS2, VS3, VS4, VS5, VS6, VT1, e_TTributary_nrm, e_TTributary_als, e_TTributary_fix, e_TTributary_nrmm, e_TTributary_alsm, e_TTributary_fixm, ↓reduceIte, reduceCtorEq, Nat.reduceEqDiff, Nat.reduceAdd, Nat.reduceLeDiff, Int.reduceLE]; exact w_spec_l1In _ _ _ hrZ14 ) ?_
    rcases bt (rZ14) with cZ15 | cZ15
    · replace h := cond_t cZ15 h
      cases h
      try simp only [VS1, VS2, VS3, VS4, VS5, VS6, VT1, e_TTributary_nrm, e_TTributary_als, e_TTributary_fix, e_TTributary_nrmm, e_TTributary_alsm, e_TTributary_fixm, ↓reduceIte, reduceCtorEq, Nat.reduceEqDiff, Nat.reduceAdd, Nat.reduceLeDiff, Int.reduceLE, cZ15]
      simp [qL, qJ, qJ0, qS, qX, qR, Shp, VS1, VS2, VS3, VS4, VS5, VS6, VT1, e_TTributary_nrm, e_TTributary_als, e_TTributary_fix, e_TTributary_nrmm, e_TTributary_alsm, e_TTributary_fixm, V54]
    · replace h := cond_f cZ15 h
      cases h
      try simp only [VS1, VS2, VS3, VS4, VS5, VS6, VT1, e_TTributary_nrm, e_TTributary_als, e_TTributary_fix, e_TTributary_nrmm, e_TTributary_alsm, e_TTributary_fixm, ↓reduceIte, reduceCtorEq, Nat.reduceEqDiff, Nat.reduceAdd, Nat.reduceLeDiff, Int.reduceLE, cZ15]
      simp [qL, qJ, qJ0, qS, qX, qR, Shp, VS1, VS2, VS3, VS4, VS5, VS6, VT1, e_TTributary_nrm, e_TTributary_als, e_TTributary_fix, e_TTributary_nrmm, e_TTributary_alsm, e_TTributary_fixm, V54]
  · subst hv
    simp only [] at h
    obtain ⟨rfl, qZ16⟩ := hq
    cases h
    exact qZ16
theorem w_spec_IsValidTributaries (listZ0 : List TTributary) (nodesZ0 : Int) {r : Bool} (h : M_spec_IsValidTributaries listZ0 nodesZ0 = some r) : Ok Try.prog 15 [.lst .o 3 (listZ0.map (e_TTributary .o)), .i nodesZ0] ((fun r => .b r) r) := by
  refine ok_of_body hmix m15 rfl ?_
  unfold M_spec_IsValidTributaries at h
  simp only [A15, V15, body_eq]
  obtain ⟨rZ1, hrZ1, h⟩ := bind_s h
  simp only [VS1, VS2, VS3, VS4, VS5, VS6, VT1, e_TTributary_nrm, e_TTributary_als, e_TTributary_fix, e_TTributary_nrmm, e_TTributary_alsm, e_TTributary_fixm, ↓reduceIte, reduceCtorEq, Nat.reduceEqDiff, Nat.reduceAdd, Nat.reduceLeDiff, Int.reduceLE]
  refine call_s (by simp only [VS1, VS2, VS3, VS4, VS5, VS6, VT1, e_TTributary_nrm, e_TTributary_als, e_TTributary_fix, e_TTributary_nrmm, e_TTributary_alsm, e_TTributary_fixm, ↓reduceIte, reduceCtorEq, Nat.reduceEqDiff, Nat.reduceAdd, Nat.reduceLeDiff, Int.reduceLE]; exact w_spec_l18Good _ _ hrZ1 ) ?_
  cases h
  try simp only [VS1, VS2, VS3, VS4, VS5, VS6, VT1, e_TTributary_nrm, e_TTributary_als, e_TTributary_fix, e_TTributary_nrmm, e_TTributary_alsm, e_TTributary_fixm, ↓reduceIte, reduceCtorEq, Nat.reduceEqDiff, Nat.reduceAdd, Nat.reduceLeDiff, Int.reduceLE]
  simp [qL, qJ, qJ0, qS, qX, qR, Shp, VS1, VS2, VS3, VS4, VS5, VS6, VT1, e_TTributary_nrm, e_TTributary_als, e_TTributary_fix, e_TTributary_nrmm, e_TTributary_alsm, e_TTributary_fixm, V15]
theorem w_impl_within (nZ0 : Int) (lowZ0 : Int) (highZ0 : Int) {r : Bool} (h : M_impl_within nZ0 lowZ0 highZ0 = some r) : Ok Try.prog 55 [.i nZ0, .i lowZ0, .i highZ0] ((fun r => .b r) r) := by
  refine ok_of_body hmix m55 rfl ?_
  unfold M_impl_within at h
  simp only [A55, V55, body_eq]
  rcases bt (decide (lowZ0 ≤ nZ0)) with cZ1 | cZ1
  · replace h := cond_t cZ1 h
    cases h
    try simp only [VS1, VS2, VS3, VS4, VS5, VS6, VT1, e_TTributary_nrm, e_TTributary_als, e_TTributary_fix, e_TTributary_nrmm, e_TTributary_alsm, e_TTributary_fixm, ↓reduceIte, reduceCtorEq, Nat.reduceEqDiff, Nat.reduceAdd, Nat.reduceLeDiff, Int.reduceLE, cZ1]
    simp [qL, qJ, qJ0, qS, qX, qR, Shp, VS1, VS2, VS3, VS4, VS5, VS6, VT1, e_TTributary_nrm, e_TTributary_als, e_TTributary_fix, e_TTributary_nrmm, e_TTributary_alsm, e_TTributary_fixm, V55]
  · replace h := cond_f cZ1 h
    cases h
    try simp only [VS1, VS2, VS3, VS4, VS5, VS6, VT1, e_TTributary_nrm, e_TTributary_als, e_TTributary_fix, e_TTributary_nrmm, e_TTributary_alsm, e_TTributary_fixm, ↓reduceIte, reduceCtorEq, Nat.reduceEqDiff, Nat.reduceAdd, Nat.reduceLeDiff, Int.reduceLE, cZ1]
    simp [qL, qJ, qJ0, qS, qX, qR, Shp, VS1, VS2, VS3, VS4, VS5, VS6, VT1, e_TTributary_nrm, e_TTributary_als, e_TTributary_fix, e_TTributary_nrmm, e_TTributary_alsm, e_TTributary_fixm, V55]
def S_slices_IndexFunc_TributaryL1 (sZ0 : List TTributary) (F_fZ0 : Nat) (C_fZ0 : List AV) (v : Int) : St := ⟨[(0, .lst .o 3 (sZ0.map (e_TTributary .o))), (1, .fn F_fZ0 C_fZ0), (7, .i (sZ0.length : Int)), (8, .i v)], []⟩
def SX_slices_IndexFunc_TributaryL1 (v : Unit) : St := ⟨[], []⟩
theorem w_slices_IndexFunc_TributaryL1 (sZ0 : List TTributary) (fZ0 : TTributary → Option Bool) (F_fZ0 : Nat) (C_fZ0 : List AV) (hC_fZ0 : Fixed C_fZ0) (hf_fZ0 : ∀ (x0 : TTributary) (r : Bool), fZ0 x0 = some r → Ok Try.prog F_fZ0 ((.agg [.i x0.From, .i x0.To, .i x0.Rate]) :: C_fZ0) (.b r)) (sZ1 : Int) (o : Int ⊕ (Unit ⊕ Int)) (h : M_slices_IndexFunc_TributaryL1 sZ0 fZ0 sZ1 = some o) : AWP (Ok Try.prog) A96L1 (qL [0, 1, 7, 8] [] (S_slices_IndexFunc_TributaryL1 sZ0 F_fZ0 C_fZ0) (qS (qX 0 [] [] (SX_slices_IndexFunc_TributaryL1)) (qR V96 (fun r => .i r))) o) (S_slices_IndexFunc_TributaryL1 sZ0 F_fZ0 C_fZ0 sZ1) := by
  unfold M_slices_IndexFunc_TributaryL1 at h
  simp only [S_slices_IndexFunc_TributaryL1, A96L1]
  rcases bt (decide (sZ1 < (sZ0.length : Int))) with cZ2 | cZ2
  · replace h := cond_t cZ2 h
    obtain ⟨yZ3, hyZ3, h⟩ := bind_s h
    obtain ⟨hyZ3a, hyZ3b⟩ := geti_s hyZ3
    obtain ⟨rZ4, hrZ4, h⟩ := bind_s h
    simp only [VS1, VS2, VS3, VS4, VS5, VS6, VT1, e_TTributary_nrm, e_TTributary_als, e_TTributary_fix, e_TTributary_nrmm, e_TTributary_alsm, e_TTributary_fixm, ↓reduceIte, reduceCtorEq, Nat.reduceEqDiff, Nat.reduceAdd, Nat.reduceLeDiff, Int.reduceLE, cZ2, hyZ3a, hyZ3b]
    refine call_s (by simp only [VS1, VS2, VS3, VS4, VS5, VS6, VT1, e_TTributary_nrm, e_TTributary_als, e_TTributary_fix, e_TTributary_nrmm, e_TTributary_alsm, e_TTributary_fixm, ↓reduceIte, reduceCtorEq, Nat.reduceEqDiff, Nat.reduceAdd, Nat.reduceLeDiff, Int.reduceLE, cZ2, hyZ3a, hyZ3b, hC_fZ0.1 _ _]; exact hf_fZ0 _ _ hrZ4) ?_
    rcases bt (rZ4) with cZ5 | cZ5
    · replace h := cond_t cZ5 h
      cases h
      try simp only [VS1, VS2, VS3, VS4, VS5, VS6, VT1, e_TTributary_nrm, e_TTributary_als, e_TTributary_fix, e_TTributary_nrmm, e_TTributary_alsm, e_TTributary_fixm, ↓reduceIte, reduceCtorEq, Nat.reduceEqDiff, Nat.reduceAdd, Nat.reduceLeDiff, Int.reduceLE, cZ2, hyZ3a, hyZ3b, cZ5]
      simp [qL, qJ, qJ0, qS, qX, qR, Shp, VS1, VS2, VS3, VS4, VS5, VS6, VT1, e_TTributary_nrm, e_TTributary_als, e_TTributary_fix, e_TTributary_nrmm, e_TTributary_alsm, e_TTributary_fixm, V96, hC_fZ0.2]
    · replace h := cond_f cZ5 h
      cases h
      try simp only [VS1, VS2, VS3, VS4, VS5, VS6, VT1, e_TTributary_nrm, e_TTributary_als, e_TTributary_fix, e_TTributary_nrmm, e_TTributary_alsm, e_TTributary_fixm, ↓reduceIte, reduceCtorEq, Nat.reduceEqDiff, Nat.reduceAdd, Nat.reduceLeDiff, Int.reduceLE, cZ2, hyZ3a, hyZ3b, cZ5]
      simp [qL, qJ, qJ0, qS, qX, qR, Shp, VS1, VS2, VS3, VS4, VS5, VS6, VT1, e_TTributary_nrm, e_TTributary_als, e_TTributary_fix, e_TTributary_nrmm, e_TTributary_alsm, e_TTributary_fixm, S_slices_IndexFunc_TributaryL1, SX_slices_IndexFunc_TributaryL1, hC_fZ0.2]
  · replace h := cond_f cZ2 h
    cases h
    try simp only [VS1, VS2, VS3, VS4, VS5, VS6, VT1, e_TTributary_nrm, e_TTributary_als, e_TTributary_fix, e_TTributary_nrmm, e_TTributary_alsm, e_TTributary_fixm, ↓reduceIte, reduceCtorEq, Nat.reduceEqDiff, Nat.reduceAdd, Nat.reduceLeDiff, Int.reduceLE, cZ2]
    simp [qL, qJ, qJ0, qS, qX, qR, Shp, VS1, VS2, VS3, VS4, VS5, VS6, VT1, e_TTributary_nrm, e_TTributary_als, e_TTributary_fix, e_TTributary_nrmm, e_TTributary_alsm, e_TTributary_fixm, S_slices_IndexFunc_TributaryL1, SX_slices_IndexFunc_TributaryL1, hC_fZ0.2]
theorem w_slices_IndexFunc_Tributary (sZ0 : List TTributary) (fZ0 : TTributary → Option Bool) {r : Int} (h : M_slices_IndexFunc_Tributary sZ0 fZ0 = some r) (F_fZ0 : Nat) (C_fZ0 : List AV) (hC_fZ0 : Fixed C_fZ0) (hf_fZ0 : ∀ (x0 : TTributary) (r : Bool), fZ0 x0 = some r → Ok Try.prog F_fZ0 ((.agg [.i x0.From, .i x0.To, .i x0.Rate]) :: C_fZ0) (.b r)) : Ok Try.prog 96 [.lst .o 3 (sZ0.map (e_TTributary .o)), .fn F_fZ0 C_fZ0] ((fun r => .i r) r) := by
  refine ok_of_body hmix m96 rfl ?_
  unfold M_slices_IndexFunc_Tributary at h
  simp only [A96, V96, body_eq]
  obtain ⟨oZ6, hoZ6, h⟩ := bind_s h
  try simp only [VS1, VS2, VS3, VS4, VS5, VS6, VT1, e_TTributary_nrm, e_TTributary_als, e_TTributary_fix, e_TTributary_nrmm, e_TTributary_alsm, e_TTributary_fixm, ↓reduceIte, reduceCtorEq, Nat.reduceEqDiff, Nat.reduceAdd, Nat.reduceLeDiff, Int.reduceLE]
  refine join_rule (o := oZ6) (blk_rule sideR (loop_rule (w_slices_IndexFunc_TributaryL1 sZ0 fZ0 F_fZ0 C_fZ0 hC_fZ0 hf_fZ0) hoZ6 ?_)) (fun vZ7 hv => ?_) (fun xZ8 hv e τ hne hq => ?_)
  · simp [qL, qJ, qJ0, qS, qX, qR, Shp, VS1, VS2, VS3, VS4, VS5, VS6, VT1, e_TTributary_nrm, e_TTributary_als, e_TTributary_fix, e_TTributary_nrmm, e_TTributary_alsm, e_TTributary_fixm, S_slices_IndexFunc_TributaryL1, SX_slices_IndexFunc_TributaryL1, hC_fZ0.2]
  · subst hv
    simp only [] at h
    simp only [SX_slices_IndexFunc_TributaryL1, A96R2]
    cases h
    try simp only [VS1, VS2, VS3, VS4, VS5, VS6, VT1, e_TTributary_nrm, e_TTributary_als, e_TTributary_fix, e_TTributary_nrmm, e_TTributary_alsm, e_TTributary_fixm, ↓reduceIte, reduceCtorEq, Nat.reduceEqDiff, Nat.reduceAdd, Nat.reduceLeDiff, Int.reduceLE]
    simp [qL, qJ, qJ0, qS, qX, qR, Shp, VS1, VS2, VS3, VS4, VS5, VS6, VT1, e_TTributary_nrm, e_TTributary_als, e_TTributary_fix, e_TTributary_nrmm, e_TTributary_alsm, e_TTributary_fixm, V96, hC_fZ0.2]
  · subst hv
    simp only [] at h
    obtain ⟨rfl, qZ9⟩ := hq
    cases h
    exact qZ9
theorem w_slices_ContainsFunc_Tributary (sZ0 : List TTributary) (fZ0 : TTributary → Option Bool) {r : Bool} (h : M_slices_ContainsFunc_Tributary sZ0 fZ0 = some r) (F_fZ0 : Nat) (C_fZ0 : List AV) (hC_fZ0 : Fixed C_fZ0) (hf_fZ0 : ∀ (x0 : TTributary) (r : Bool), fZ0 x0 = some r → Ok Try.prog F_fZ0 ((.agg [.i x0.From, .i x0.To, .i x0.Rate]) :: C_fZ0) (.b r)) : Ok Try.prog 56 [.lst .o 3 (sZ0.map (e_TTributary .o)), .fn F_fZ0 C_fZ0] ((fun r => .b r) r) := by
  refine ok_of_body hmix m56 rfl ?_
  unfold M_slices_ContainsFunc_Tributary at h
  simp only [A56, V56, body_eq]
  obtain ⟨rZ1, hrZ1, h⟩ := bind_s h
  simp only [VS1, VS2, VS3, VS4, VS5, VS6, VT1, e_TTributary_nrm, e_TTributary_als, e_TTributary_fix, e_TTributary_nrmm, e_TTributary_alsm, e_TTributary_fixm, ↓reduceIte, reduceCtorEq, Nat.reduceEqDiff, Nat.reduceAdd, Nat.reduceLeDiff, Int.reduceLE]
  refine call_s (by simp only [VS1, VS2, VS3, VS4, VS5, VS6, VT1, e_TTributary_nrm, e_TTributary_als, e_TTributary_fix, e_TTributary_nrmm, e_TTributary_alsm, e_TTributary_fixm, ↓reduceIte, reduceCtorEq, Nat.reduceEqDiff, Nat.reduceAdd, Nat.reduceLeDiff, Int.reduceLE, hC_fZ0.1 _ _]; exact w_slices_IndexFunc_Tributary _ _ hrZ1 F_fZ0 C_fZ0 hC_fZ0 hf_fZ0) ?_
  cases h
  try simp only [VS1, VS2, VS3, VS4, VS5, VS6, VT1, e_TTributary_nrm, e_TTributary_als, e_TTributary_fix, e_TTributary_nrmm, e_TTributary_alsm, e_TTributary_fixm, ↓reduceIte, reduceCtorEq, Nat.reduceEqDiff, Nat.reduceAdd, Nat.reduceLeDiff, Int.reduceLE]
  simp [qL, qJ, qJ0, qS, qX, qR, Shp, VS1, VS2, VS3, VS4, VS5, VS6, VT1, e_TTributary_nrm, e_TTributary_als, e_TTributary_fix, e_TTributary_nrmm, e_TTributary_alsm, e_TTributary_fixm, V56, hC_fZ0.2]
theorem w_impl_areEnds (aZ0 : Int) (bZ0 : Int) (nodesZ0 : Int) {r : Bool} (h : M_impl_areEnds aZ0 bZ0 nodesZ0 = some r) : Ok Try.prog 58 [.i aZ0, .i bZ0, .i nodesZ0] ((fun r => .b r) r) := by
  refine ok_of_body hmix m58 rfl ?_
  unfold M_impl_areEnds at h
  simp only [A58, V58, body_eq]
  obtain ⟨rZ1, hrZ1, h⟩ := bind_s h
  simp only [VS1, VS2, VS3, VS4, VS5, VS6, VT1, e_TTributary_nrm, e_TTributary_als, e_TTributary_fix, e_TTributary_nrmm, e_TTributary_alsm, e_TTributary_fixm, ↓reduceIte, reduceCtorEq, Nat.reduceEqDiff, Nat.reduceAdd, Nat.reduceLeDiff, Int.reduceLE]
  refine call_s (by simp only [VS1, VS2, VS3, VS4, VS5, VS6, VT1, e_TTributary_nrm, e_TTributary_als, e_TTributary_fix, e_TTributary_nrmm, e_TTributary_alsm, e_TTributary_fixm, ↓reduceIte, reduceCtorEq, Nat.reduceEqDiff, Nat.reduceAdd, Nat.reduceLeDiff, Int.reduceLE]; exact w_impl_within _ _ _ hrZ1 ) ?_
  rcases bt (rZ1) with cZ2 | cZ2
  · replace h := cond_t cZ2 h
    obtain ⟨rZ3, hrZ3, h⟩ := bind_s h
    simp only [VS1, VS2, VS3, VS4, VS5, VS6, VT1, e_TTributary_nrm, e_TTributary_als, e_TTributary_fix, e_TTributary_nrmm, e_TTributary_alsm, e_TTributary_fixm, ↓reduceIte, reduceCtorEq, Nat.reduceEqDiff, Nat.reduceAdd, Nat.reduceLeDiff, Int.reduceLE, cZ2]
    refine call_s (by simp only [VS1, VS2, VS3, VS4, VS5, VS6, VT1, e_TTributary_nrm, e_TTributary_als, e_TTributary_fix, e_TTributary_nrmm, e_TTributary_alsm, e_TTributary_fixm, ↓reduceIte, reduceCtorEq, Nat.reduceEqDiff, Nat.reduceAdd, Nat.reduceLeDiff, Int.reduceLE, cZ2]; exact w_impl_within _ _ _ hrZ3 ) ?_
    rcases bt (rZ3) with cZ4 | cZ4
    · replace h := cond_t cZ4 h
      cases h
      try simp only [VS1, VS2, VS3, VS4, VS5, VS6, VT1, e_TTributary_nrm, e_TTributary_als, e_TTributary_fix, e_TTributary_nrmm, e_TTributary_alsm, e_TTributary_fixm, ↓reduceIte, reduceCtorEq, Nat.reduceEqDiff, Nat.reduceAdd, Nat.reduceLeDiff, Int.reduceLE, cZ2, cZ4]
      simp [qL, qJ, qJ0, qS, qX, qR, Shp, VS1, VS2, VS3, VS4, VS5, VS6, VT1, e_TTributary_nrm, e_TTributary_als, e_TTributary_fix, e_TTributary_nrmm, e_TTributary_alsm, e_TTributary_fixm, V58]
    · replace h := cond_f cZ4 h
      cases h
      try simp only [VS1, VS2, VS3, VS4, VS5, VS6, VT1, e_TTributary_nrm, e_TTributary_als, e_TTributary_fix, e_TTributary_nrmm, e_TTributary_alsm, e_TTributary_fixm, ↓reduceIte, reduceCtorEq, Nat.reduceEqDiff, Nat.reduceAdd, Nat.reduceLeDiff, Int.reduceLE, cZ2, cZ4]
      simp [qL, qJ, qJ0, qS, qX, qR, Shp, VS1, VS2, VS3, VS4, VS5, VS6, VT1, e_TTributary_nrm, e_TTributary_als, e_TTributary_fix, e_TTributary_nrmm, e_TTributary_alsm, e_TTributary_fixm, V58]
  · replace h := cond_f cZ2 h
    cases h
    try simp only [VS1, VS2, VS3, VS4, VS5, VS6, VT1, e_TTributary_nrm, e_TTributary_als, e_TTributary_fix, e_TTributary_nrmm, e_TTributary_alsm, e_TTributary_fixm, ↓reduceIte, reduceCtorEq, Nat.reduceEqDiff, Nat.reduceAdd, Nat.reduceLeDiff, Int.reduceLE, cZ2]
    simp [qL, qJ, qJ0, qS, qX, qR, Shp, VS1, VS2, VS3, VS4, VS5, VS6, VT1, e_TTributary_nrm, e_TTributary_als, e_TTributary_fix, e_TTributary_nrmm, e_TTributary_alsm, e_TTributary_fixm, V58]
theorem w_impl_IsValidTributaries_c1 (tZ0 : TTributary) (p1Z0 : Int) {r : Bool} (h : M_impl_IsValidTributaries_c1 tZ0 p1Z0 = some r) : Ok Try.prog 57 [.agg [.i tZ0.From, .i tZ0.To, .i tZ0.Rate], .bp (.i p1Z0) 0] ((fun r => .b r) r) := by
  refine ok_of_body hmix m57 rfl ?_
  unfold M_impl_IsValidTributaries_c1 at h
  simp only [A57, V57, body_eq]
  obtain ⟨rZ1, hrZ1, h⟩ := bind_s h
  simp only [VS1, VS2, VS3, VS4, VS5, VS6, VT1, e_TTributary_nrm, e_TTributary_als, e_TTributary_fix, e_TTributary_nrmm, e_TTributary_alsm, e_TTributary_fixm, ↓reduceIte, reduceCtorEq, Nat.reduceEqDiff, Nat.reduceAdd, Nat.reduceLeDiff, Int.reduceLE]
  refine call_s (by simp only [VS1, VS2, VS3, VS4, VS5, VS6, VT1, e_TTributary_nrm, e_TTributary_als, e_TTributary_fix, e_TTributary_nrmm, e_TTributary_alsm, e_TTributary_fixm, ↓reduceIte, reduceCtorEq, Nat.reduceEqDiff, Nat.reduceAdd, Nat.reduceLeDiff, Int.reduceLE]; exact w_impl_areEnds _ _ _ hrZ1 ) ?_
  rcases bt (!rZ1) with cZ2 | cZ2
  · replace h := cond_t cZ2 h
    cases h
    try simp only [VS1, VS2, VS3, VS4, VS5, VS6, VT1, e_TTributary_nrm, e_TTributary_als, e_TTributary_fix, e_TTributary_nrmm, e_TTributary_alsm, e_TTributary_fixm, ↓reduceIte, reduceCtorEq, Nat.reduceEqDiff, Nat.reduceAdd, Nat.reduceLeDiff, Int.reduceLE, cZ2]
    simp [qL, qJ, qJ0, qS, qX, qR, Shp, VS1, VS2, VS3, VS4, VS5, VS6, VT1, e_TTributary_nrm, e_TTributary_als, e_TTributary_fix, e_TTributary_nrmm, e_TTributary_alsm, e_TTributary_fixm, V57]
  · replace h := cond_f cZ2 h
    obtain ⟨rZ3, hrZ3, h⟩ := bind_s h
    simp only [VS1, VS2, VS3, VS4, VS5, VS6, VT1, e_TTributary_nrm, e_TTributary_als, e_TTributary_fix, e_TTributary_nrmm, e_TTributary_alsm, e_TTributary_fixm, ↓reduceIte, reduceCtorEq, Nat.reduceEqDiff, Nat.reduceAdd, Nat.reduceLeDiff, Int.reduceLE, cZ2]
    refine call_s (by simp only [VS1, VS2, VS3, VS4, VS5, VS6, VT1, e_TTributary_nrm, e_TTributary_als, e_TTributary_fix, e_TTributary_nrmm, e_TTributary_alsm, e_TTributary_fixm, ↓reduceIte, reduceCtorEq, Nat.reduceEqDiff, Nat.reduceAdd, Nat.reduceLeDiff, Int.reduceLE, cZ2]; exact w_impl_within _ _ _ hrZ3 ) ?_
    cases h
    try simp only [VS1, VS2, VS3, VS4, VS5, VS6, VT1, e_TTributary_nrm, e_TTributary_als, e_TTributary_fix, e_TTributary_nrmm, e_TTributary_alsm, e_TTributary_fixm, ↓reduceIte, reduceCtorEq, Nat.reduceEqDiff, Nat.reduceAdd, Nat.reduceLeDiff, Int.reduceLE, cZ2]
    simp [qL, qJ, qJ0, qS, qX, qR, Shp, VS1, VS2, VS3, VS4, VS5, VS6, VT1, e_TTributary_nrm, e_TTributary_als, e_TTributary_fix, e_TTributary_nrmm, e_TTributary_alsm, e_TTributary_fixm, V57]
theorem w_impl_IsValidTributaries (listZ0 : List TTributary) (nodesZ0 : Int) {r : Bool} (h : M_impl_IsValidTributaries listZ0 nodesZ0 = some r) : Ok Try.prog 17 [.lst .o 3 (listZ0.map (e_TTributary .o)), .i nodesZ0] ((fun r => .b r) r) := by
  refine ok_of_body hmix m17 rfl ?_
  unfold M_impl_IsValidTributaries at h
  simp only [A17, V17, body_eq]
  obtain ⟨rZ1, hrZ1, h⟩ := bind_s h
  simp only [VS1, VS2, VS3, VS4, VS5, VS6, VT1, e_TTributary_nrm, e_TTributary_als, e_TTributary_fix, e_TTributary_nrmm, e_TTributary_alsm, e_TTributary_fixm, ↓reduceIte, reduceCtorEq, Nat.reduceEqDiff, Nat.reduceAdd, Nat.reduceLeDiff, Int.reduceLE]
  refine call_s (by simp only [VS1, VS2, VS3, VS4, VS5, VS6, VT1, e_TTributary_nrm, e_TTributary_als, e_TTributary_fix, e_TTributary_nrmm, e_TTributary_alsm, e_TTributary_fixm, ↓reduceIte, reduceCtorEq, Nat.reduceEqDiff, Nat.reduceAdd, Nat.reduceLeDiff, Int.reduceLE]; exact w_impl_within _ _ _ hrZ1 ) ?_
  rcases bt (rZ1) with cZ2 | cZ2
  · replace h := cond_t cZ2 h
    rcases bt (decide ((listZ0.length : Int) ≤ 12)) with cZ3 | cZ3
    · replace h := cond_t cZ3 h
      obtain ⟨rZ4, hrZ4, h⟩ := bind_s h
      simp only [VS1, VS2, VS3, VS4, VS5, VS6, VT1, e_TTributary_nrm, e_TTributary_als, e_TTributary_fix, e_TTributary_nrmm, e_TTributary_alsm, e_TTributary_fixm, ↓reduceIte, reduceCtorEq, Nat.reduceEqDiff, Nat.reduceAdd, Nat.reduceLeDiff, Int.reduceLE, cZ2, cZ3]
      refine call_s (by simp only [VS1, VS2, VS3, VS4, VS5, VS6, VT1, e_TTributary_nrm, e_TTributary_als, e_TTributary_fix, e_TTributary_nrmm, e_TTributary_alsm, e_TTributary_fixm, ↓reduceIte, reduceCtorEq, Nat.reduceEqDiff, Nat.reduceAdd, Nat.reduceLeDiff, Int.reduceLE, cZ2, cZ3]; exact w_slices_ContainsFunc_Tributary _ _ hrZ4 57 [.bp (.i nodesZ0) 0] ⟨fun ρ k => by simp only [VS1, VS2, VS3, VS4, VS5, VS6, VT1, e_TTributary_nrm, e_TTributary_als, e_TTributary_fix, e_TTributary_nrmm, e_TTributary_alsm, e_TTributary_fixm, ↓reduceIte, reduceCtorEq, Nat.reduceEqDiff, Nat.reduceAdd, Nat.reduceLeDiff, Int.reduceLE], by simp [mentsL, AV.ments]⟩ (fun _ _ h => w_impl_IsValidTributaries_c1 _ _ h)) ?_
      cases h
      try simp only [VS1, VS2, VS3, VS4, VS5, VS6, VT1, e_TTributary_nrm, e_TTributary_als, e_TTributary_fix, e_TTributary_nrmm, e_TTributary_alsm, e_TTributary_fixm, ↓reduceIte, reduceCtorEq, Nat.reduceEqDiff, Nat.reduceAdd, Nat.reduceLeDiff, Int.reduceLE, cZ2, cZ3]
      simp [qL, qJ, qJ0, qS, qX, qR, Shp, VS1, VS2, VS3, VS4, VS5, VS6, VT1, e_TTributary_nrm, e_TTributary_als, e_TTributary_fix, e_TTributary_nrmm, e_TTributary_alsm, e_TTributary_fixm, V17]
    · replace h := cond_f cZ3 h
      cases h
      try simp only [VS1, VS2, VS3, VS4, VS5, VS6, VT1, e_TTributary_nrm, e_TTributary_als, e_TTributary_fix, e_TTributary_nrmm, e_TTributary_alsm, e_TTributary_fixm, ↓reduceIte, reduceCtorEq, Nat.reduceEqDiff, Nat.reduceAdd, Nat.reduceLeDiff, Int.reduceLE, cZ2, cZ3]
      simp [qL, qJ, qJ0, qS, qX, qR, Shp, VS1, VS2, VS3, VS4, VS5, VS6, VT1, e_TTributary_nrm, e_TTributary_als, e_TTributary_fix, e_TTributary_nrmm, e_TTributary_alsm, e_TTributary_fixm, V17]
  · replace h := cond_f cZ2 h
    cases h
    try simp only [VS1, VS2, VS3, VS4, VS5, VS6, VT1, e_TTributary_nrm, e_TTributary_als, e_TTributary_fix, e_TTributary_nrmm, e_TTributary_alsm, e_TTributary_fixm, ↓reduceIte, reduceCtorEq, Nat.reduceEqDiff, Nat.reduceAdd, Nat.reduceLeDiff, Int.reduceLE, cZ2]
    simp [qL, qJ, qJ0, qS, qX, qR, Shp, VS1, VS2, VS3, VS4, VS5, VS6, VT1, e_TTributary_nrm, e_TTributary_als, e_TTributary_fix, e_TTributary_nrmm, e_TTributary_alsm, e_TTributary_fixm, V17]
theorem w_laws_eqTributary (aZ0 : TTributary) (bZ0 : TTributary) {r : Bool} (h : M_laws_eqTributary aZ0 bZ0 = some r) : Ok Try.prog 59 [.agg [.i aZ0.From, .i aZ0.To, .i aZ0.Rate], .agg [.i bZ0.From, .i bZ0.To, .i bZ0.Rate]] ((fun r => .b r) r) := by
  refine ok_of_body hmix m59 rfl ?_
  unfold M_laws_eqTributary at h
  simp only [A59, V59, body_eq]
  rcases bt (aZ0.From != bZ0.From) with cZ1 | cZ1
  · replace h := cond_t cZ1 h
    cases h
    try simp only [VS1, VS2, VS3, VS4, VS5, VS6, VT1, e_TTributary_nrm, e_TTributary_als, e_TTributary_fix, e_TTributary_nrmm, e_TTributary_alsm, e_TTributary_fixm, ↓reduceIte, reduceCtorEq, Nat.reduceEqDiff, Nat.reduceAdd, Nat.reduceLeDiff, Int.reduceLE, cZ1]
    simp [qL, qJ, qJ0, qS, qX, qR, Shp, VS1, VS2, VS3, VS4, VS5, VS6, VT1, e_TTributary_nrm, e_TTributary_als, e_TTributary_fix, e_TTributary_nrmm, e_TTributary_alsm, e_TTributary_fixm, V59]
  · replace h := cond_f cZ1 h
    rcases bt (aZ0.To != bZ0.To) with cZ2 | cZ2
    · replace h := cond_t cZ2 h
      cases h
      try simp only [VS1, VS2, VS3, VS4, VS5, VS6, VT1, e_TTributary_nrm, e_TTributary_als, e_TTributary_fix, e_TTributary_nrmm, e_TTributary_alsm, e_TTributary_fixm, ↓reduceIte, reduceCtorEq, Nat.reduceEqDiff, Nat.reduceAdd, Nat.reduceLeDiff, Int.reduceLE, cZ1, cZ2]
      simp [qL, qJ, qJ0, qS, qX, qR, Shp, VS1, VS2, VS3, VS4, VS5, VS6, VT1, e_TTributary_nrm, e_TTributary_als, e_TTributary_fix, e_TTributary_nrmm, e_TTributary_alsm, e_TTributary_fixm, V59]
    · replace h := cond_f cZ2 h
      rcases bt (aZ0.Rate != bZ0.Rate) with cZ3 | cZ3
      · replace h := cond_t cZ3 h
        cases h
        try simp only [VS1, VS2, VS3, VS4, VS5, VS6, VT1, e_TTributary_nrm, e_TTributary_als, e_TTributary_fix, e_TTributary_nrmm, e_TTributary_alsm, e_TTributary_fixm, ↓reduceIte, reduceCtorEq, Nat.reduceEqDiff, Nat.reduceAdd, Nat.reduceLeDiff, Int.reduceLE, cZ1, cZ2, cZ3]
        simp [qL, qJ, qJ0, qS, qX, qR, Shp, VS1, VS2, VS3, VS4, VS5, VS6, VT1, e_TTributary_nrm, e_TTributary_als, e_TTributary_fix, e_TTributary_nrmm, e_TTributary_alsm, e_TTributary_fixm, V59]
      · replace h := cond_f cZ3 h
        cases h
        try simp only [VS1, VS2, VS3, VS4, VS5, VS6, VT1, e_TTributary_nrm, e_TTributary_als, e_TTributary_fix, e_TTributary_nrmm, e_TTributary_alsm, e_TTributary_fixm, ↓reduceIte, reduceCtorEq, Nat.reduceEqDiff, Nat.reduceAdd, Nat.reduceLeDiff, Int.reduceLE, cZ1, cZ2, cZ3]
        simp [qL, qJ, qJ0, qS, qX, qR, Shp, VS1, VS2, VS3, VS4, VS5, VS6, VT1, e_TTributary_nrm, e_TTributary_als, e_TTributary_fix, e_TTributary_nrmm, e_TTributary_alsm, e_TTributary_fixm, V59]
def S_laws_eqTributarySL1 (aZ0 : List TTributary) (bZ0 : List TTributary) (v : Int) : St := ⟨[(0, .lst .o 3 (aZ0.map (e_TTributary .o))), (1, .lst .o 3 (bZ0.map (e_TTributary .o))), (5, .i v)], []⟩
def SX_laws_eqTributarySL1 (v : Unit) : St := ⟨[], []⟩
theorem w_laws_eqTributarySL1 (aZ0 : List TTributary) (bZ0 : List TTributary) (sZ2 : Int) (o : Int ⊕ (Unit ⊕ Bool)) (h : M_laws_eqTributarySL1 aZ0 bZ0 sZ2 = some o) : AWP (Ok Try.prog) A18L1 (qL [0, 1, 5] [] (S_laws_eqTributarySL1 aZ0 bZ0) (qS (qX 0 [] [] (SX_laws_eqTributarySL1)) (qR V18 (fun r => .b r))) o) (S_laws_eqTributarySL1 aZ0 bZ0 sZ2) := by
  unfold M_laws_eqTributarySL1 at h
  simp only [S_laws_eqTributarySL1, A18L1]
  rcases bt (decide (sZ2 < (aZ0.length : Int))) with cZ3 | cZ3
  · replace h := cond_t cZ3 h
    obtain ⟨yZ4, hyZ4, h⟩ := bind_s h
    obtain ⟨hyZ4a, hyZ4b⟩ := geti_s hyZ4
    obtain ⟨yZ5, hyZ5, h⟩ := bind_s h
    obtain ⟨hyZ5a, hyZ5b⟩ := geti_s hyZ5
    obtain ⟨rZ6, hrZ6, h⟩ := bind_s h
    simp only [VS1, VS2, VS3, VS4, VS5, VS6, VT1, e_TTributary_nrm, e_TTributary_als, e_TTributary_fix, e_TTributary_nrmm, e_TTributary_alsm, e_TTributary_fixm, ↓reduceIte, reduceCtorEq, Nat.reduceEqDiff, Nat.reduceAdd, Nat.reduceLeDiff, Int.reduceLE, cZ3, hyZ4a, hyZ4b, hyZ5a, hyZ5b]
    refine call_s (by simp only [VS1, VS2, VS3, VS4, VS5, VS6, VT1, e_TTributary_nrm, e_TTributary_als, e_TTributary_fix, e_TTributary_nrmm, e_TTributary_alsm, e_TTributary_fixm, ↓reduceIte, reduceCtorEq, Nat.reduceEqDiff, Nat.reduceAdd, Nat.reduceLeDiff, Int.reduceLE, cZ3, hyZ4a, hyZ4b, hyZ5a, hyZ5b]; exact w_laws_eqTributary _ _ hrZ6 ) ?_
    rcases bt (!rZ6) with cZ7 | cZ7
    · replace h := cond_t cZ7 h
      cases h
      try simp only [VS1, VS2, VS3, VS4, VS5, VS6, VT1, e_TTributary_nrm, e_TTributary_als, e_TTributary_fix, e_TTributary_nrmm, e_TTributary_alsm, e_TTributary_fixm, ↓reduceIte, reduceCtorEq, Nat.reduceEqDiff, Nat.reduceAdd, Nat.reduceLeDiff, Int.reduceLE, cZ3, hyZ4a, hyZ4b, hyZ5a, hyZ5b, cZ7]
      simp [qL, qJ, qJ0, qS, qX, qR, Shp, VS1, VS2, VS3, VS4, VS5, VS6, VT1, e_TTributary_nrm, e_TTributary_als, e_TTributary_fix, e_TTributary_nrmm, e_TTributary_alsm, e_TTributary_fixm, V18]
    · replace h := cond_f cZ7 h
      cases h
      try simp only [VS1, VS2, VS3, VS4, VS5, VS6, VT1, e_TTributary_nrm, e_TTributary_als, e_TTributary_fix, e_TTributary_nrmm, e_TTributary_alsm, e_TTributary_fixm, ↓reduceIte, reduceCtorEq, Nat.reduceEqDiff, Nat.reduceAdd, Nat.reduceLeDiff, Int.reduceLE, cZ3, hyZ4a, hyZ4b, hyZ5a, hyZ5b, cZ7]
      simp [qL, qJ, qJ0, qS, qX, qR, Shp, VS1, VS2, VS3, VS4, VS5, VS6, VT1, e_TTributary_nrm, e_TTributary_als, e_TTributary_fix, e_TTributary_nrmm, e_TTributary_alsm, e_TTributary_fixm, S_laws_eqTributarySL1, SX_laws_eqTributarySL1]
  · replace h := cond_f cZ3 h
    cases h
    try simp only [VS1, VS2, VS3, VS4, VS5, VS6, VT1, e_TTributary_nrm, e_TTributary_als, e_TTributary_fix, e_TTributary_nrmm, e_TTributary_alsm, e_TTributary_fixm, ↓reduceIte, reduceCtorEq, Nat.reduceEqDiff, Nat.reduceAdd, Nat.reduceLeDiff, Int.reduceLE, cZ3]
    simp [qL, qJ, qJ0, qS, qX, qR, Shp, VS1, VS2, VS3, VS4, VS5, VS6, VT1, e_TTributary_nrm, e_TTributary_als, e_TTributary_fix, e_TTributary_nrmm, e_TTributary_alsm, e_TTributary_fixm, S_laws_eqTributarySL1, SX_laws_eqTributarySL1]
theorem w_laws_eqTributaryS (aZ0 : List TTributary) (bZ0 : List TTributary) {r : Bool} (h : M_laws_eqTributaryS aZ0 bZ0 = some r) : Ok Try.prog 18 [.lst .o 3 (aZ0.map (e_TTributary .o)), .lst .o 3 (bZ0.map (e_TTributary .o))] ((fun r => .b r) r) := by
  refine ok_of_body hmix m18 rfl ?_
  unfold M_laws_eqTributaryS at h
  simp only [A18, V18, body_eq]
  rcases bt ((aZ0.length : Int) != (bZ0.length : Int)) with cZ1 | cZ1
  · replace h := cond_t cZ1 h
    cases h
    try simp only [VS1, VS2, VS3, VS4, VS5, VS6, VT1, e_TTributary_nrm, e_TTributary_als, e_TTributary_fix, e_TTributary_nrmm, e_TTributary_alsm, e_TTributary_fixm, ↓reduceIte, reduceCtorEq, Nat.reduceEqDiff, Nat.reduceAdd, Nat.reduceLeDiff, Int.reduceLE, cZ1]
    simp [qL, qJ, qJ0, qS, qX, qR, Shp, VS1, VS2, VS3, VS4, VS5, VS6, VT1, e_TTributary_nrm, e_TTributary_als, e_TTributary_fix, e_TTributary_nrmm, e_TTributary_alsm, e_TTributary_fixm, V18]
  · replace h := cond_f cZ1 h
    obtain ⟨oZ8, hoZ8, h⟩ := bind_s h
    try simp only [VS1, VS2, VS3, VS4, VS5, VS6, VT1, e_TTributary_nrm, e_TTributary_als, e_TTributary_fix, e_TTributary_nrmm, e_TTributary_alsm, e_TTributary_fixm, ↓reduceIte, reduceCtorEq, Nat.reduceEqDiff, Nat.reduceAdd, Nat.reduceLeDiff, Int.reduceLE, cZ1]
    refine join_rule (o := oZ8) (blk_rule sideR (loop_rule (w_laws_eqTributarySL1 aZ0 bZ0) hoZ8 ?_)) (fun vZ9 hv => ?_) (fun xZ10 hv e τ hne hq => ?_)
    · simp [qL, qJ, qJ0, qS, qX, qR, Shp, VS1, VS2, VS3, VS4, VS5, VS6, VT1, e_TTributary_nrm, e_TTributary_als, e_TTributary_fix, e_TTributary_nrmm, e_TTributary_alsm, e_TTributary_fixm, S_laws_eqTributarySL1, SX_laws_eqTributarySL1]
    · subst hv
      simp only [] at h
      simp only [SX_laws_eqTributarySL1, A18R2]
      cases h
      try simp only [VS1, VS2, VS3, VS4, VS5, VS6, VT1, e_TTributary_nrm, e_TTributary_als, e_TTributary_fix, e_TTributary_nrmm, e_TTributary_alsm, e_TTributary_fixm, ↓reduceIte, reduceCtorEq, Nat.reduceEqDiff, Nat.reduceAdd, Nat.reduceLeDiff, Int.reduceLE, cZ1]
      simp [qL, qJ, qJ0, qS, qX, qR, Shp, VS1, VS2, VS3, VS4, VS5, VS6, VT1, e_TTributary_nrm, e_TTributary_als, e_TTributary_fix, e_TTributary_nrmm, e_TTributary_alsm, e_TTributary_fixm, V18]
    · subst hv
      simp only [] at h
      obtain ⟨rfl, qZ11⟩ := hq
      cases h
      exact qZ11
theorem w_laws_FnExactIsValidTributaries (aListZ0 : List TTributary) (aNodesZ0 : Int) {r : Bool} (h : M_laws_FnExactIsValidTributaries aListZ0 aNodesZ0 = some r) : Ok Try.prog 3 [.lst .o 3 (aListZ0.map (e_TTributary .o)), .i aNodesZ0] ((fun r => .b r) r) := by
  refine ok_of_body hmix m3 rfl ?_
  unfold M_laws_FnExactIsValidTributaries at h
  simp only [A3, V3, body_eq]
  obtain ⟨rZ1, hrZ1, h⟩ := bind_s h
  simp only [VS1, VS2, VS3, VS4, VS5, VS6, VT1, e_TTributary_nrm, e_TTributary_als, e_TTributary_fix, e_TTributary_nrmm, e_TTributary_alsm, e_TTributary_fixm, ↓reduceIte, reduceCtorEq, Nat.reduceEqDiff, Nat.reduceAdd, Nat.reduceLeDiff, Int.reduceLE]
  refine call_s (by simp only [VS1, VS2, VS3, VS4, VS5, VS6, VT1, e_TTributary_nrm, e_TTributary_als, e_TTributary_fix, e_TTributary_nrmm, e_TTributary_alsm, e_TTributary_fixm, ↓reduceIte, reduceCtorEq, Nat.reduceEqDiff, Nat.reduceAdd, Nat.reduceLeDiff, Int.reduceLE]; exact w_laws_szTributaryS _ _ hrZ1 ) ?_
  rcases bt (decide (rZ1 < 0)) with cZ2 | cZ2
  · replace h := cond_t cZ2 h
    cases h
    try simp only [VS1, VS2, VS3, VS4, VS5, VS6, VT1, e_TTributary_nrm, e_TTributary_als, e_TTributary_fix, e_TTributary_nrmm, e_TTributary_alsm, e_TTributary_fixm, ↓reduceIte, reduceCtorEq, Nat.reduceEqDiff, Nat.reduceAdd, Nat.reduceLeDiff, Int.reduceLE, cZ2]
    simp [qL, qJ, qJ0, qS, qX, qR, Shp, VS1, VS2, VS3, VS4, VS5, VS6, VT1, e_TTributary_nrm, e_TTributary_als, e_TTributary_fix, e_TTributary_nrmm, e_TTributary_alsm, e_TTributary_fixm, V3]
  · replace h := cond_f cZ2 h
    obtain ⟨rZ3, hrZ3, h⟩ := bind_s h
    simp only [VS1, VS2, VS3, VS4, VS5, VS6, VT1, e_TTributary_nrm, e_TTributary_als, e_TTributary_fix, e_TTributary_nrmm, e_TTributary_alsm, e_TTributary_fixm, ↓reduceIte, reduceCtorEq, Nat.reduceEqDiff, Nat.reduceAdd, Nat.reduceLeDiff, Int.reduceLE, cZ2]
    refine call_u (by simp only [VS1, VS2, VS3, VS4, VS5, VS6, VT1, e_TTributary_nrm, e_TTributary_als, e_TTributary_fix, e_TTributary_nrmm, e_TTributary_alsm, e_TTributary_fixm, ↓reduceIte, reduceCtorEq, Nat.reduceEqDiff, Nat.reduceAdd, Nat.reduceLeDiff, Int.reduceLE, cZ2]; exact w_laws_toTributaryS _ hrZ3 ) (by simp [AV.allU, allUL, allUL_iff, VT1, e_TTributary_nrm, e_TTributary_als, e_TTributary_fix, e_TTributary_nrmm, e_TTributary_alsm, e_TTributary_fixm]) (by simp [VS1, VS2, VS3, VS4, VS5, VS6, VT1, e_TTributary_nrm, e_TTributary_als, e_TTributary_fix, e_TTributary_nrmm, e_TTributary_alsm, e_TTributary_fixm]) ?_
    obtain ⟨rZ4, hrZ4, h⟩ := bind_s h
    simp only [VS1, VS2, VS3, VS4, VS5, VS6, VT1, e_TTributary_nrm, e_TTributary_als, e_TTributary_fix, e_TTributary_nrmm, e_TTributary_alsm, e_TTributary_fixm, ↓reduceIte, reduceCtorEq, Nat.reduceEqDiff, Nat.reduceAdd, Nat.reduceLeDiff, Int.reduceLE, cZ2]
    refine call_s (by simp only [VS1, VS2, VS3, VS4, VS5, VS6, VT1, e_TTributary_nrm, e_TTributary_als, e_TTributary_fix, e_TTributary_nrmm, e_TTributary_alsm, e_TTributary_fixm, ↓reduceIte, reduceCtorEq, Nat.reduceEqDiff, Nat.reduceAdd, Nat.reduceLeDiff, Int.reduceLE, cZ2]; exact w_spec_IsValidTributaries _ _ hrZ4 ) ?_
    obtain ⟨rZ5, hrZ5, h⟩ := bind_s h
    simp only [VS1, VS2, VS3, VS4, VS5, VS6, VT1, e_TTributary_nrm, e_TTributary_als, e_TTributary_fix, e_TTributary_nrmm, e_TTributary_alsm, e_TTributary_fixm, ↓reduceIte, reduceCtorEq, Nat.reduceEqDiff, Nat.reduceAdd, Nat.reduceLeDiff, Int.reduceLE, cZ2]
    refine call_u (by simp only [VS1, VS2, VS3, VS4, VS5, VS6, VT1, e_TTributary_nrm, e_TTributary_als, e_TTributary_fix, e_TTributary_nrmm, e_TTributary_alsm, e_TTributary_fixm, ↓reduceIte, reduceCtorEq, Nat.reduceEqDiff, Nat.reduceAdd, Nat.reduceLeDiff, Int.reduceLE, cZ2]; exact w_laws_toTributaryS _ hrZ5 ) (by simp [AV.allU, allUL, allUL_iff, VT1, e_TTributary_nrm, e_TTributary_als, e_TTributary_fix, e_TTributary_nrmm, e_TTributary_alsm, e_TTributary_fixm]) (by simp [VS1, VS2, VS3, VS4, VS5, VS6, VT1, e_TTributary_nrm, e_TTributary_als, e_TTributary_fix, e_TTributary_nrmm, e_TTributary_alsm, e_TTributary_fixm]) ?_
    obtain ⟨rZ6, hrZ6, h⟩ := bind_s h
    simp only [VS1, VS2, VS3, VS4, VS5, VS6, VT1, e_TTributary_nrm, e_TTributary_als, e_TTributary_fix, e_TTributary_nrmm, e_TTributary_alsm, e_TTributary_fixm, ↓reduceIte, reduceCtorEq, Nat.reduceEqDiff, Nat.reduceAdd, Nat.reduceLeDiff, Int.reduceLE, cZ2]
    refine call_s (by simp only [VS1, VS2, VS3, VS4, VS5, VS6, VT1, e_TTributary_nrm, e_TTributary_als, e_TTributary_fix, e_TTributary_nrmm, e_TTributary_alsm, e_TTributary_fixm, ↓reduceIte, reduceCtorEq, Nat.reduceEqDiff, Nat.reduceAdd, Nat.reduceLeDiff, Int.reduceLE, cZ2]; exact w_impl_IsValidTributaries _ _ hrZ6 ) ?_
    rcases bt (!(rZ6 == rZ4)) with cZ7 | cZ7
    · replace h := cond_t cZ7 h
      cases h
      try simp only [VS1, VS2, VS3, VS4, VS5, VS6, VT1, e_TTributary_nrm, e_TTributary_als, e_TTributary_fix, e_TTributary_nrmm, e_TTributary_alsm, e_TTributary_fixm, ↓reduceIte, reduceCtorEq, Nat.reduceEqDiff, Nat.reduceAdd, Nat.reduceLeDiff, Int.reduceLE, cZ2, cZ7]
      simp [qL, qJ, qJ0, qS, qX, qR, Shp, VS1, VS2, VS3, VS4, VS5, VS6, VT1, e_TTributary_nrm, e_TTributary_als, e_TTributary_fix, e_TTributary_nrmm, e_TTributary_alsm, e_TTributary_fixm, V3]
    · replace h := cond_f cZ7 h
      obtain ⟨rZ8, hrZ8, h⟩ := bind_s h
      simp only [VS1, VS2, VS3, VS4, VS5, VS6, VT1, e_TTributary_nrm, e_TTributary_als, e_TTributary_fix, e_TTributary_nrmm, e_TTributary_alsm, e_TTributary_fixm, ↓reduceIte, reduceCtorEq, Nat.reduceEqDiff, Nat.reduceAdd, Nat.reduceLeDiff, Int.reduceLE, cZ2, cZ7]
      refine call_u (by simp only [VS1, VS2, VS3, VS4, VS5, VS6, VT1, e_TTributary_nrm, e_TTributary_als, e_TTributary_fix, e_TTributary_nrmm, e_TTributary_alsm, e_TTributary_fixm, ↓reduceIte, reduceCtorEq, Nat.reduceEqDiff, Nat.reduceAdd, Nat.reduceLeDiff, Int.reduceLE, cZ2, cZ7]; exact w_laws_toTributaryS _ hrZ8 ) (by simp [AV.allU, allUL, allUL_iff, VT1, e_TTributary_nrm, e_TTributary_als, e_TTributary_fix, e_TTributary_nrmm, e_TTributary_alsm, e_TTributary_fixm]) (by simp [VS1, VS2, VS3, VS4, VS5, VS6, VT1, e_TTributary_nrm, e_TTributary_als, e_TTributary_fix, e_TTributary_nrmm, e_TTributary_alsm, e_TTributary_fixm]) ?_
      obtain ⟨rZ9, hrZ9, h⟩ := bind_s h
      simp only [VS1, VS2, VS3, VS4, VS5, VS6, VT1, e_TTributary_nrm, e_TTributary_als, e_TTributary_fix, e_TTributary_nrmm, e_TTributary_alsm, e_TTributary_fixm, ↓reduceIte, reduceCtorEq, Nat.reduceEqDiff, Nat.reduceAdd, Nat.reduceLeDiff, Int.reduceLE, cZ2, cZ7]
      refine call_s (by simp only [VS1, VS2, VS3, VS4, VS5, VS6, VT1, e_TTributary_nrm, e_TTributary_als, e_TTributary_fix, e_TTributary_nrmm, e_TTributary_alsm, e_TTributary_fixm, ↓reduceIte, reduceCtorEq, Nat.reduceEqDiff, Nat.reduceAdd, Nat.reduceLeDiff, Int.reduceLE, cZ2, cZ7]; exact w_laws_eqTributaryS _ _ hrZ9 ) ?_
      rcases bt (!rZ9) with cZ10 | cZ10
      · replace h := cond_t cZ10 h
        cases h
        try simp only [VS1, VS2, VS3, VS4, VS5, VS6, VT1, e_TTributary_nrm, e_TTributary_als, e_TTributary_fix, e_TTributary_nrmm, e_TTributary_alsm, e_TTributary_fixm, ↓reduceIte, reduceCtorEq, Nat.reduceEqDiff, Nat.reduceAdd, Nat.reduceLeDiff, Int.reduceLE, cZ2, cZ7, cZ10]
        simp [qL, qJ, qJ0, qS, qX, qR, Shp, VS1, VS2, VS3, VS4, VS5, VS6, VT1, e_TTributary_nrm, e_TTributary_als, e_TTributary_fix, e_TTributary_nrmm, e_TTributary_alsm, e_TTributary_fixm, V3]
      · replace h := cond_f cZ10 h
        cases h
        try simp only [VS1, VS2, VS3, VS4, VS5, VS6, VT1, e_TTributary_nrm, e_TTributary_als, e_TTributary_fix, e_TTributary_nrmm, e_TTributary_alsm, e_TTributary_fixm, ↓reduceIte, reduceCtorEq, Nat.reduceEqDiff, Nat.reduceAdd, Nat.reduceLeDiff, Int.reduceLE, cZ2, cZ7, cZ10]
        simp [qL, qJ, qJ0, qS, qX, qR, Shp, VS1, VS2, VS3, VS4, VS5, VS6, VT1, e_TTributary_nrm, e_TTributary_als, e_TTributary_fix, e_TTributary_nrmm, e_TTributary_alsm, e_TTributary_fixm, V3]
end Vs

