/-
  Part of the proof that the law FnExactRingNodes returns true at every input; no condition beside the row's own.
-/
import Derived.Test.YteilpiddonoikaaFe
import Derived.Test.YteilpiddonoikaaChecked
import Derived.KernelRfl
set_option linter.defProp false
set_option linter.unusedSimpArgs false
set_option linter.unusedVariables false
namespace Vs
open Go
structure TFiber where
  A : Int
  B : Int
  Length : Int
  Risk : Int
  deriving DecidableEq
def e_TFiber (f : Fl) (x : TFiber) : AV := .agg [.i x.A, .i x.B, .i x.Length, .i x.Risk]
theorem e_TFiber_nrm (f : Fl) (x : TFiber) : (e_TFiber f x).nrm = e_TFiber .o x := by simp [e_TFiber, nrm_sc, nrm_lst, nrm_agg, nrm_sc]
theorem e_TFiber_nrmm (f : Fl) (xs : List TFiber) : (xs.map (e_TFiber f)).map AV.nrm = xs.map (e_TFiber .o) := by simp [e_TFiber_nrm]
theorem e_TFiber_als (f : Fl) (x : TFiber) : (e_TFiber f x).als = e_TFiber f.als x := by simp [e_TFiber, als_sc, als_lst, als_agg, nrm_sc]
theorem e_TFiber_alsm (f : Fl) (xs : List TFiber) : (xs.map (e_TFiber f)).map AV.als = xs.map (e_TFiber f.als) := by simp [e_TFiber_als]
theorem e_TFiber_fix (f : Fl) (x : TFiber) : (e_TFiber f x).fix = e_TFiber f.fix x := by simp [e_TFiber, fix_sc, fix_lst, fix_agg, nrm_sc]
theorem e_TFiber_fixm (f : Fl) (xs : List TFiber) : (xs.map (e_TFiber f)).map AV.fix = xs.map (e_TFiber f.fix) := by simp [e_TFiber_fix]
theorem e_TFiber_fz (x : TFiber) : (e_TFiber .o x).fz = true := by simp [e_TFiber, AV.i, AV.b, AV.z, fz_sc, fz_lsto, fz_agg, fzL_nil, fzL_cons, fzL_mi, fzL_mb, fzL_mz, fzL_m8, fzL_m64, ouL_m8, ouL_m64, ou_sc, ou_lstu, ou_agg, ouL_nil, ouL_cons, ouL_mi, ouL_mb, ouL_mz]
theorem e_TFiber_fzm (xs : List TFiber) : fzL (xs.map (e_TFiber .o)) = true := fzL_of e_TFiber_fz xs
theorem e_TFiber_ou (x : TFiber) : (e_TFiber .u x).ouB = true := by simp [e_TFiber, AV.i, AV.b, AV.z, fz_sc, fz_lsto, fz_agg, fzL_nil, fzL_cons, fzL_mi, fzL_mb, fzL_mz, fzL_m8, fzL_m64, ouL_m8, ouL_m64, ou_sc, ou_lstu, ou_agg, ouL_nil, ouL_cons, ouL_mi, ouL_mb, ouL_mz]
theorem e_TFiber_oum (xs : List TFiber) : ouBL (xs.map (e_TFiber .u)) = true := ouL_of e_TFiber_ou xs
structure TNetwork where
  Nodes : List ByteArray
  Fibers : List TFiber
def e_TNetwork (f : Fl) (x : TNetwork) : AV := .agg [.lst f 1 (x.Nodes.map AV.z), .lst f 4 (x.Fibers.map (e_TFiber f))]
theorem e_TNetwork_nrm (f : Fl) (x : TNetwork) : (e_TNetwork f x).nrm = e_TNetwork .o x := by simp [e_TNetwork, nrm_sc, nrm_lst, nrm_agg, e_TFiber_nrm, map_nrm_i, map_nrm_z]
theorem e_TNetwork_nrmm (f : Fl) (xs : List TNetwork) : (xs.map (e_TNetwork f)).map AV.nrm = xs.map (e_TNetwork .o) := by simp [e_TNetwork_nrm]
theorem e_TNetwork_als (f : Fl) (x : TNetwork) : (e_TNetwork f x).als = e_TNetwork f.als x := by simp [e_TNetwork, als_sc, als_lst, als_agg, e_TFiber_als, map_als_i, map_als_z]
theorem e_TNetwork_alsm (f : Fl) (xs : List TNetwork) : (xs.map (e_TNetwork f)).map AV.als = xs.map (e_TNetwork f.als) := by simp [e_TNetwork_als]
theorem e_TNetwork_fix (f : Fl) (x : TNetwork) : (e_TNetwork f x).fix = e_TNetwork f.fix x := by simp [e_TNetwork, fix_sc, fix_lst, fix_agg, e_TFiber_fix, map_fix_i, map_fix_z]
theorem e_TNetwork_fixm (f : Fl) (xs : List TNetwork) : (xs.map (e_TNetwork f)).map AV.fix = xs.map (e_TNetwork f.fix) := by simp [e_TNetwork_fix]
theorem e_TNetwork_fz (x : TNetwork) : (e_TNetwork .o x).fz = true := by simp [e_TNetwork, AV.i, AV.b, AV.z, fz_sc, fz_lsto, fz_agg, fzL_nil, fzL_cons, fzL_mi, fzL_mb, fzL_mz, fzL_m8, fzL_m64, ouL_m8, ouL_m64, ou_sc, ou_lstu, ou_agg, ouL_nil, ouL_cons, ouL_mi, ouL_mb, ouL_mz, e_TFiber_fzm, e_TFiber_oum]
theorem e_TNetwork_fzm (xs : List TNetwork) : fzL (xs.map (e_TNetwork .o)) = true := fzL_of e_TNetwork_fz xs
theorem e_TNetwork_ou (x : TNetwork) : (e_TNetwork .u x).ouB = true := by simp [e_TNetwork, AV.i, AV.b, AV.z, fz_sc, fz_lsto, fz_agg, fzL_nil, fzL_cons, fzL_mi, fzL_mb, fzL_mz, fzL_m8, fzL_m64, ouL_m8, ouL_m64, ou_sc, ou_lstu, ou_agg, ouL_nil, ouL_cons, ouL_mi, ouL_mb, ouL_mz, e_TFiber_fzm, e_TFiber_oum]
theorem e_TNetwork_oum (xs : List TNetwork) : ouBL (xs.map (e_TNetwork .u)) = true := ouL_of e_TNetwork_ou xs
def M_laws_szStringSL1 (aZ0 : List ByteArray) (sZ2 : Int × Int) : Option ((Int × Int) ⊕ (Int ⊕ Int)) :=
  cond (decide (sZ2.2 < (aZ0.length : Int))) ((geti aZ0 sZ2.2).bind fun yZ4 => cond (decide ((IntKind.wrap .i64 (sZ2.1 - (yZ4.size : Int))) < 0)) (some (.inr (.inr (-1)))) (some (.inl (IntKind.wrap .i64 (sZ2.1 - (yZ4.size : Int)), IntKind.wrap .i64 (sZ2.2 + 1))))) (some (.inr (.inl sZ2.1)))
def M_laws_szStringS (aZ0 : List ByteArray) (leftZ0 : Int) : Option Int :=
  cond (decide ((IntKind.wrap .i64 (leftZ0 - (aZ0.length : Int))) < 0)) (some (-1)) ((iter (M_laws_szStringSL1 aZ0) N0 (IntKind.wrap .i64 (leftZ0 - (aZ0.length : Int)), 0)).bind fun oZ6 => (match oZ6 with | .inl vZ7 => some vZ7 | .inr xZ8 => some xZ8))
def M_laws_szFiberS (aZ0 : List TFiber) (leftZ0 : Int) : Option Int :=
  cond (decide ((IntKind.wrap .i64 (leftZ0 - (aZ0.length : Int))) < 0)) (some (-1)) (some (IntKind.wrap .i64 (leftZ0 - (aZ0.length : Int))))
def M_laws_szNetwork (aZ0 : TNetwork) (leftZ0 : Int) : Option Int :=
  (M_laws_szStringS aZ0.Nodes leftZ0).bind fun rZ1 => cond (decide (rZ1 < 0)) (some (-1)) ((M_laws_szFiberS aZ0.Fibers rZ1).bind fun rZ3 => cond (decide (rZ3 < 0)) (some (-1)) (some rZ3))
def M_laws_toStringSL1 (aZ0 : List ByteArray) (sZ4 : Int × List ByteArray) : Option ((Int × List ByteArray) ⊕ (List ByteArray)) :=
  cond (decide (sZ4.1 < (aZ0.length : Int))) ((geti aZ0 sZ4.1).bind fun yZ6 => (grd (0 ≤ sZ4.1 ∧ sZ4.1 < (sZ4.2.length : Int))).bind fun kZ7 => (sZ4.2[(Int.toNat sZ4.1)]?).bind fun yZ8 => bnd (sZ4.2.set (Int.toNat sZ4.1) yZ6) fun lZ9 => some (.inl (IntKind.wrap .i64 (sZ4.1 + 1), lZ9))) (some (.inr sZ4.2))
def M_laws_toStringS (aZ0 : List ByteArray) : Option (List ByteArray) :=
  (grd (0 ≤ (aZ0.length : Int) ∧ (aZ0.length : Int) ≤ (aZ0.length : Int) ∧ (aZ0.length : Int) * ((16 : Nat) : Int) ≤ 140737488355328 ∧ (aZ0.length : Int) ≤ 9223372036854775807)).bind fun uZ1 => bnd (List.replicate (Int.toNat (aZ0.length : Int)) (⟨#[]⟩ : ByteArray)) fun lZ2 => (iter (M_laws_toStringSL1 aZ0) N0 (0, lZ2)).bind fun oZ11 => some oZ11
def M_laws_toFiber (aZ0 : TFiber) : Option TFiber :=
  some (⟨aZ0.A, aZ0.B, aZ0.Length, aZ0.Risk⟩ : TFiber)
def M_laws_toFiberSL1 (aZ0 : List TFiber) (sZ4 : Int × List TFiber) : Option ((Int × List TFiber) ⊕ (List TFiber)) :=
  cond (decide (sZ4.1 < (aZ0.length : Int))) ((geti aZ0 sZ4.1).bind fun yZ6 => (M_laws_toFiber yZ6).bind fun rZ7 => (grd (0 ≤ sZ4.1 ∧ sZ4.1 < (sZ4.2.length : Int))).bind fun kZ8 => (sZ4.2[(Int.toNat sZ4.1)]?).bind fun yZ9 => bnd (sZ4.2.set (Int.toNat sZ4.1) rZ7) fun lZ10 => some (.inl (IntKind.wrap .i64 (sZ4.1 + 1), lZ10))) (some (.inr sZ4.2))
def M_laws_toFiberS (aZ0 : List TFiber) : Option (List TFiber) :=
  (grd (0 ≤ (aZ0.length : Int) ∧ (aZ0.length : Int) ≤ (aZ0.length : Int) ∧ (aZ0.length : Int) * ((32 : Nat) : Int) ≤ 140737488355328 ∧ (aZ0.length : Int) ≤ 9223372036854775807)).bind fun uZ1 => bnd (List.replicate (Int.toNat (aZ0.length : Int)) (⟨0, 0, 0, 0⟩ : TFiber)) fun lZ2 => (iter (M_laws_toFiberSL1 aZ0) N0 (0, lZ2)).bind fun oZ12 => some oZ12
def M_laws_toNetwork (aZ0 : TNetwork) : Option TNetwork :=
  (M_laws_toStringS aZ0.Nodes).bind fun rZ1 => (M_laws_toFiberS aZ0.Fibers).bind fun rZ2 => some (⟨rZ1, rZ2⟩ : TNetwork)
def M_laws_toIntSL1 (aZ0 : List Int) (sZ4 : Int × List Int) : Option ((Int × List Int) ⊕ (List Int)) :=
  cond (decide (sZ4.1 < (aZ0.length : Int))) ((geti aZ0 sZ4.1).bind fun yZ6 => (grd (0 ≤ sZ4.1 ∧ sZ4.1 < (sZ4.2.length : Int))).bind fun kZ7 => (sZ4.2[(Int.toNat sZ4.1)]?).bind fun yZ8 => bnd (sZ4.2.set (Int.toNat sZ4.1) yZ6) fun lZ9 => some (.inl (IntKind.wrap .i64 (sZ4.1 + 1), lZ9))) (some (.inr sZ4.2))
def M_laws_toIntS (aZ0 : List Int) : Option (List Int) :=
  (grd (0 ≤ (aZ0.length : Int) ∧ (aZ0.length : Int) ≤ (aZ0.length : Int) ∧ (aZ0.length : Int) * ((8 : Nat) : Int) ≤ 140737488355328 ∧ (aZ0.length : Int) ≤ 9223372036854775807)).bind fun uZ1 => bnd (List.replicate (Int.toNat (aZ0.length : Int)) 0) fun lZ2 => (iter (M_laws_toIntSL1 aZ0) N0 (0, lZ2)).bind fun oZ11 => some oZ11
def M_spec_l1In (xZ0 : Int) (aZ0 : Int) (bZ0 : Int) : Option Bool :=
  cond (decide (aZ0 ≤ xZ0)) (some (decide (xZ0 ≤ bZ0))) (some false)
def M_spec_l2Sign (bZ0 : Int) : Option Bool :=
  cond (decide (97 ≤ bZ0)) (cond (decide (bZ0 ≤ 122)) (some true) (cond (decide (48 ≤ bZ0)) (some (decide (bZ0 ≤ 57))) (some false))) (cond (decide (48 ≤ bZ0)) (some (decide (bZ0 ≤ 57))) (some false))
def M_spec_l2NameL1 (sZ0 : ByteArray) (sZ7 : Int) : Option (Int ⊕ (Unit ⊕ Bool)) :=
  cond (decide (sZ7 < (sZ0.size : Int))) ((getz sZ0 sZ7).bind fun yZ9 => (M_spec_l2Sign (yZ9.toNat : Int)).bind fun rZ10 => cond (!rZ10) (some (.inr (.inr false))) (some (.inl (IntKind.wrap .i64 (sZ7 + 1))))) (some (.inr (.inl ())))
def M_spec_l2Name (sZ0 : ByteArray) : Option Bool :=
  ((M_spec_l1In (sZ0.size : Int) 1 8).bind fun rZ1 => cond (!rZ1) (some true) ((getz sZ0 0).bind fun yZ3 => cond (decide ((yZ3.toNat : Int) < 97)) (some true) (some (decide (122 < (yZ3.toNat : Int))))) : Option Bool).bind fun oZ5 => cond (oZ5) (some false) ((iter (M_spec_l2NameL1 sZ0) N0 0).bind fun oZ12 => (match oZ12 with | .inl vZ13 => some true | .inr xZ14 => some xZ14))
def M_spec_l2FindL1 (listZ0 : List ByteArray) (nameZ0 : ByteArray) (sZ1 : Int) : Option (Int ⊕ (Unit ⊕ Int)) :=
  cond (decide (sZ1 < (listZ0.length : Int))) ((geti listZ0 sZ1).bind fun yZ3 => cond (yZ3.toList == nameZ0.toList) (some (.inr (.inr sZ1))) (some (.inl (IntKind.wrap .i64 (sZ1 + 1))))) (some (.inr (.inl ())))
def M_spec_l2Find (listZ0 : List ByteArray) (nameZ0 : ByteArray) : Option Int :=
  (iter (M_spec_l2FindL1 listZ0 nameZ0) N0 0).bind fun oZ5 => (match oZ5 with | .inl vZ6 => some (-1) | .inr xZ7 => some xZ7)
def M_spec_l2Fiber (fZ0 : TFiber) (nodesZ0 : Int) : Option Bool :=
  (M_spec_l1In fZ0.A 0 (IntKind.wrap .i64 (nodesZ0 - 1))).bind fun rZ1 => cond (rZ1) ((M_spec_l1In fZ0.B (IntKind.wrap .i64 (fZ0.A + 1)) (IntKind.wrap .i64 (nodesZ0 - 1))).bind fun rZ3 => cond (rZ3) ((M_spec_l1In fZ0.Length 1 5000).bind fun rZ5 => cond (rZ5) ((M_spec_l1In fZ0.Risk 0 9).bind fun rZ7 => some rZ7) (some false)) (some false)) (some false)
def M_spec_l2Before (fZ0 : TFiber) (gZ0 : TFiber) : Option Int :=
  cond (fZ0.A != gZ0.A) (some (IntKind.wrap .i64 (fZ0.A - gZ0.A))) (cond (fZ0.B != gZ0.B) (some (IntKind.wrap .i64 (fZ0.B - gZ0.B))) (cond (fZ0.Length != gZ0.Length) (some (IntKind.wrap .i64 (fZ0.Length - gZ0.Length))) (some (IntKind.wrap .i64 (fZ0.Risk - gZ0.Risk)))))
def M_spec_l2GoodL1 (nZ0 : TNetwork) (sZ5 : Int) : Option (Int ⊕ (Unit ⊕ Bool)) :=
  cond (decide (sZ5 < (nZ0.Nodes.length : Int))) (((geti nZ0.Nodes sZ5).bind fun yZ7 => (M_spec_l2Name yZ7).bind fun rZ8 => cond (!rZ8) (some true) ((M_spec_l2Find nZ0.Nodes yZ7).bind fun rZ10 => some (rZ10 != sZ5)) : Option Bool).bind fun oZ11 => cond (oZ11) (some (.inr (.inr false))) (some (.inl (IntKind.wrap .i64 (sZ5 + 1))))) (some (.inr (.inl ())))
def M_spec_l2GoodL2 (nZ0 : TNetwork) (sZ16 : Int) : Option (Int ⊕ (Unit ⊕ Bool)) :=
  cond (decide (sZ16 < (nZ0.Fibers.length : Int))) (((geti nZ0.Fibers sZ16).bind fun yZ18 => (M_spec_l2Fiber yZ18 (nZ0.Nodes.length : Int)).bind fun rZ19 => cond (!rZ19) (some true) (cond (decide (0 < sZ16)) ((geti nZ0.Fibers (IntKind.wrap .i64 (sZ16 - 1))).bind fun yZ22 => (M_spec_l2Before yZ22 yZ18).bind fun rZ23 => some (decide (0 < rZ23))) (some false)) : Option Bool).bind fun oZ24 => cond (oZ24) (some (.inr (.inr false))) (some (.inl (IntKind.wrap .i64 (sZ16 + 1))))) (some (.inr (.inl ())))
def M_spec_l2Good (nZ0 : TNetwork) : Option Bool :=
  ((M_spec_l1In (nZ0.Nodes.length : Int) 2 8).bind fun rZ1 => cond (!rZ1) (some true) (some (decide (14 < (nZ0.Fibers.length : Int)))) : Option Bool).bind fun oZ3 => cond (oZ3) (some false) ((iter (M_spec_l2GoodL1 nZ0) N0 0).bind fun oZ13 => (match oZ13 with | .inl vZ14 => (iter (M_spec_l2GoodL2 nZ0) N0 0).bind fun oZ26 => (match oZ26 with | .inl vZ27 => some true | .inr xZ28 => some xZ28) | .inr xZ15 => some xZ15))
def M_spec_l1HasL1 (lZ0 : List Int) (nZ0 : Int) (sZ1 : Int) : Option (Int ⊕ (Unit ⊕ Bool)) :=
  cond (decide (sZ1 < (lZ0.length : Int))) ((geti lZ0 sZ1).bind fun yZ3 => cond (yZ3 == nZ0) (some (.inr (.inr true))) (some (.inl (IntKind.wrap .i64 (sZ1 + 1))))) (some (.inr (.inl ())))
def M_spec_l1Has (lZ0 : List Int) (nZ0 : Int) : Option Bool :=
  (iter (M_spec_l1HasL1 lZ0 nZ0) N0 0).bind fun oZ5 => (match oZ5 with | .inl vZ6 => some false | .inr xZ7 => some xZ7)
def M_spec_l2Other (nZ0 : TNetwork) (fiberZ0 : Int) (nodeZ0 : Int) : Option Int :=
  (geti nZ0.Fibers fiberZ0).bind fun yZ1 => cond (nodeZ0 == yZ1.A) (some yZ1.B) (cond (nodeZ0 == yZ1.B) (some yZ1.A) (some (-1)))
def M_spec_l17WalkL1 (nZ0 : TNetwork) (ringZ0 : List Int) (sZ1 : Int × Int × List Int) : Option ((Int × Int × List Int) ⊕ ((Int × List Int) ⊕ (List Int × Bool))) :=
  cond (decide (sZ1.2.1 < (ringZ0.length : Int))) (((geti ringZ0 sZ1.2.1).bind fun yZ3 => (M_spec_l1In yZ3 0 (IntKind.wrap .i64 ((nZ0.Fibers.length : Int) - 1))).bind fun rZ4 => cond (!rZ4) (some true) ((slT ringZ0 sZ1.2.1).bind fun lZ6 => (M_spec_l1Has lZ6 yZ3).bind fun rZ7 => cond (rZ7) (some true) ((M_spec_l1Has sZ1.2.2 sZ1.1).bind fun rZ9 => some rZ9)) : Option Bool).bind fun oZ10 => cond (oZ10) (some (.inr (.inr (sZ1.2.2, false)))) (bnd ([sZ1.1]) fun lZ12 => (grd ((sZ1.2.2.length + 1) * 8 ≤ 140737488355328)).bind fun uZ15 => bnd (sZ1.2.2 ++ lZ12) fun lZ16 => (geti ringZ0 sZ1.2.1).bind fun yZ19 => (M_spec_l2Other nZ0 yZ19 sZ1.1).bind fun rZ20 => cond (decide (rZ20 < 0)) (some (.inr (.inr (lZ16, false)))) (some (.inl (rZ20, IntKind.wrap .i64 (sZ1.2.1 + 1), lZ16))))) (some (.inr (.inl (sZ1.1, sZ1.2.2))))
def M_spec_l17Walk (nZ0 : TNetwork) (ringZ0 : List Int) (fromZ0 : Int) : Option (List Int × Bool) :=
  (iter (M_spec_l17WalkL1 nZ0 ringZ0) N0 (fromZ0, 0, [])).bind fun oZ22 => (match oZ22 with | .inl vZ23 => cond (vZ23.1 == fromZ0) (some (vZ23.2, (decide (1 < (ringZ0.length : Int))))) (some (vZ23.2, false)) | .inr xZ24 => some xZ24)
def M_spec_l17BackL1 (ringZ0 : List Int) (sZ1 : Int × List Int) : Option ((Int × List Int) ⊕ (List Int)) :=
  cond (decide (0 ≤ sZ1.1)) ((geti ringZ0 sZ1.1).bind fun yZ3 => bnd ([yZ3]) fun lZ4 => (grd ((sZ1.2.length + 1) * 8 ≤ 140737488355328)).bind fun uZ7 => bnd (sZ1.2 ++ lZ4) fun lZ8 => some (.inl (IntKind.wrap .i64 (sZ1.1 - 1), lZ8))) (some (.inr sZ1.2))
def M_spec_l17Back (ringZ0 : List Int) : Option (List Int) :=
  (iter (M_spec_l17BackL1 ringZ0) N0 (IntKind.wrap .i64 ((ringZ0.length : Int) - 1), [])).bind fun oZ11 => some oZ11
def M_spec_l17LessL1 (aZ0 : List Int) (bZ0 : List Int) (sZ2 : Int) : Option (Int ⊕ (Unit ⊕ Bool)) :=
  cond (decide (sZ2 < (aZ0.length : Int))) ((geti aZ0 sZ2).bind fun yZ4 => (geti bZ0 sZ2).bind fun yZ5 => cond (yZ4 != yZ5) (some (.inr (.inr (decide (yZ4 < yZ5))))) (some (.inl (IntKind.wrap .i64 (sZ2 + 1))))) (some (.inr (.inl ())))
def M_spec_l17Less (aZ0 : List Int) (bZ0 : List Int) : Option Bool :=
  cond ((aZ0.length : Int) != (bZ0.length : Int)) (some (decide ((aZ0.length : Int) < (bZ0.length : Int)))) ((iter (M_spec_l17LessL1 aZ0 bZ0) N0 0).bind fun oZ7 => (match oZ7 with | .inl vZ8 => some false | .inr xZ9 => some xZ9))
def M_spec_l17GoodL2 (sZ1 : Int) (rZ3 : List Int × Bool) (sZ5 : Bool × Int) : Option ((Bool × Int) ⊕ Bool) :=
  cond (decide (sZ5.2 < (rZ3.1.length : Int))) (cond (sZ5.1) ((grd (0 ≤ sZ5.2 ∧ sZ5.2 < (rZ3.1.length : Int))).bind fun kZ8 => (rZ3.1[(Int.toNat sZ5.2)]?).bind fun yZ9 => some (.inl (decide (sZ1 ≤ yZ9), IntKind.wrap .i64 (sZ5.2 + 1)))) (some (.inl (false, IntKind.wrap .i64 (sZ5.2 + 1))))) (some (.inr sZ5.1))
def M_spec_l17GoodL1 (nZ0 : TNetwork) (ringZ0 : List Int) (sZ1 : Int) : Option (Int ⊕ (Unit ⊕ Bool)) :=
  cond (decide (sZ1 < (nZ0.Nodes.length : Int))) ((M_spec_l17Walk nZ0 ringZ0 sZ1).bind fun rZ3 => cond (!rZ3.2) (some (.inl (IntKind.wrap .i64 (sZ1 + 1)))) ((iter (M_spec_l17GoodL2 sZ1 rZ3) N0 (true, 0)).bind fun oZ10 => cond (oZ10) ((M_spec_l17Back ringZ0).bind fun rZ12 => (M_spec_l17Less rZ12 ringZ0).bind fun rZ13 => some (.inr (.inr (!rZ13)))) (some (.inr (.inr false))))) (some (.inr (.inl ())))
def M_spec_l17Good (nZ0 : TNetwork) (ringZ0 : List Int) : Option Bool :=
  (iter (M_spec_l17GoodL1 nZ0 ringZ0) N0 0).bind fun oZ14 => (match oZ14 with | .inl vZ15 => some false | .inr xZ16 => some xZ16)
def M_spec_IsRing (nZ0 : TNetwork) (ringZ0 : List Int) : Option Bool :=
  (M_spec_l2Good nZ0).bind fun rZ1 => cond (rZ1) ((M_spec_l17Good nZ0 ringZ0).bind fun rZ3 => some rZ3) (some false)
def M_spec_l17NodesL1 (nZ0 : TNetwork) (ringZ0 : List Int) (sZ1 : Int) : Option (Int ⊕ (Unit ⊕ (List Int))) :=
  cond (decide (sZ1 < (nZ0.Nodes.length : Int))) ((M_spec_l17Walk nZ0 ringZ0 sZ1).bind fun rZ3 => cond (rZ3.2) (some (.inr (.inr rZ3.1))) (some (.inl (IntKind.wrap .i64 (sZ1 + 1))))) (some (.inr (.inl ())))
def M_spec_l17Nodes (nZ0 : TNetwork) (ringZ0 : List Int) : Option (List Int) :=
  (iter (M_spec_l17NodesL1 nZ0 ringZ0) N0 0).bind fun oZ5 => (match oZ5 with | .inl vZ6 => some ([]) | .inr xZ7 => some xZ7)
def M_spec_RingNodes (nZ0 : TNetwork) (ringZ0 : List Int) : Option (List Int × Bool) :=
  (M_spec_IsRing nZ0 ringZ0).bind fun rZ1 => cond (!rZ1) (some (([]), false)) ((M_spec_l17Nodes nZ0 ringZ0).bind fun rZ3 => some (rZ3, true))
def M_impl_within (nZ0 : Int) (lowZ0 : Int) (highZ0 : Int) : Option Bool :=
  cond (decide (lowZ0 ≤ nZ0)) (some (decide (nZ0 ≤ highZ0))) (some false)
def M_impl_isNameL1 (sZ0 : ByteArray) (sZ1 : Int) : Option (Int ⊕ (Unit ⊕ Bool)) :=
  cond (decide (sZ1 < (sZ0.size : Int))) (((getz sZ0 sZ1).bind fun yZ3 => cond (decide (97 ≤ (yZ3.toNat : Int))) (cond (decide (48 ≤ (yZ3.toNat : Int))) (some (decide ((yZ3.toNat : Int) ≤ 122), decide ((yZ3.toNat : Int) ≤ 57))) (some (decide ((yZ3.toNat : Int) ≤ 122), false))) (cond (decide (48 ≤ (yZ3.toNat : Int))) (some (false, decide ((yZ3.toNat : Int) ≤ 57))) (some (false, false))) : Option (Bool × Bool)).bind fun oZ7 => cond (!oZ7.1) (cond (!oZ7.2) (some (.inr (.inr false))) (cond (sZ1 == 0) (some (.inr (.inr false))) (some (.inl (IntKind.wrap .i64 (sZ1 + 1)))))) (some (.inl (IntKind.wrap .i64 (sZ1 + 1))))) (some (.inr (.inl ())))
def M_impl_isName (sZ0 : ByteArray) : Option Bool :=
  (iter (M_impl_isNameL1 sZ0) N0 0).bind fun oZ11 => (match oZ11 with | .inl vZ12 => (M_impl_within (sZ0.size : Int) 1 8).bind fun rZ14 => some rZ14 | .inr xZ13 => some xZ13)
def M_slices_Index_Lstring_stringL1 (sZ0 : List ByteArray) (vZ0 : ByteArray) (sZ1 : Int) : Option (Int ⊕ (Unit ⊕ Int)) :=
  cond (decide (sZ1 < (sZ0.length : Int))) ((geti sZ0 sZ1).bind fun yZ3 => cond (vZ0.toList == yZ3.toList) (some (.inr (.inr sZ1))) (some (.inl (IntKind.wrap .i64 (sZ1 + 1))))) (some (.inr (.inl ())))
def M_slices_Index_Lstring_string (sZ0 : List ByteArray) (vZ0 : ByteArray) : Option Int :=
  (iter (M_slices_Index_Lstring_stringL1 sZ0 vZ0) N0 0).bind fun oZ5 => (match oZ5 with | .inl vZ6 => some (-1) | .inr xZ7 => some xZ7)
def M_slices_Contains_Lstring_string (sZ0 : List ByteArray) (vZ0 : ByteArray) : Option Bool :=
  (M_slices_Index_Lstring_string sZ0 vZ0).bind fun rZ1 => some (decide (0 ≤ rZ1))
def M_cmp_isNaN_int (xZ0 : Int) : Option Bool :=
  some (xZ0 != xZ0)
def M_cmp_Compare_int (xZ0 : Int) (yZ0 : Int) : Option Int :=
  (M_cmp_isNaN_int xZ0).bind fun rZ1 => (M_cmp_isNaN_int yZ0).bind fun rZ2 => cond (rZ1) (cond (rZ2) (some 0) (some (-1))) (cond (rZ2) (some 1) (cond (decide (xZ0 < yZ0)) (some (-1)) (cond (decide (yZ0 < xZ0)) (some 1) (some 0))))
def M_cmp_Or_intL1 (valsZ0 : List Int) (sZ1 : Int) : Option (Int ⊕ (Unit ⊕ Int)) :=
  cond (decide (sZ1 < (valsZ0.length : Int))) ((geti valsZ0 sZ1).bind fun yZ3 => cond (yZ3 != 0) (some (.inr (.inr yZ3))) (some (.inl (IntKind.wrap .i64 (sZ1 + 1))))) (some (.inr (.inl ())))
def M_cmp_Or_int (valsZ0 : List Int) : Option Int :=
  (iter (M_cmp_Or_intL1 valsZ0) N0 0).bind fun oZ5 => (match oZ5 with | .inl vZ6 => some 0 | .inr xZ7 => some xZ7)
def M_impl_compareFibers (aZ0 : TFiber) (bZ0 : TFiber) : Option Int :=
  (M_cmp_Compare_int aZ0.A bZ0.A).bind fun rZ1 => (M_cmp_Compare_int aZ0.B bZ0.B).bind fun rZ2 => (M_cmp_Compare_int aZ0.Length bZ0.Length).bind fun rZ3 => (M_cmp_Compare_int aZ0.Risk bZ0.Risk).bind fun rZ4 => bnd ([rZ1, rZ2, rZ3, rZ4]) fun lZ5 => (M_cmp_Or_int lZ5).bind fun rZ9 => some rZ9
def M_impl_IsValidNetworkL1 (nZ0 : TNetwork) (sZ1 : Int) : Option (Int ⊕ (Unit ⊕ Bool)) :=
  cond (decide (sZ1 < (nZ0.Nodes.length : Int))) ((geti nZ0.Nodes sZ1).bind fun yZ3 => (M_impl_isName yZ3).bind fun rZ4 => cond (!rZ4) (some (.inr (.inr false))) ((slT nZ0.Nodes sZ1).bind fun lZ6 => (M_slices_Contains_Lstring_string lZ6 yZ3).bind fun rZ7 => cond (rZ7) (some (.inr (.inr false))) (some (.inl (IntKind.wrap .i64 (sZ1 + 1)))))) (some (.inr (.inl ())))
def M_impl_IsValidNetworkL2 (nZ0 : TNetwork) (sZ12 : Int) : Option (Int ⊕ (Unit ⊕ Bool)) :=
  cond (decide (sZ12 < (nZ0.Fibers.length : Int))) ((geti nZ0.Fibers sZ12).bind fun yZ14 => cond (decide (yZ14.A < 0)) (some (.inr (.inr false))) (cond (decide (yZ14.B ≤ yZ14.A)) (some (.inr (.inr false))) (cond (decide ((nZ0.Nodes.length : Int) ≤ yZ14.B)) (some (.inr (.inr false))) ((M_impl_within yZ14.Length 1 5000).bind fun rZ18 => cond (!rZ18) (some (.inr (.inr false))) ((M_impl_within yZ14.Risk 0 9).bind fun rZ20 => cond (!rZ20) (some (.inr (.inr false))) (cond (decide (0 < sZ12)) ((geti nZ0.Fibers (IntKind.wrap .i64 (sZ12 - 1))).bind fun yZ23 => (M_impl_compareFibers yZ23 yZ14).bind fun rZ24 => cond (decide (0 < rZ24)) (some (.inr (.inr false))) (some (.inl (IntKind.wrap .i64 (sZ12 + 1))))) (some (.inl (IntKind.wrap .i64 (sZ12 + 1)))))))))) (some (.inr (.inl ())))
def M_impl_IsValidNetwork (nZ0 : TNetwork) : Option Bool :=
  (iter (M_impl_IsValidNetworkL1 nZ0) N0 0).bind fun oZ9 => (match oZ9 with | .inl vZ10 => (iter (M_impl_IsValidNetworkL2 nZ0) N0 0).bind fun oZ26 => (match oZ26 with | .inl vZ27 => (M_impl_within (nZ0.Nodes.length : Int) 2 8).bind fun rZ29 => cond (rZ29) (some (decide ((nZ0.Fibers.length : Int) ≤ 14))) (some false) | .inr xZ28 => some xZ28) | .inr xZ11 => some xZ11)
def M_slices_Index_Lint_intL1 (sZ0 : List Int) (vZ0 : Int) (sZ1 : Int) : Option (Int ⊕ (Unit ⊕ Int)) :=
  cond (decide (sZ1 < (sZ0.length : Int))) ((geti sZ0 sZ1).bind fun yZ3 => cond (vZ0 == yZ3) (some (.inr (.inr sZ1))) (some (.inl (IntKind.wrap .i64 (sZ1 + 1))))) (some (.inr (.inl ())))
def M_slices_Index_Lint_int (sZ0 : List Int) (vZ0 : Int) : Option Int :=
  (iter (M_slices_Index_Lint_intL1 sZ0 vZ0) N0 0).bind fun oZ5 => (match oZ5 with | .inl vZ6 => some (-1) | .inr xZ7 => some xZ7)
def M_slices_Contains_Lint_int (sZ0 : List Int) (vZ0 : Int) : Option Bool :=
  (M_slices_Index_Lint_int sZ0 vZ0).bind fun rZ1 => some (decide (0 ≤ rZ1))
def M_impl_otherEnd (fZ0 : TFiber) (nodeZ0 : Int) : Option Int :=
  cond (nodeZ0 == fZ0.A) (some fZ0.B) (cond (nodeZ0 == fZ0.B) (some fZ0.A) (some (-1)))
def M_impl_followedL1 (nZ0 : TNetwork) (ringZ0 : List Int) (sZ1 : Int × Int × List Int) : Option ((Int × Int × List Int) ⊕ ((Int × List Int) ⊕ (List Int × Int × Bool))) :=
  cond (decide (sZ1.2.1 < (ringZ0.length : Int))) ((geti ringZ0 sZ1.2.1).bind fun yZ3 => ((M_impl_within yZ3 0 (IntKind.wrap .i64 ((nZ0.Fibers.length : Int) - 1))).bind fun rZ4 => cond (!rZ4) (some true) ((slT ringZ0 sZ1.2.1).bind fun lZ6 => (M_slices_Contains_Lint_int lZ6 yZ3).bind fun rZ7 => some rZ7) : Option Bool).bind fun oZ8 => cond (oZ8) (some (.inr (.inr (([]), 0, false)))) (bnd ([sZ1.1]) fun lZ10 => (grd ((sZ1.2.2.length + 1) * 8 ≤ 140737488355328)).bind fun uZ13 => bnd (sZ1.2.2 ++ lZ10) fun lZ14 => (geti nZ0.Fibers yZ3).bind fun yZ17 => (M_impl_otherEnd yZ17 sZ1.1).bind fun rZ18 => cond (decide (rZ18 < 0)) (some (.inr (.inr (([]), 0, false)))) (some (.inl (rZ18, IntKind.wrap .i64 (sZ1.2.1 + 1), lZ14))))) (some (.inr (.inl (sZ1.1, sZ1.2.2))))
def M_impl_followed (nZ0 : TNetwork) (startZ0 : Int) (ringZ0 : List Int) : Option (List Int × Int × Bool) :=
  (iter (M_impl_followedL1 nZ0 ringZ0) N0 (startZ0, 0, [])).bind fun oZ20 => (match oZ20 with | .inl vZ21 => some (vZ21.2, vZ21.1, true) | .inr xZ22 => some xZ22)
def M_slices_Min_Lint_intL1 (xZ0 : List Int) (sZ3 : Int × Int) : Option ((Int × Int) ⊕ Int) :=
  cond (decide (sZ3.2 < (xZ0.length : Int))) ((geti xZ0 sZ3.2).bind fun yZ5 => some (.inl ((if yZ5 < sZ3.1 then yZ5 else sZ3.1), IntKind.wrap .i64 (sZ3.2 + 1)))) (some (.inr sZ3.1))
def M_slices_Min_Lint_int (xZ0 : List Int) : Option Int :=
  cond (decide ((xZ0.length : Int) < 1)) (none) ((geti xZ0 0).bind fun yZ2 => (iter (M_slices_Min_Lint_intL1 xZ0) N0 (yZ2, 1)).bind fun oZ6 => some oZ6)
def M_slices_Clone_Lint_int (sZ0 : List Int) : Option (List Int) :=
  cond (sZ0.isEmpty) (amb (some ([])) ((grd (sZ0.length * 8 ≤ 140737488355328)).bind fun uZ2 => some sZ0)) ((grd (sZ0.length * 8 ≤ 140737488355328)).bind fun uZ3 => some sZ0)
def M_slices_Reverse_Lint_intM1L1 (sZ1 : Int × Int × List Int) : Option ((Int × Int × List Int) ⊕ (List Int)) :=
  cond (decide (sZ1.1 < sZ1.2.1)) ((grd (0 ≤ sZ1.2.1 ∧ sZ1.2.1 < (sZ1.2.2.length : Int))).bind fun kZ3 => (sZ1.2.2[(Int.toNat sZ1.2.1)]?).bind fun yZ4 => (grd (0 ≤ sZ1.1 ∧ sZ1.1 < (sZ1.2.2.length : Int))).bind fun kZ5 => (sZ1.2.2[(Int.toNat sZ1.1)]?).bind fun yZ6 => bnd (sZ1.2.2.set (Int.toNat sZ1.1) yZ4) fun lZ7 => (lZ7[(Int.toNat sZ1.2.1)]?).bind fun yZ9 => bnd (lZ7.set (Int.toNat sZ1.2.1) yZ6) fun lZ10 => some (.inl (IntKind.wrap .i64 (sZ1.1 + 1), IntKind.wrap .i64 (sZ1.2.1 - 1), lZ10))) (some (.inr sZ1.2.2))
def M_slices_Reverse_Lint_intM1 (aaZ0 : List Int) : Option (List Int) :=
  (iter (M_slices_Reverse_Lint_intM1L1) N0 (0, IntKind.wrap .i64 ((aaZ0.length : Int) - 1), aaZ0)).bind fun oZ12 => some oZ12
def M_slices_Compare_Lint_intL1 (s1Z0 : List Int) (s2Z0 : List Int) (sZ1 : Int) : Option (Int ⊕ (Unit ⊕ Int)) :=
  cond (decide (sZ1 < (s1Z0.length : Int))) ((geti s1Z0 sZ1).bind fun yZ3 => cond (decide ((s2Z0.length : Int) ≤ sZ1)) (some (.inr (.inr 1))) ((geti s2Z0 sZ1).bind fun yZ5 => (M_cmp_Compare_int yZ3 yZ5).bind fun rZ6 => cond (rZ6 != 0) (some (.inr (.inr rZ6))) (some (.inl (IntKind.wrap .i64 (sZ1 + 1)))))) (some (.inr (.inl ())))
def M_slices_Compare_Lint_int (s1Z0 : List Int) (s2Z0 : List Int) : Option Int :=
  (iter (M_slices_Compare_Lint_intL1 s1Z0 s2Z0) N0 0).bind fun oZ8 => (match oZ8 with | .inl vZ9 => cond (decide ((s1Z0.length : Int) < (s2Z0.length : Int))) (some (-1)) (some 0) | .inr xZ10 => some xZ10)
def M_impl_aroundL1 (rZ8 : List Int × Int × Bool) (sZ14 : Int) : Option (Int ⊕ (Unit ⊕ (List Int × Bool))) :=
  cond (decide (sZ14 < (rZ8.1.length : Int))) ((grd (0 ≤ sZ14 ∧ sZ14 < (rZ8.1.length : Int))).bind fun kZ16 => (rZ8.1[(Int.toNat sZ14)]?).bind fun yZ17 => (grd (True ∧ 0 ≤ sZ14 ∧ True ∧ Int.toNat sZ14 ≤ rZ8.1.length)).bind fun uZ18 => bnd (subT rZ8.1 0 (Int.toNat sZ14)) fun lZ19 => (M_slices_Contains_Lint_int lZ19 yZ17).bind fun rZ21 => cond (rZ21) (some (.inr (.inr (([]), false)))) (some (.inl (IntKind.wrap .i64 (sZ14 + 1))))) (some (.inr (.inl ())))
def M_impl_around (nZ0 : TNetwork) (ringZ0 : List Int) : Option (List Int × Bool) :=
  (cond (decide ((ringZ0.length : Int) < 2)) (some true) ((geti ringZ0 0).bind fun yZ2 => (M_impl_within yZ2 0 (IntKind.wrap .i64 ((nZ0.Fibers.length : Int) - 1))).bind fun rZ3 => some (!rZ3)) : Option Bool).bind fun oZ4 => cond (oZ4) (some (([]), false)) ((geti ringZ0 0).bind fun yZ6 => (geti nZ0.Fibers yZ6).bind fun yZ7 => (M_impl_followed nZ0 yZ7.A ringZ0).bind fun rZ8 => (cond (!rZ8.2.2) (some true) (cond (rZ8.2.1 != yZ7.A) (some true) ((M_slices_Min_Lint_int rZ8.1).bind fun rZ11 => some (rZ11 != yZ7.A))) : Option Bool).bind fun oZ12 => cond (oZ12) (some (([]), false)) ((iter (M_impl_aroundL1 rZ8) N0 0).bind fun oZ23 => (match oZ23 with | .inl vZ24 => (M_slices_Clone_Lint_int ringZ0).bind fun rZ26 => (M_slices_Reverse_Lint_intM1 rZ26).bind fun rZ27 => bnd (subT rZ27 0 rZ26.length) fun lZ28 => (M_slices_Compare_Lint_int ringZ0 lZ28).bind fun rZ30 => some (rZ8.1, (decide (rZ30 < 0))) | .inr xZ25 => some xZ25)))
def M_impl_RingNodes (nZ0 : TNetwork) (ringZ0 : List Int) : Option (List Int × Bool) :=
  (M_impl_IsValidNetwork nZ0).bind fun rZ1 => cond (!rZ1) (some (([]), false)) ((M_impl_around nZ0 ringZ0).bind fun rZ3 => cond (!rZ3.2) (some (([]), false)) (some (rZ3.1, true)))
def M_laws_eqIntSL1 (aZ0 : List Int) (bZ0 : List Int) (sZ2 : Int) : Option (Int ⊕ (Unit ⊕ Bool)) :=
  cond (decide (sZ2 < (aZ0.length : Int))) ((geti aZ0 sZ2).bind fun yZ4 => (geti bZ0 sZ2).bind fun yZ5 => cond (yZ4 != yZ5) (some (.inr (.inr false))) (some (.inl (IntKind.wrap .i64 (sZ2 + 1))))) (some (.inr (.inl ())))
def M_laws_eqIntS (aZ0 : List Int) (bZ0 : List Int) : Option Bool :=
  cond ((aZ0.length : Int) != (bZ0.length : Int)) (some false) ((iter (M_laws_eqIntSL1 aZ0 bZ0) N0 0).bind fun oZ7 => (match oZ7 with | .inl vZ8 => some true | .inr xZ9 => some xZ9))
def M_laws_eqStringSL1 (aZ0 : List ByteArray) (bZ0 : List ByteArray) (sZ2 : Int) : Option (Int ⊕ (Unit ⊕ Bool)) :=
  cond (decide (sZ2 < (aZ0.length : Int))) ((geti aZ0 sZ2).bind fun yZ4 => (geti bZ0 sZ2).bind fun yZ5 => cond (!(yZ4.toList == yZ5.toList)) (some (.inr (.inr false))) (some (.inl (IntKind.wrap .i64 (sZ2 + 1))))) (some (.inr (.inl ())))
def M_laws_eqStringS (aZ0 : List ByteArray) (bZ0 : List ByteArray) : Option Bool :=
  cond ((aZ0.length : Int) != (bZ0.length : Int)) (some false) ((iter (M_laws_eqStringSL1 aZ0 bZ0) N0 0).bind fun oZ7 => (match oZ7 with | .inl vZ8 => some true | .inr xZ9 => some xZ9))
def M_laws_eqFiber (aZ0 : TFiber) (bZ0 : TFiber) : Option Bool :=
  cond (aZ0.A != bZ0.A) (some false) (cond (aZ0.B != bZ0.B) (some false) (cond (aZ0.Length != bZ0.Length) (some false) (cond (aZ0.Risk != bZ0.Risk) (some false) (some true))))
def M_laws_eqFiberSL1 (aZ0 : List TFiber) (bZ0 : List TFiber) (sZ2 : Int) : Option (Int ⊕ (Unit ⊕ Bool)) :=
  cond (decide (sZ2 < (aZ0.length : Int))) ((geti aZ0 sZ2).bind fun yZ4 => (geti bZ0 sZ2).bind fun yZ5 => (M_laws_eqFiber yZ4 yZ5).bind fun rZ6 => cond (!rZ6) (some (.inr (.inr false))) (some (.inl (IntKind.wrap .i64 (sZ2 + 1))))) (some (.inr (.inl ())))
def M_laws_eqFiberS (aZ0 : List TFiber) (bZ0 : List TFiber) : Option Bool :=
  cond ((aZ0.length : Int) != (bZ0.length : Int)) (some false) ((iter (M_laws_eqFiberSL1 aZ0 bZ0) N0 0).bind fun oZ8 => (match oZ8 with | .inl vZ9 => some true | .inr xZ10 => some xZ10))
def M_laws_eqNetwork (aZ0 : TNetwork) (bZ0 : TNetwork) : Option Bool :=
  (M_laws_eqStringS aZ0.Nodes bZ0.Nodes).bind fun rZ1 => cond (!rZ1) (some false) ((M_laws_eqFiberS aZ0.Fibers bZ0.Fibers).bind fun rZ3 => cond (!rZ3) (some false) (some true))
def M_laws_markTextL1 (sZ2 : Int × ByteArray) : Option ((Int × ByteArray) ⊕ ByteArray) :=
  cond (decide (0 < sZ2.1)) ((grd (10 ≠ 0)).bind fun uZ4 => bnd ([IntKind.wrap .u8 (IntKind.wrap .i64 (48 + (Int.tmod sZ2.1 10)))]) fun lZ5 => (grd ((b2s lZ5).size + sZ2.2.size ≤ 9223372036854775807)).bind fun uZ9 => (grd (10 ≠ 0)).bind fun uZ10 => some (.inl (IntKind.wrap .i64 (Int.tdiv sZ2.1 10), (b2s lZ5) ++ sZ2.2))) (some (.inr sZ2.2))
def M_laws_markText (kZ0 : Int) : Option ByteArray :=
  cond (decide (kZ0 ≤ 0)) (some (⟨#[109, 48]⟩ : ByteArray)) ((iter (M_laws_markTextL1) N0 (kZ0, (⟨#[]⟩ : ByteArray))).bind fun oZ11 => (grd ((⟨#[109]⟩ : ByteArray).size + oZ11.size ≤ 9223372036854775807)).bind fun uZ12 => some ((⟨#[109]⟩ : ByteArray) ++ oZ11))
def M_laws_markStringSM1L1 (sZ1 : Int × Int × List ByteArray) : Option ((Int × Int × List ByteArray) ⊕ (Int × List ByteArray)) :=
  cond (decide (sZ1.2.1 < (sZ1.2.2.length : Int))) ((M_laws_markText sZ1.1).bind fun rZ3 => (grd (0 ≤ sZ1.2.1 ∧ sZ1.2.1 < (sZ1.2.2.length : Int))).bind fun kZ4 => (sZ1.2.2[(Int.toNat sZ1.2.1)]?).bind fun yZ5 => bnd (sZ1.2.2.set (Int.toNat sZ1.2.1) rZ3) fun lZ6 => some (.inl (IntKind.wrap .i64 (sZ1.1 + 1), IntKind.wrap .i64 (sZ1.2.1 + 1), lZ6))) (some (.inr (sZ1.1, sZ1.2.2)))
def M_laws_markStringSM1 (aaZ0 : Int) (abZ0 : List ByteArray) : Option (Int × List ByteArray) :=
  (iter (M_laws_markStringSM1L1) N0 (aaZ0, 0, abZ0)).bind fun oZ8 => some (oZ8.1, oZ8.2)
def M_laws_markFiberSM1L1 (sZ1 : Int × Int × List TFiber) : Option ((Int × Int × List TFiber) ⊕ (Int × List TFiber)) :=
  cond (decide (sZ1.2.1 < (sZ1.2.2.length : Int))) ((grd (0 ≤ sZ1.2.1 ∧ sZ1.2.1 < (sZ1.2.2.length : Int))).bind fun kZ3 => (sZ1.2.2[(Int.toNat sZ1.2.1)]?).bind fun yZ4 => bnd (sZ1.2.2.set (Int.toNat sZ1.2.1) (⟨sZ1.1, yZ4.B, yZ4.Length, yZ4.Risk⟩ : TFiber)) fun lZ5 => (lZ5[(Int.toNat sZ1.2.1)]?).bind fun yZ7 => bnd (lZ5.set (Int.toNat sZ1.2.1) (⟨yZ7.A, IntKind.wrap .i64 (sZ1.1 + 1), yZ7.Length, yZ7.Risk⟩ : TFiber)) fun lZ8 => (lZ8[(Int.toNat sZ1.2.1)]?).bind fun yZ10 => bnd (lZ8.set (Int.toNat sZ1.2.1) (⟨yZ10.A, yZ10.B, IntKind.wrap .i64 ((IntKind.wrap .i64 (sZ1.1 + 1)) + 1), yZ10.Risk⟩ : TFiber)) fun lZ11 => (lZ11[(Int.toNat sZ1.2.1)]?).bind fun yZ13 => bnd (lZ11.set (Int.toNat sZ1.2.1) (⟨yZ13.A, yZ13.B, yZ13.Length, IntKind.wrap .i64 ((IntKind.wrap .i64 ((IntKind.wrap .i64 (sZ1.1 + 1)) + 1)) + 1)⟩ : TFiber)) fun lZ14 => some (.inl (IntKind.wrap .i64 ((IntKind.wrap .i64 ((IntKind.wrap .i64 ((IntKind.wrap .i64 (sZ1.1 + 1)) + 1)) + 1)) + 1), IntKind.wrap .i64 (sZ1.2.1 + 1), lZ14))) (some (.inr (sZ1.1, sZ1.2.2)))
def M_laws_markFiberSM1 (aaZ0 : Int) (abZ0 : List TFiber) : Option (Int × List TFiber) :=
  (iter (M_laws_markFiberSM1L1) N0 (aaZ0, 0, abZ0)).bind fun oZ16 => some (oZ16.1, oZ16.2)
def M_laws_markNetworkM1 (aaZ0 : Int) (abZ0 : List ByteArray) (acZ0 : List TFiber) : Option (Int × List ByteArray × List TFiber) :=
  (M_laws_markStringSM1 aaZ0 abZ0).bind fun rZ1 => (M_laws_markFiberSM1 rZ1.1 acZ0).bind fun rZ2 => some (rZ2.1, rZ1.2, rZ2.2)
def M_laws_markIntSM1L1 (sZ1 : Int × Int × List Int) : Option ((Int × Int × List Int) ⊕ (Int × List Int)) :=
  cond (decide (sZ1.2.1 < (sZ1.2.2.length : Int))) ((grd (0 ≤ sZ1.2.1 ∧ sZ1.2.1 < (sZ1.2.2.length : Int))).bind fun kZ3 => (sZ1.2.2[(Int.toNat sZ1.2.1)]?).bind fun yZ4 => bnd (sZ1.2.2.set (Int.toNat sZ1.2.1) sZ1.1) fun lZ5 => some (.inl (IntKind.wrap .i64 (sZ1.1 + 1), IntKind.wrap .i64 (sZ1.2.1 + 1), lZ5))) (some (.inr (sZ1.1, sZ1.2.2)))
def M_laws_markIntSM1 (aaZ0 : Int) (abZ0 : List Int) : Option (Int × List Int) :=
  (iter (M_laws_markIntSM1L1) N0 (aaZ0, 0, abZ0)).bind fun oZ7 => some (oZ7.1, oZ7.2)
def M_laws_heldIntSL1 (aZ0 : List Int) (sZ1 : Int × Int) : Option ((Int × Int) ⊕ (Int ⊕ Int)) :=
  cond (decide (sZ1.2 < (aZ0.length : Int))) ((geti aZ0 sZ1.2).bind fun yZ3 => cond (yZ3 != sZ1.1) (some (.inr (.inr (-1)))) (some (.inl (IntKind.wrap .i64 (sZ1.1 + 1), IntKind.wrap .i64 (sZ1.2 + 1))))) (some (.inr (.inl sZ1.1)))
def M_laws_heldIntS (aZ0 : List Int) (kZ0 : Int) : Option Int :=
  (iter (M_laws_heldIntSL1 aZ0) N0 (kZ0, 0)).bind fun oZ5 => (match oZ5 with | .inl vZ6 => some vZ6 | .inr xZ7 => some xZ7)
def M_laws_FnExactRingNodes (aNZ0 : TNetwork) (aRingZ0 : List Int) : Option Bool :=
  cond (decide (1048576 < (aRingZ0.length : Int))) (some true) ((M_laws_szNetwork aNZ0 1048576).bind fun rZ2 => cond (decide (rZ2 < 0)) (some true) ((M_laws_toNetwork aNZ0).bind fun rZ4 => (M_laws_toIntS aRingZ0).bind fun rZ5 => (M_spec_RingNodes (⟨rZ4.Nodes, rZ4.Fibers⟩ : TNetwork) rZ5).bind fun rZ6 => (M_laws_toNetwork aNZ0).bind fun rZ7 => (M_laws_toIntS aRingZ0).bind fun rZ8 => (M_impl_RingNodes (⟨rZ7.Nodes, rZ7.Fibers⟩ : TNetwork) rZ8).bind fun rZ9 => ((M_laws_eqIntS rZ9.1 rZ6.1).bind fun rZ10 => cond (!rZ10) (some true) (some (!(rZ9.2 == rZ6.2))) : Option Bool).bind fun oZ12 => cond (oZ12) (some false) ((M_laws_toNetwork aNZ0).bind fun rZ14 => (M_laws_eqNetwork (⟨rZ7.Nodes, rZ7.Fibers⟩ : TNetwork) (⟨rZ14.Nodes, rZ14.Fibers⟩ : TNetwork)).bind fun rZ15 => cond (!rZ15) (some false) ((M_laws_toIntS aRingZ0).bind fun rZ17 => (M_laws_eqIntS rZ8 rZ17).bind fun rZ18 => cond (!rZ18) (some false) ((M_laws_markNetworkM1 1 rZ7.Nodes rZ7.Fibers).bind fun rZ20 => (M_laws_markIntSM1 rZ20.1 rZ8).bind fun rZ21 => (cond (decide (rZ21.1 < 0)) (some true) ((M_laws_eqIntS rZ9.1 rZ6.1).bind fun rZ23 => cond (!rZ23) (some true) (some (!(rZ9.2 == rZ6.2)))) : Option Bool).bind fun oZ25 => cond (oZ25) (some false) ((M_laws_markIntSM1 1 rZ9.1).bind fun rZ27 => bnd (subT rZ27.2 0 rZ9.1.length) fun lZ28 => (M_laws_heldIntS lZ28 1).bind fun rZ30 => cond (decide (rZ30 < 0)) (some false) (cond (rZ30 != rZ27.1) (some false) ((M_laws_toNetwork aNZ0).bind fun rZ33 => (M_laws_toIntS aRingZ0).bind fun rZ34 => (M_impl_RingNodes (⟨rZ33.Nodes, rZ33.Fibers⟩ : TNetwork) rZ34).bind fun rZ35 => ((M_laws_eqIntS rZ35.1 rZ6.1).bind fun rZ36 => cond (!rZ36) (some true) (some (!(rZ35.2 == rZ6.2))) : Option Bool).bind fun oZ38 => cond (oZ38) (some false) ((M_laws_heldIntS lZ28 1).bind fun rZ40 => cond (decide (rZ40 < 0)) (some false) (cond (rZ40 != rZ27.1) (some false) (some true)))))))))))
end Vs

namespace Vs
open Go Go.Proofs
theorem hmix : Try.prog.follows .mixedOrders = true := Try.checked.mixed
def A38L1 : ACode := (.seq (.seq (.reg [Zm 12 5,Zm 13 0,Zk 14 13,Zb 15 .lss 12 14] []) (.cond (Zt 15) .skip (.exit 0))) (.seq (.blk 1 (.seq (.reg [Zm 18 1,Zm 19 0,Zm 20 5,Zx 21 1 19 20,Zl 22 21,Zo 23 (.lenz (Zt 22)),Zb 24 .sub 18 23,Zm 1 24] []) (.seq (.reg [Zm 25 1,Zd 26 .lss 25 0] []) (.cond (Zt 26) (.seq (.reg [Zn 4 (-1)] []) .ret) .skip)))) (.reg [Zm 16 5,Zd 17 .add 16 1,Zm 5 17] [])))
def A38R2 : ACode := (.seq (.reg [Zm 27 1,Zm 4 27] []) .ret)
def A38 : ACode := (.seq (.reg [Zn 4 0] []) (.seq (.reg [Zm 6 1,Zm 7 0,Zk 8 7,Zb 9 .sub 6 8,Zm 1 9] []) (.seq (.seq (.reg [Zm 10 1,Zd 11 .lss 10 0] []) (.cond (Zt 11) (.seq (.reg [Zn 4 (-1)] []) .ret) .skip)) (.seqa (.reg [Zn 5 0] []) (.blk 0 (.loop A38L1)) [1] [] A38R2))))
def V38 : List RV := [.t 4]
theorem m38 : mtcF Try.prog 38 2 A38 V38 = true := by kernel_rfl
def A39 : ACode := (.seq (.reg [Zn 4 0] []) (.seq (.reg [Zm 5 1,Zm 6 0,Zk 7 6,Zb 8 .sub 5 7,Zm 1 8] []) (.seq (.seq (.reg [Zm 9 1,Zd 10 .lss 9 0] []) (.cond (Zt 10) (.seq (.reg [Zn 4 (-1)] []) .ret) .skip)) (.seq (.reg [Zm 11 1,Zm 4 11] []) .ret))))
def V39 : List RV := [.t 4]
theorem m39 : mtcF Try.prog 39 2 A39 V39 = true := by kernel_rfl
def A10 : ACode := (.seq (.reg [Zo 2 (.box 2 (Zt 0)),Zn 4 0] []) (.seq (.reg [Za 5 0 2,Zl 6 5,Zm 7 1,Zo 8 (.call 38 [(Zt 6), (Zt 7)]),Zm 1 8] []) (.seq (.seq (.reg [Zm 9 1,Zd 10 .lss 9 0] []) (.cond (Zt 10) (.seq (.reg [Zn 4 (-1)] []) .ret) .skip)) (.seq (.reg [Za 11 1 2,Zl 12 11,Zm 13 1,Zo 14 (.call 39 [(Zt 12), (Zt 13)]),Zm 1 14] []) (.seq (.seq (.reg [Zm 15 1,Zd 16 .lss 15 0] []) (.cond (Zt 16) (.seq (.reg [Zn 4 (-1)] []) .ret) .skip)) (.seq (.reg [Zm 17 1,Zm 4 17] []) .ret))))))
def V10 : List RV := [.t 4]
theorem m10 : mtcF Try.prog 10 2 A10 V10 = true := by kernel_rfl
def A42L1 : ACode := (.seq (.seq (.reg [Zm 8 4,Zm 9 0,Zk 10 9,Zb 11 .lss 8 10] []) (.cond (Zt 11) .skip (.exit 0))) (.seq (.blk 1 (.reg [Zm 14 3,Zm 15 4,Zm 16 0,Zm 17 4,Zx 18 1 16 17,Zl 19 18,Zx 20 1 14 15,⟨none, .store 1 (Zt 20) (Zt 19), none⟩] [])) (.reg [Zm 12 4,Zd 13 .add 12 1,Zm 4 13] [])))
def A42R2 : ACode := (.seq (.reg [Zm 21 3,Zm 2 21] [2]) .ret)
def A42 : ACode := (.seq (.reg [Zo 2 (.mv (.c (.lst .u 1 [])))] [2]) (.seq (.reg [Zm 5 0,Zk 6 5,Zo 7 (.mks 1 (.z ⟨#[]⟩) 16 (Zt 6) (Zt 6)),Zm 3 7] [3]) (.seqa (.reg [Zn 4 0] []) (.blk 0 (.loop A42L1)) [3] [3] A42R2)))
def V42 : List RV := [.t 2]
theorem m42 : mtcF Try.prog 42 1 A42 V42 = true := by kernel_rfl
def A79 : ACode := (.seq (.reg [Zo 1 (.box 4 (Zt 0)),Zo 2 (.alloc (.agg [.i 0, .i 0, .i 0, .i 0]))] []) (.seq (.reg [Zo 3 (.alloc (.agg [.i 0, .i 0, .i 0, .i 0]))] []) (.seq (.reg [Za 4 0 1,Zl 5 4,Za 6 0 3,⟨none, .store 1 (Zt 6) (Zt 5), none⟩] []) (.seq (.reg [Za 7 1 1,Zl 8 7,Za 9 1 3,⟨none, .store 1 (Zt 9) (Zt 8), none⟩] []) (.seq (.reg [Za 10 2 1,Zl 11 10,Za 12 2 3,⟨none, .store 1 (Zt 12) (Zt 11), none⟩] []) (.seq (.reg [Za 13 3 1,Zl 14 13,Za 15 3 3,⟨none, .store 1 (Zt 15) (Zt 14), none⟩] []) (.seq (.reg [Zo 16 (.load 4 true (Zt 3)),⟨none, .store 4 (Zt 2) (Zt 16), none⟩] []) .ret)))))))
def V79 : List RV := [.c 2 4 true]
theorem m79 : mtcF Try.prog 79 1 A79 V79 = true := by kernel_rfl
def A43L1 : ACode := (.seq (.seq (.reg [Zm 8 4,Zm 9 0,Zk 10 9,Zb 11 .lss 8 10] []) (.cond (Zt 11) .skip (.exit 0))) (.seq (.blk 1 (.reg [Zm 14 3,Zm 15 4,Zm 16 0,Zm 17 4,Zx 18 4 16 17,Zo 19 (.load 4 true (Zt 18)),Zo 20 (.call 79 [(Zt 19)]),Zx 21 4 14 15,⟨none, .store 4 (Zt 21) (Zt 20), none⟩] [])) (.reg [Zm 12 4,Zd 13 .add 12 1,Zm 4 13] [])))
def A43R2 : ACode := (.seq (.reg [Zm 22 3,Zm 2 22] [2]) .ret)
def A43 : ACode := (.seq (.reg [Zo 2 (.mv (.c (.lst .u 4 [])))] [2]) (.seq (.reg [Zm 5 0,Zk 6 5,Zo 7 (.mks 4 (.agg [.i 0, .i 0, .i 0, .i 0]) 32 (Zt 6) (Zt 6)),Zm 3 7] [3]) (.seqa (.reg [Zn 4 0] []) (.blk 0 (.loop A43L1)) [3] [3] A43R2)))
def V43 : List RV := [.t 2]
theorem m43 : mtcF Try.prog 43 1 A43 V43 = true := by kernel_rfl
def A12 : ACode := (.seq (.reg [Zo 1 (.box 2 (Zt 0)),Zo 2 (.alloc (.agg [.lst .u 1 [], .lst .u 4 []]))] []) (.seq (.reg [Zo 3 (.alloc (.agg [.lst .u 1 [], .lst .u 4 []]))] []) (.seq (.reg [Za 4 0 1,Zl 5 4,Zo 6 (.call 42 [(Zt 5)]),Za 7 0 3,⟨none, .store 1 (Zt 7) (Zt 6), none⟩] []) (.seq (.reg [Za 8 1 1,Zl 9 8,Zo 10 (.call 43 [(Zt 9)]),Za 11 1 3,⟨none, .store 1 (Zt 11) (Zt 10), none⟩] []) (.seq (.reg [Zo 12 (.load 2 true (Zt 3)),⟨none, .store 2 (Zt 2) (Zt 12), none⟩] []) .ret)))))
def V12 : List RV := [.c 2 2 true]
theorem m12 : mtcF Try.prog 12 1 A12 V12 = true := by kernel_rfl
def A13L1 : ACode := (.seq (.seq (.reg [Zm 8 4,Zm 9 0,Zk 10 9,Zb 11 .lss 8 10] []) (.cond (Zt 11) .skip (.exit 0))) (.seq (.blk 1 (.reg [Zm 14 3,Zm 15 4,Zm 16 0,Zm 17 4,Zx 18 1 16 17,Zl 19 18,Zx 20 1 14 15,⟨none, .store 1 (Zt 20) (Zt 19), none⟩] [])) (.reg [Zm 12 4,Zd 13 .add 12 1,Zm 4 13] [])))
def A13R2 : ACode := (.seq (.reg [Zm 21 3,Zm 2 21] [2]) .ret)
def A13 : ACode := (.seq (.reg [Zo 2 (.mv (.c (.lst .u 1 [])))] [2]) (.seq (.reg [Zm 5 0,Zk 6 5,Zo 7 (.mks 1 (.i 0) 8 (Zt 6) (Zt 6)),Zm 3 7] [3]) (.seqa (.reg [Zn 4 0] []) (.blk 0 (.loop A13L1)) [3] [3] A13R2)))
def V13 : List RV := [.t 2]
theorem m13 : mtcF Try.prog 13 1 A13 V13 = true := by kernel_rfl
def A53 : ACode := (.seq (.reg [Zo 6 (.mv (.c (.b false)))] []) (.seq (.reg [Zm 7 0,Zm 8 1,Zb 9 .geq 7 8,Zm 10 9,⟨(some 11), .mv (Zt 0), (some (10, true))⟩,⟨(some 12), .mv (Zt 2), (some (10, true))⟩,⟨(some 13), .bin .leq (Zt 11) (Zt 12), (some (10, true))⟩,Zo 14 (.pick (Zt 10) (Zt 13) (.c (.b false))),Zm 6 14] []) .ret))
def V53 : List RV := [.t 6]
theorem m53 : mtcF Try.prog 53 3 A53 V53 = true := by kernel_rfl
def A108 : ACode := (.seq (.reg [Zo 2 (.mv (.c (.b false)))] []) (.seq (.reg [Zm 3 0,Zo 4 (.bin .geq (Zt 3) (.c (.sc (.int .u8 97)))),Zm 5 4,⟨(some 6), .mv (Zt 0), (some (5, true))⟩,⟨(some 7), .bin .leq (Zt 6) (.c (.sc (.int .u8 122))), (some (5, true))⟩,Zo 8 (.pick (Zt 5) (Zt 7) (.c (.b false))),Zm 9 8,⟨(some 10), .mv (Zt 0), (some (9, false))⟩,⟨(some 11), .bin .geq (Zt 10) (.c (.sc (.int .u8 48))), (some (9, false))⟩,⟨(some 12), .mv (Zt 11), (some (9, false))⟩,⟨(some 13), .mv (Zt 0), (some (12, true))⟩,⟨(some 14), .bin .leq (Zt 13) (.c (.sc (.int .u8 57))), (some (12, true))⟩,⟨(some 15), .pick (Zt 12) (Zt 14) (.c (.b false)), (some (9, false))⟩,Zo 16 (.pick (Zt 9) (.c (.b true)) (Zt 15)),Zm 2 16] []) .ret))
def V108 : List RV := [.t 2]
theorem m108 : mtcF Try.prog 108 1 A108 V108 = true := by kernel_rfl
def A72R1 : ACode := (.cond (Zt 17) (.seq (.reg [Zo 2 (.mv (.c (.b false)))] []) .ret) .skip)
def A72L2 : ACode := (.seq (.seq (.reg [Zm 18 3,Zm 19 0,Zo 20 (.lenz (Zt 19)),Zb 21 .lss 18 20] []) (.cond (Zt 21) .skip (.exit 0))) (.seq (.blk 1 (.seq (.reg [Zm 24 0,Zm 25 3,Zo 26 (.stri (Zt 24) (Zt 25)),Zo 27 (.call 108 [(Zt 26)]),Zo 28 (.un .not (Zt 27))] []) (.cond (Zt 28) (.seq (.reg [Zo 2 (.mv (.c (.b false)))] []) .ret) .skip))) (.reg [Zm 22 3,Zd 23 .add 22 1,Zm 3 23] [])))
def A72R3 : ACode := (.seq (.reg [Zo 2 (.mv (.c (.b true)))] []) .ret)
def A72 : ACode := (.seq (.reg [Zo 2 (.mv (.c (.b false)))] []) (.seq (.seqr (.reg [Zm 4 0,Zo 5 (.lenz (Zt 4)),Zo 6 (.call 53 [(Zt 5), (.c (.i 1)), (.c (.i 8))]),Zo 7 (.un .not (Zt 6)),Zm 8 7,⟨(some 9), .mv (Zt 0), (some (8, false))⟩,⟨(some 10), .stri (Zt 9) (.c (.i 0)), (some (8, false))⟩,⟨(some 11), .bin .lss (Zt 10) (.c (.sc (.int .u8 97))), (some (8, false))⟩,Zo 12 (.pick (Zt 8) (.c (.b true)) (Zt 11)),Zm 13 12,⟨(some 14), .mv (Zt 0), (some (13, false))⟩,⟨(some 15), .stri (Zt 14) (.c (.i 0)), (some (13, false))⟩,⟨(some 16), .bin .gtr (Zt 15) (.c (.sc (.int .u8 122))), (some (13, false))⟩,Zo 17 (.pick (Zt 13) (.c (.b true)) (Zt 16))] []) [0, 17] [] A72R1) (.seqa (.reg [Zn 3 0] []) (.blk 0 (.loop A72L2)) [] [] A72R3)))
def V72 : List RV := [.t 2]
theorem m72 : mtcF Try.prog 72 1 A72 V72 = true := by kernel_rfl
def A73L1 : ACode := (.seq (.seq (.reg [Zm 6 5,Zm 7 0,Zk 8 7,Zb 9 .lss 6 8] []) (.cond (Zt 9) .skip (.exit 0))) (.seq (.blk 1 (.seq (.reg [Zm 12 0,Zm 13 5,Zx 14 1 12 13,Zl 15 14,Zm 16 1,Zb 17 .eql 15 16] []) (.cond (Zt 17) (.seq (.reg [Zm 18 5,Zm 4 18] []) .ret) .skip))) (.reg [Zm 10 5,Zd 11 .add 10 1,Zm 5 11] [])))
def A73R2 : ACode := (.seq (.reg [Zn 4 (-1)] []) .ret)
def A73 : ACode := (.seq (.reg [Zn 4 0] []) (.seqa (.reg [Zn 5 0] []) (.blk 0 (.loop A73L1)) [] [] A73R2))
def V73 : List RV := [.t 4]
theorem m73 : mtcF Try.prog 73 2 A73 V73 = true := by kernel_rfl
def A74 : ACode := (.seq (.reg [Zo 2 (.box 4 (Zt 0)),Zo 4 (.mv (.c (.b false)))] []) (.seq (.reg [Za 5 0 2,Zl 6 5,Zm 7 1,Zd 8 .sub 7 1,Zo 9 (.call 53 [(Zt 6), (.c (.i 0)), (Zt 8)]),Zm 10 9,⟨(some 11), .fad 1 (Zt 2), (some (10, true))⟩,⟨(some 12), .load 1 false (Zt 11), (some (10, true))⟩,⟨(some 13), .fad 0 (Zt 2), (some (10, true))⟩,⟨(some 14), .load 1 false (Zt 13), (some (10, true))⟩,⟨(some 15), .bin .add (Zt 14) (.c (.i 1)), (some (10, true))⟩,⟨(some 16), .mv (Zt 1), (some (10, true))⟩,⟨(some 17), .bin .sub (Zt 16) (.c (.i 1)), (some (10, true))⟩,⟨(some 18), .call 53 [(Zt 12), (Zt 15), (Zt 17)], (some (10, true))⟩,Zo 19 (.pick (Zt 10) (Zt 18) (.c (.b false))),Zm 20 19,⟨(some 21), .fad 2 (Zt 2), (some (20, true))⟩,⟨(some 22), .load 1 false (Zt 21), (some (20, true))⟩,⟨(some 23), .call 53 [(Zt 22), (.c (.i 1)), (.c (.i 5000))], (some (20, true))⟩,Zo 24 (.pick (Zt 20) (Zt 23) (.c (.b false))),Zm 25 24,⟨(some 26), .fad 3 (Zt 2), (some (25, true))⟩,⟨(some 27), .load 1 false (Zt 26), (some (25, true))⟩,⟨(some 28), .call 53 [(Zt 27), (.c (.i 0)), (.c (.i 9))], (some (25, true))⟩,Zo 29 (.pick (Zt 25) (Zt 28) (.c (.b false))),Zm 4 29] []) .ret))
def V74 : List RV := [.t 4]
theorem m74 : mtcF Try.prog 74 2 A74 V74 = true := by kernel_rfl
def A75 : ACode := (.seq (.reg [Zo 2 (.box 4 (Zt 0)),Zo 3 (.box 4 (Zt 1)),Zn 4 0] []) (.seq (.blk 0 (.seq (.reg [Za 6 0 2,Zl 7 6,Za 8 0 3,Zl 9 8,Zb 10 .neq 7 9,Zm 5 10] []) (.cond (Zt 5) (.seq (.reg [Za 11 0 2,Zl 12 11,Za 13 0 3,Zl 14 13,Zb 15 .sub 12 14,Zm 4 15] []) .ret) (.seq (.reg [Za 17 1 2,Zl 18 17,Za 19 1 3,Zl 20 19,Zb 21 .neq 18 20,Zm 16 21] []) (.cond (Zt 16) (.seq (.reg [Za 22 1 2,Zl 23 22,Za 24 1 3,Zl 25 24,Zb 26 .sub 23 25,Zm 4 26] []) .ret) (.seq (.reg [Za 28 2 2,Zl 29 28,Za 30 2 3,Zl 31 30,Zb 32 .neq 29 31,Zm 27 32] []) (.cond (Zt 27) (.seq (.reg [Za 33 2 2,Zl 34 33,Za 35 2 3,Zl 36 35,Zb 37 .sub 34 36,Zm 4 37] []) .ret) .skip))))))) (.seq (.reg [Za 38 3 2,Zl 39 38,Za 40 3 3,Zl 41 40,Zb 42 .sub 39 41,Zm 4 42] []) .ret)))
def V75 : List RV := [.t 4]
theorem m75 : mtcF Try.prog 75 2 A75 V75 = true := by kernel_rfl
def A40R1 : ACode := (.cond (Zt 15) (.seq (.reg [Zo 2 (.mv (.c (.b false)))] []) .ret) .skip)
def A40R2 : ACode := (.cond (Zt 41) (.seq (.reg [Zo 2 (.mv (.c (.b false)))] []) .ret) .skip)
def A40L3 : ACode := (.seq (.seq (.reg [Zm 16 3,Za 17 0 1,Zl 18 17,Zk 19 18,Zb 20 .lss 16 19] []) (.cond (Zt 20) .skip (.exit 0))) (.seq (.blk 1 (.seqr (.drw [Za 23 0 1,Zl 24 23,Zm 25 3,Zx 26 1 24 25,Zl 27 26,Zo 28 (.call 72 [(Zt 27)]),Zo 29 (.un .not (Zt 28)),Zm 30 29,⟨(some 31), .fad 0 (Zt 1), (some (30, false))⟩,⟨(some 32), .load 1 false (Zt 31), (some (30, false))⟩,⟨(some 33), .fad 0 (Zt 1), (some (30, false))⟩,⟨(some 34), .load 1 false (Zt 33), (some (30, false))⟩,⟨(some 35), .mv (Zt 3), (some (30, false))⟩,⟨(some 36), .idx 1 (Zt 34) (Zt 35), (some (30, false))⟩,⟨(some 37), .load 1 false (Zt 36), (some (30, false))⟩,⟨(some 38), .call 73 [(Zt 32), (Zt 37)], (some (30, false))⟩,⟨(some 39), .mv (Zt 3), (some (30, false))⟩,⟨(some 40), .bin .neq (Zt 38) (Zt 39), (some (30, false))⟩,Zo 41 (.pick (Zt 30) (.c (.b true)) (Zt 40))] []) [1, 3, 41] [1] A40R2)) (.reg [Zm 21 3,Zd 22 .add 21 1,Zm 3 22] [])))
def A40R5 : ACode := (.cond (Zt 77) (.seq (.reg [Zo 2 (.mv (.c (.b false)))] []) .ret) .skip)
def A40L6 : ACode := (.seq (.seq (.reg [Zm 42 4,Za 43 1 1,Zl 44 43,Zk 45 44,Zb 46 .lss 42 45] []) (.cond (Zt 46) .skip (.exit 2))) (.seq (.blk 3 (.seqr (.drw [Za 49 1 1,Zl 50 49,Zm 51 4,Zx 52 4 50 51,Zo 53 (.load 4 true (Zt 52)),Za 54 0 1,Zl 55 54,Zk 56 55,Zo 57 (.call 74 [(Zt 53), (Zt 56)]),Zo 58 (.un .not (Zt 57)),Zm 59 58,⟨(some 60), .mv (Zt 4), (some (59, false))⟩,⟨(some 61), .bin .gtr (Zt 60) (.c (.i 0)), (some (59, false))⟩,⟨(some 62), .mv (Zt 61), (some (59, false))⟩,⟨(some 63), .fad 1 (Zt 1), (some (62, true))⟩,⟨(some 64), .load 1 false (Zt 63), (some (62, true))⟩,⟨(some 65), .mv (Zt 4), (some (62, true))⟩,⟨(some 66), .bin .sub (Zt 65) (.c (.i 1)), (some (62, true))⟩,⟨(some 67), .idx 4 (Zt 64) (Zt 66), (some (62, true))⟩,⟨(some 68), .load 4 true (Zt 67), (some (62, true))⟩,⟨(some 69), .fad 1 (Zt 1), (some (62, true))⟩,⟨(some 70), .load 1 false (Zt 69), (some (62, true))⟩,⟨(some 71), .mv (Zt 4), (some (62, true))⟩,⟨(some 72), .idx 4 (Zt 70) (Zt 71), (some (62, true))⟩,⟨(some 73), .load 4 true (Zt 72), (some (62, true))⟩,⟨(some 74), .call 75 [(Zt 68), (Zt 73)], (some (62, true))⟩,⟨(some 75), .bin .gtr (Zt 74) (.c (.i 0)), (some (62, true))⟩,⟨(some 76), .pick (Zt 62) (Zt 75) (.c (.b false)), (some (59, false))⟩,Zo 77 (.pick (Zt 59) (.c (.b true)) (Zt 76))] []) [1, 4, 77] [1] A40R5)) (.reg [Zm 47 4,Zd 48 .add 47 1,Zm 4 48] [])))
def A40R7 : ACode := (.seq (.reg [Zo 2 (.mv (.c (.b true)))] []) .ret)
def A40R4 : ACode := (.seqa (.reg [Zn 4 0] []) (.blk 2 (.loop A40L6)) [] [] A40R7)
def A40 : ACode := (.seq (.reg [Zo 1 (.box 2 (Zt 0)),Zo 2 (.mv (.c (.b false)))] []) (.seq (.seqr (.reg [Za 5 0 1,Zl 6 5,Zk 7 6,Zo 8 (.call 53 [(Zt 7), (.c (.i 2)), (.c (.i 8))]),Zo 9 (.un .not (Zt 8)),Zm 10 9,⟨(some 11), .fad 1 (Zt 1), (some (10, false))⟩,⟨(some 12), .load 1 false (Zt 11), (some (10, false))⟩,⟨(some 13), .len (Zt 12), (some (10, false))⟩,⟨(some 14), .bin .gtr (Zt 13) (.c (.i 14)), (some (10, false))⟩,Zo 15 (.pick (Zt 10) (.c (.b true)) (Zt 14))] []) [1, 15] [1] A40R1) (.seqa (.reg [Zn 3 0] []) (.blk 0 (.loop A40L3)) [1] [1] A40R4)))
def V40 : List RV := [.t 2]
theorem m40 : mtcF Try.prog 40 1 A40 V40 = true := by kernel_rfl
def A60L1 : ACode := (.seq (.seq (.reg [Zm 6 5,Zm 7 0,Zk 8 7,Zb 9 .lss 6 8] []) (.cond (Zt 9) .skip (.exit 0))) (.seq (.blk 1 (.seq (.reg [Zm 12 0,Zm 13 5,Zx 14 1 12 13,Zl 15 14,Zm 16 1,Zb 17 .eql 15 16] []) (.cond (Zt 17) (.seq (.reg [Zo 4 (.mv (.c (.b true)))] []) .ret) .skip))) (.reg [Zm 10 5,Zd 11 .add 10 1,Zm 5 11] [])))
def A60R2 : ACode := (.seq (.reg [Zo 4 (.mv (.c (.b false)))] []) .ret)
def A60 : ACode := (.seq (.reg [Zo 4 (.mv (.c (.b false)))] []) (.seqa (.reg [Zn 5 0] []) (.blk 0 (.loop A60L1)) [] [] A60R2))
def V60 : List RV := [.t 4]
theorem m60 : mtcF Try.prog 60 2 A60 V60 = true := by kernel_rfl
def A99 : ACode := (.seq (.reg [Zo 3 (.box 2 (Zt 0)),Zn 6 0] []) (.seq (.reg [Za 8 1 3,Zl 9 8,Zm 10 1,Zx 11 4 9 10,Zo 12 (.load 4 true (Zt 11)),Zo 7 (.alloc (.agg [.i 0, .i 0, .i 0, .i 0])),⟨none, .store 4 (Zt 7) (Zt 12), none⟩] []) (.seq (.seq (.reg [Zm 13 2] []) (.blk 0 (.seq (.reg [Za 15 0 7,Zl 16 15,Zb 17 .eql 13 16,Zm 14 17] []) (.cond (Zt 14) (.seq (.reg [Za 18 1 7,Zl 19 18,Zm 6 19] []) .ret) (.seq (.reg [Za 21 1 7,Zl 22 21,Zb 23 .eql 13 22,Zm 20 23] []) (.cond (Zt 20) (.seq (.reg [Za 24 0 7,Zl 25 24,Zm 6 25] []) .ret) .skip)))))) (.seq (.reg [Zn 6 (-1)] []) .ret))))
def V99 : List RV := [.t 6]
theorem m99 : mtcF Try.prog 99 3 A99 V99 = true := by kernel_rfl
def A76R1 : ACode := (.cond (Zt 43) (.seq (.reg [Zm 44 8,Zm 6 44,Zo 7 (.mv (.c (.b false)))] [6]) .ret) .skip)
def A76L2 : ACode := (.seq (.seq (.reg [Zm 13 10,Zm 14 1,Zk 15 14,Zb 16 .lss 13 15] []) (.cond (Zt 16) .skip (.exit 0))) (.seq (.blk 1 (.seq (.seqr (.drw [Zm 19 1,Zm 20 10,Zx 21 1 19 20,Zl 22 21,Za 23 1 3,Zl 24 23,Zk 25 24,Zd 26 .sub 25 1,Zo 27 (.call 53 [(Zt 22), (.c (.i 0)), (Zt 26)]),Zo 28 (.un .not (Zt 27)),Zm 29 28,⟨(some 30), .mv (Zt 1), (some (29, false))⟩,⟨(some 31), .mv (Zt 10), (some (29, false))⟩,⟨(some 32), .slc 1 (Zt 30) none (some (Zt 31)) none, (some (29, false))⟩,⟨(some 33), .mv (Zt 1), (some (29, false))⟩,⟨(some 34), .mv (Zt 10), (some (29, false))⟩,⟨(some 35), .idx 1 (Zt 33) (Zt 34), (some (29, false))⟩,⟨(some 36), .load 1 false (Zt 35), (some (29, false))⟩,⟨(some 37), .call 60 [(Zt 32), (Zt 36)], (some (29, false))⟩,Zo 38 (.pick (Zt 29) (.c (.b true)) (Zt 37)),Zm 39 38,⟨(some 40), .mv (Zt 8), (some (39, false))⟩,⟨(some 41), .mv (Zt 9), (some (39, false))⟩,⟨(some 42), .call 60 [(Zt 40), (Zt 41)], (some (39, false))⟩,Zo 43 (.pick (Zt 39) (.c (.b true)) (Zt 42))] []) [1, 2, 3, 8, 9, 10, 43] [3, 8] A76R1) (.seq (.reg [Zm 45 8,Zm 46 9,Zo 47 (.bsl 1 false [(Zt 46)]),Zo 48 (.app 1 8 true (Zt 45) (Zt 47)),Zm 8 48] [8]) (.seq (.drw [Zo 49 (.load 2 true (Zt 3)),Zm 50 1,Zm 51 10,Zx 52 1 50 51,Zl 53 52,Zm 54 9,Zo 55 (.call 99 [(Zt 49), (Zt 53), (Zt 54)]),Zm 9 55] []) (.seq (.reg [Zm 56 9,Zd 57 .lss 56 0] []) (.cond (Zt 57) (.seq (.reg [Zm 58 8,Zm 6 58,Zo 7 (.mv (.c (.b false)))] [6]) .ret) .skip)))))) (.reg [Zm 17 10,Zd 18 .add 17 1,Zm 10 18] [])))
def A76R3 : ACode := (.seq (.reg [Zm 59 8,Zm 60 9,Zm 61 2,Zb 62 .eql 60 61,Zm 63 62,⟨(some 64), .mv (Zt 1), (some (63, true))⟩,⟨(some 65), .len (Zt 64), (some (63, true))⟩,⟨(some 66), .bin .gtr (Zt 65) (.c (.i 1)), (some (63, true))⟩,Zo 67 (.pick (Zt 63) (Zt 66) (.c (.b false))),Zm 6 59,Zm 7 67] [6]) .ret)
def A76 : ACode := (.seq (.reg [Zo 3 (.box 2 (Zt 0)),Zo 6 (.mv (.c (.lst .u 1 []))),Zo 7 (.mv (.c (.b false)))] [6]) (.seq (.reg [Zo 11 (.bsl 1 false []),Zm 8 11] [8]) (.seq (.reg [Zm 12 2,Zm 9 12] []) (.seqa (.reg [Zn 10 0] []) (.blk 0 (.loop A76L2)) [1, 2, 8, 9] [8] A76R3))))
def V76 : List RV := [.t 6, .t 7]
theorem m76 : mtcF Try.prog 76 3 A76 V76 = true := by kernel_rfl
def A78L1 : ACode := (.seq (.seq (.reg [Zm 9 4,Zd 10 .geq 9 0] []) (.cond (Zt 10) .skip (.exit 0))) (.seq (.blk 1 (.reg [Zm 13 3,Zm 14 0,Zm 15 4,Zx 16 1 14 15,Zl 17 16,Zo 18 (.bsl 1 false [(Zt 17)]),Zo 19 (.app 1 8 true (Zt 13) (Zt 18)),Zm 3 19] [3])) (.reg [Zm 11 4,Zd 12 .sub 11 1,Zm 4 12] [])))
def A78R2 : ACode := (.seq (.reg [Zm 20 3,Zm 2 20] [2]) .ret)
def A78 : ACode := (.seq (.reg [Zo 2 (.mv (.c (.lst .u 1 [])))] [2]) (.seq (.reg [Zo 5 (.bsl 1 false []),Zm 3 5] [3]) (.seqa (.reg [Zm 6 0,Zk 7 6,Zd 8 .sub 7 1,Zm 4 8] []) (.blk 0 (.loop A78L1)) [3] [3] A78R2)))
def V78 : List RV := [.t 2]
theorem m78 : mtcF Try.prog 78 1 A78 V78 = true := by kernel_rfl
def A77L1 : ACode := (.seq (.seq (.reg [Zm 16 5,Zm 17 0,Zk 18 17,Zb 19 .lss 16 18] []) (.cond (Zt 19) .skip (.exit 0))) (.seq (.blk 1 (.seq (.drw [Zm 22 0,Zm 23 5,Zx 24 1 22 23,Zl 25 24,Zm 26 1,Zm 27 5,Zx 28 1 26 27,Zl 29 28,Zb 30 .neq 25 29] []) (.cond (Zt 30) (.seq (.drw [Zm 31 0,Zm 32 5,Zx 33 1 31 32,Zl 34 33,Zm 35 1,Zm 36 5,Zx 37 1 35 36,Zl 38 37,Zb 39 .lss 34 38,Zm 4 39] []) .ret) .skip))) (.reg [Zm 20 5,Zd 21 .add 20 1,Zm 5 21] [])))
def A77R2 : ACode := (.seq (.reg [Zo 4 (.mv (.c (.b false)))] []) .ret)
def A77 : ACode := (.seq (.reg [Zo 4 (.mv (.c (.b false)))] []) (.seq (.seq (.reg [Zm 6 0,Zk 7 6,Zm 8 1,Zk 9 8,Zb 10 .neq 7 9] []) (.cond (Zt 10) (.seq (.reg [Zm 11 0,Zk 12 11,Zm 13 1,Zk 14 13,Zb 15 .lss 12 14,Zm 4 15] []) .ret) .skip)) (.seqa (.reg [Zn 5 0] []) (.blk 0 (.loop A77L1)) [] [] A77R2)))
def V77 : List RV := [.t 4]
theorem m77 : mtcF Try.prog 77 2 A77 V77 = true := by kernel_rfl
def A41L1 : ACode := (.seq (.seq (.reg [Zm 26 9,Zm 27 6,Zk 28 27,Zb 29 .lss 26 28] []) (.cond (Zt 29) .skip (.exit 2))) (.seq (.blk 3 (.reg [Zm 32 8,Zm 33 32,⟨(some 34), .mv (Zt 6), (some (33, true))⟩,⟨(some 35), .mv (Zt 9), (some (33, true))⟩,⟨(some 36), .idx 1 (Zt 34) (Zt 35), (some (33, true))⟩,⟨(some 37), .load 1 false (Zt 36), (some (33, true))⟩,⟨(some 38), .mv (Zt 5), (some (33, true))⟩,⟨(some 39), .bin .geq (Zt 37) (Zt 38), (some (33, true))⟩,Zo 40 (.pick (Zt 33) (Zt 39) (.c (.b false))),Zm 8 40] [])) (.reg [Zm 30 9,Zd 31 .add 30 1,Zm 9 31] [])))
def A41R2 : ACode := (.seq (.reg [Zm 41 8,Zm 42 41,⟨(some 43), .mv (Zt 1), (some (42, true))⟩,⟨(some 44), .call 78 [(Zt 43)], (some (42, true))⟩,⟨(some 45), .mv (Zt 1), (some (42, true))⟩,⟨(some 46), .call 77 [(Zt 44), (Zt 45)], (some (42, true))⟩,⟨(some 47), .un .not (Zt 46), (some (42, true))⟩,Zo 48 (.pick (Zt 42) (Zt 47) (.c (.b false))),Zm 4 48] []) .ret)
def A41L3 : ACode := (.seq (.seq (.reg [Zm 10 5,Za 11 0 2,Zl 12 11,Zk 13 12,Zb 14 .lss 10 13] []) (.cond (Zt 14) .skip (.exit 0))) (.seq (.blk 1 (.seq (.reg [Zo 18 (.load 2 true (Zt 2)),Zm 19 1,Zm 20 5,Zo 21 (.call 76 [(Zt 18), (Zt 19), (Zt 20)]),Zm 17 21,Ze 22 17 0,Ze 23 17 1,Zm 6 22,Zm 7 23] [6]) (.seq (.seq (.reg [Zm 24 7,Zo 25 (.un .not (Zt 24))] []) (.cond (Zt 25) (.exit 1) .skip)) (.seq (.reg [Zo 8 (.mv (.c (.b true)))] []) (.seqa (.reg [Zn 9 0] []) (.blk 2 (.loop A41L1)) [1, 8] [] A41R2))))) (.reg [Zm 15 5,Zd 16 .add 15 1,Zm 5 16] [])))
def A41R4 : ACode := (.seq (.reg [Zo 4 (.mv (.c (.b false)))] []) .ret)
def A41 : ACode := (.seq (.reg [Zo 2 (.box 2 (Zt 0)),Zo 4 (.mv (.c (.b false)))] []) (.seqa (.reg [Zn 5 0] []) (.blk 0 (.loop A41L3)) [] [] A41R4))
def V41 : List RV := [.t 4]
theorem m41 : mtcF Try.prog 41 2 A41 V41 = true := by kernel_rfl
def A11 : ACode := (.seq (.reg [Zo 2 (.box 2 (Zt 0)),Zo 4 (.mv (.c (.b false)))] []) (.seq (.reg [Zo 5 (.load 2 true (Zt 2)),Zo 6 (.call 40 [(Zt 5)]),Zm 7 6,⟨(some 8), .load 2 true (Zt 2), (some (7, true))⟩,⟨(some 9), .mv (Zt 1), (some (7, true))⟩,⟨(some 10), .call 41 [(Zt 8), (Zt 9)], (some (7, true))⟩,Zo 11 (.pick (Zt 7) (Zt 10) (.c (.b false))),Zm 4 11] []) .ret))
def V11 : List RV := [.t 4]
theorem m11 : mtcF Try.prog 11 2 A11 V11 = true := by kernel_rfl
def A46L1 : ACode := (.seq (.seq (.reg [Zm 8 5,Za 9 0 2,Zl 10 9,Zk 11 10,Zb 12 .lss 8 11] []) (.cond (Zt 12) .skip (.exit 0))) (.seq (.blk 1 (.seq (.reg [Zo 16 (.load 2 true (Zt 2)),Zm 17 1,Zm 18 5,Zo 19 (.call 76 [(Zt 16), (Zt 17), (Zt 18)]),Zm 15 19,Ze 20 15 0,Ze 21 15 1,Zm 6 20,Zm 7 21] [6]) (.seq (.reg [Zm 22 7] []) (.cond (Zt 22) (.seq (.reg [Zm 23 6,Zm 4 23] [4]) .ret) .skip)))) (.reg [Zm 13 5,Zd 14 .add 13 1,Zm 5 14] [])))
def A46R2 : ACode := (.seq (.reg [Zo 24 (.bsl 1 false []),Zm 4 24] [4]) .ret)
def A46 : ACode := (.seq (.reg [Zo 2 (.box 2 (Zt 0)),Zo 4 (.mv (.c (.lst .u 1 [])))] [4]) (.seqa (.reg [Zn 5 0] []) (.blk 0 (.loop A46L1)) [] [] A46R2))
def V46 : List RV := [.t 4]
theorem m46 : mtcF Try.prog 46 2 A46 V46 = true := by kernel_rfl
def A17 : ACode := (.seq (.reg [Zo 2 (.box 2 (Zt 0)),Zo 4 (.mv (.c (.lst .u 1 []))),Zo 5 (.mv (.c (.b false)))] [4]) (.seq (.seq (.reg [Zo 6 (.load 2 true (Zt 2)),Zm 7 1,Zo 8 (.call 11 [(Zt 6), (Zt 7)]),Zo 9 (.un .not (Zt 8))] []) (.cond (Zt 9) (.seq (.reg [Zo 10 (.bsl 1 false []),Zm 4 10,Zo 5 (.mv (.c (.b false)))] [4]) .ret) .skip)) (.seq (.reg [Zo 11 (.load 2 true (Zt 2)),Zm 12 1,Zo 13 (.call 46 [(Zt 11), (Zt 12)]),Zm 4 13,Zo 5 (.mv (.c (.b true)))] [4]) .ret)))
def V17 : List RV := [.t 4, .t 5]
theorem m17 : mtcF Try.prog 17 2 A17 V17 = true := by kernel_rfl
def A57 : ACode := (.seq (.reg [Zo 6 (.mv (.c (.b false)))] []) (.seq (.reg [Zm 7 1,Zm 8 0,Zb 9 .leq 7 8,Zm 10 9,⟨(some 11), .mv (Zt 0), (some (10, true))⟩,⟨(some 12), .mv (Zt 2), (some (10, true))⟩,⟨(some 13), .bin .leq (Zt 11) (Zt 12), (some (10, true))⟩,Zo 14 (.pick (Zt 10) (Zt 13) (.c (.b false))),Zm 6 14] []) .ret))
def V57 : List RV := [.t 6]
theorem m57 : mtcF Try.prog 57 3 A57 V57 = true := by kernel_rfl
def A81R1 : ACode := (.seq (.reg [Zm 31 4,Zo 32 (.un .not (Zt 31)),Zm 33 32,⟨(some 34), .mv (Zt 5), (some (33, true))⟩,⟨(some 35), .un .not (Zt 34), (some (33, true))⟩,⟨(some 36), .mv (Zt 35), (some (33, true))⟩,⟨(some 37), .mv (Zt 3), (some (36, false))⟩,⟨(some 38), .bin .eql (Zt 37) (.c (.i 0)), (some (36, false))⟩,⟨(some 39), .pick (Zt 36) (.c (.b true)) (Zt 38), (some (33, true))⟩,Zo 40 (.pick (Zt 33) (Zt 39) (.c (.b false)))] []) (.cond (Zt 40) (.seq (.reg [Zo 2 (.mv (.c (.b false)))] []) .ret) .skip))
def A81L2 : ACode := (.seq (.reg [Zb 9 .lss 8 7] []) (.seq (.cond (Zt 9) .skip (.exit 0)) (.seq (.blk 1 (.seq (.reg [Zm 10 8,Zm 3 10] []) (.seqr (.drw [Zm 11 0,Zm 12 3,Zo 13 (.stri (Zt 11) (Zt 12)),Zo 14 (.bin .geq (Zt 13) (.c (.sc (.int .u8 97)))),Zm 15 14,⟨(some 16), .mv (Zt 0), (some (15, true))⟩,⟨(some 17), .mv (Zt 3), (some (15, true))⟩,⟨(some 18), .stri (Zt 16) (Zt 17), (some (15, true))⟩,⟨(some 19), .bin .leq (Zt 18) (.c (.sc (.int .u8 122))), (some (15, true))⟩,Zo 20 (.pick (Zt 15) (Zt 19) (.c (.b false))),Zm 21 0,Zm 22 3,Zo 23 (.stri (Zt 21) (Zt 22)),Zo 24 (.bin .geq (Zt 23) (.c (.sc (.int .u8 48)))),Zm 25 24,⟨(some 26), .mv (Zt 0), (some (25, true))⟩,⟨(some 27), .mv (Zt 3), (some (25, true))⟩,⟨(some 28), .stri (Zt 26) (Zt 27), (some (25, true))⟩,⟨(some 29), .bin .leq (Zt 28) (.c (.sc (.int .u8 57))), (some (25, true))⟩,Zo 30 (.pick (Zt 25) (Zt 29) (.c (.b false))),Zm 4 20,Zm 5 30] []) [0, 3, 4, 5, 7, 8] [] A81R1))) (.reg [Zd 41 .add 8 1,Zm 8 41] []))))
def A81R3 : ACode := (.seq (.reg [Zm 42 0,Zo 43 (.lenz (Zt 42)),Zo 44 (.call 57 [(Zt 43), (.c (.i 1)), (.c (.i 8))]),Zm 2 44] []) .ret)
def A81 : ACode := (.seq (.reg [Zo 2 (.mv (.c (.b false)))] []) (.seqa (.reg [Zm 6 0,Zo 7 (.lenz (Zt 6)),Zn 8 0] []) (.blk 0 (.loop A81L2)) [0] [] A81R3))
def V81 : List RV := [.t 2]
theorem m81 : mtcF Try.prog 81 1 A81 V81 = true := by kernel_rfl
def A109L1 : ACode := (.seq (.reg [Zb 9 .lss 8 7] []) (.seq (.cond (Zt 9) .skip (.exit 0)) (.seq (.blk 1 (.seq (.reg [Zm 10 8,Zm 5 10] []) (.seq (.reg [Zm 11 1,Zm 12 0,Zm 13 5,Zx 14 1 12 13,Zl 15 14,Zb 16 .eql 11 15] []) (.cond (Zt 16) (.seq (.reg [Zm 17 5,Zm 4 17] []) .ret) .skip)))) (.reg [Zd 18 .add 8 1,Zm 8 18] []))))
def A109R2 : ACode := (.seq (.reg [Zn 4 (-1)] []) .ret)
def A109 : ACode := (.seq (.reg [Zn 4 0] []) (.seqa (.reg [Zm 6 0,Zk 7 6,Zn 8 0] []) (.blk 0 (.loop A109L1)) [] [] A109R2))
def V109 : List RV := [.t 4]
theorem m109 : mtcF Try.prog 109 2 A109 V109 = true := by kernel_rfl
def A82 : ACode := (.seq (.reg [Zo 4 (.mv (.c (.b false)))] []) (.seq (.reg [Zm 5 0,Zm 6 1,Zo 7 (.call 109 [(Zt 5), (Zt 6)]),Zd 8 .geq 7 0,Zm 4 8] []) .ret))
def V82 : List RV := [.t 4]
theorem m82 : mtcF Try.prog 82 2 A82 V82 = true := by kernel_rfl
def A114 : ACode := (.seq (.reg [Zo 2 (.mv (.c (.b false)))] []) (.seq (.reg [Zm 3 0,Zm 4 0,Zb 5 .neq 3 4,Zm 2 5] []) .ret))
def V114 : List RV := [.t 2]
theorem m114 : mtcF Try.prog 114 1 A114 V114 = true := by kernel_rfl
def A98 : ACode := (.seq (.reg [Zn 4 0] []) (.seq (.reg [Zm 7 0,Zo 8 (.call 114 [(Zt 7)]),Zm 5 8] []) (.seq (.reg [Zm 9 1,Zo 10 (.call 114 [(Zt 9)]),Zm 6 10] []) (.seq (.seq (.reg [Zm 11 5] []) (.cond (Zt 11) (.seq (.seq (.reg [Zm 12 6] []) (.cond (Zt 12) (.seq (.reg [Zn 4 0] []) .ret) .skip)) (.seq (.reg [Zn 4 (-1)] []) .ret)) .skip)) (.seq (.seq (.reg [Zm 13 6] []) (.cond (Zt 13) (.seq (.reg [Zn 4 1] []) .ret) .skip)) (.seq (.seq (.reg [Zm 14 0,Zm 15 1,Zb 16 .lss 14 15] []) (.cond (Zt 16) (.seq (.reg [Zn 4 (-1)] []) .ret) .skip)) (.seq (.seq (.reg [Zm 17 0,Zm 18 1,Zb 19 .gtr 17 18] []) (.cond (Zt 19) (.seq (.reg [Zn 4 1] []) .ret) .skip)) (.seq (.reg [Zn 4 0] []) .ret))))))))
def V98 : List RV := [.t 4]
theorem m98 : mtcF Try.prog 98 2 A98 V98 = true := by kernel_rfl
def A97L1 : ACode := (.seq (.reg [Zb 9 .lss 8 7] []) (.seq (.cond (Zt 9) .skip (.exit 0)) (.seq (.blk 1 (.seq (.reg [Zx 10 1 6 8,Zl 11 10,Zm 5 11] []) (.seq (.reg [Zm 12 5,Zm 13 3,Zb 14 .neq 12 13] []) (.cond (Zt 14) (.seq (.reg [Zm 15 5,Zm 2 15] []) .ret) .skip)))) (.reg [Zd 16 .add 8 1,Zm 8 16] []))))
def A97R2 : ACode := (.seq (.reg [Zm 17 3,Zm 2 17] []) .ret)
def A97 : ACode := (.seq (.reg [Zn 2 0] []) (.seq (.reg [Zn 3 0] []) (.seqa (.reg [Zm 6 0,Zk 7 6,Zn 8 0] []) (.blk 0 (.loop A97L1)) [3] [] A97R2)))
def V97 : List RV := [.t 2]
theorem m97 : mtcF Try.prog 97 1 A97 V97 = true := by kernel_rfl
def A83 : ACode := (.seq (.reg [Zo 2 (.box 4 (Zt 0)),Zo 3 (.box 4 (Zt 1)),Zn 4 0] []) (.seq (.drw [Za 5 0 2,Zl 6 5,Za 7 0 3,Zl 8 7,Zo 9 (.call 98 [(Zt 6), (Zt 8)]),Za 10 1 2,Zl 11 10,Za 12 1 3,Zl 13 12,Zo 14 (.call 98 [(Zt 11), (Zt 13)]),Za 15 2 2,Zl 16 15,Za 17 2 3,Zl 18 17,Zo 19 (.call 98 [(Zt 16), (Zt 18)]),Za 20 3 2,Zl 21 20,Za 22 3 3,Zl 23 22,Zo 24 (.call 98 [(Zt 21), (Zt 23)]),Zo 25 (.bsl 1 true [(Zt 9), (Zt 14), (Zt 19), (Zt 24)]),Zo 26 (.call 97 [(Zt 25)]),Zm 4 26] []) .ret))
def V83 : List RV := [.t 4]
theorem m83 : mtcF Try.prog 83 2 A83 V83 = true := by kernel_rfl
def A47L1 : ACode := (.seq (.reg [Zb 11 .lss 10 9] []) (.seq (.cond (Zt 11) .skip (.exit 0)) (.seq (.blk 1 (.seq (.reg [Zm 12 10,Zx 13 1 8 10,Zl 14 13,Zm 3 12,Zm 4 14] []) (.seq (.reg [Zm 15 4,Zo 16 (.call 81 [(Zt 15)]),Zo 17 (.un .not (Zt 16)),Zm 18 17,⟨(some 19), .fad 0 (Zt 1), (some (18, false))⟩,⟨(some 20), .load 1 false (Zt 19), (some (18, false))⟩,⟨(some 21), .mv (Zt 3), (some (18, false))⟩,⟨(some 22), .slc 1 (Zt 20) none (some (Zt 21)) none, (some (18, false))⟩,⟨(some 23), .mv (Zt 4), (some (18, false))⟩,⟨(some 24), .call 82 [(Zt 22), (Zt 23)], (some (18, false))⟩,Zo 25 (.pick (Zt 18) (.c (.b true)) (Zt 24))] []) (.cond (Zt 25) (.seq (.reg [Zo 2 (.mv (.c (.b false)))] []) .ret) .skip)))) (.reg [Zd 26 .add 10 1,Zm 10 26] []))))
def A47L3 : ACode := (.seq (.reg [Zb 31 .lss 30 29] []) (.seq (.cond (Zt 31) .skip (.exit 2)) (.seq (.blk 3 (.seq (.reg [Zm 32 30,Zx 33 4 28 30,Zo 34 (.load 4 true (Zt 33)),Zo 6 (.alloc (.agg [.i 0, .i 0, .i 0, .i 0])),Zm 5 32,⟨none, .store 4 (Zt 6) (Zt 34), none⟩] []) (.seq (.drw [Za 35 0 6,Zl 36 35,Zd 37 .lss 36 0,Zm 38 37,⟨(some 39), .fad 0 (Zt 6), (some (38, false))⟩,⟨(some 40), .load 1 false (Zt 39), (some (38, false))⟩,⟨(some 41), .fad 1 (Zt 6), (some (38, false))⟩,⟨(some 42), .load 1 false (Zt 41), (some (38, false))⟩,⟨(some 43), .bin .geq (Zt 40) (Zt 42), (some (38, false))⟩,Zo 44 (.pick (Zt 38) (.c (.b true)) (Zt 43)),Zm 45 44,⟨(some 46), .fad 1 (Zt 6), (some (45, false))⟩,⟨(some 47), .load 1 false (Zt 46), (some (45, false))⟩,⟨(some 48), .fad 0 (Zt 1), (some (45, false))⟩,⟨(some 49), .load 1 false (Zt 48), (some (45, false))⟩,⟨(some 50), .len (Zt 49), (some (45, false))⟩,⟨(some 51), .bin .geq (Zt 47) (Zt 50), (some (45, false))⟩,Zo 52 (.pick (Zt 45) (.c (.b true)) (Zt 51)),Zm 53 52,⟨(some 54), .fad 2 (Zt 6), (some (53, false))⟩,⟨(some 55), .load 1 false (Zt 54), (some (53, false))⟩,⟨(some 56), .call 57 [(Zt 55), (.c (.i 1)), (.c (.i 5000))], (some (53, false))⟩,⟨(some 57), .un .not (Zt 56), (some (53, false))⟩,Zo 58 (.pick (Zt 53) (.c (.b true)) (Zt 57)),Zm 59 58,⟨(some 60), .fad 3 (Zt 6), (some (59, false))⟩,⟨(some 61), .load 1 false (Zt 60), (some (59, false))⟩,⟨(some 62), .call 57 [(Zt 61), (.c (.i 0)), (.c (.i 9))], (some (59, false))⟩,⟨(some 63), .un .not (Zt 62), (some (59, false))⟩,Zo 64 (.pick (Zt 59) (.c (.b true)) (Zt 63)),Zm 65 64,⟨(some 66), .mv (Zt 5), (some (65, false))⟩,⟨(some 67), .bin .gtr (Zt 66) (.c (.i 0)), (some (65, false))⟩,⟨(some 68), .mv (Zt 67), (some (65, false))⟩,⟨(some 69), .fad 1 (Zt 1), (some (68, true))⟩,⟨(some 70), .load 1 false (Zt 69), (some (68, true))⟩,⟨(some 71), .mv (Zt 5), (some (68, true))⟩,⟨(some 72), .bin .sub (Zt 71) (.c (.i 1)), (some (68, true))⟩,⟨(some 73), .idx 4 (Zt 70) (Zt 72), (some (68, true))⟩,⟨(some 74), .load 4 true (Zt 73), (some (68, true))⟩,⟨(some 75), .load 4 true (Zt 6), (some (68, true))⟩,⟨(some 76), .call 83 [(Zt 74), (Zt 75)], (some (68, true))⟩,⟨(some 77), .bin .gtr (Zt 76) (.c (.i 0)), (some (68, true))⟩,⟨(some 78), .pick (Zt 68) (Zt 77) (.c (.b false)), (some (65, false))⟩,Zo 79 (.pick (Zt 65) (.c (.b true)) (Zt 78))] []) (.cond (Zt 79) (.seq (.reg [Zo 2 (.mv (.c (.b false)))] []) .ret) .skip)))) (.reg [Zd 80 .add 30 1,Zm 30 80] []))))
def A47R4 : ACode := (.seq (.reg [Za 81 0 1,Zl 82 81,Zk 83 82,Zo 84 (.call 57 [(Zt 83), (.c (.i 2)), (.c (.i 8))]),Zm 85 84,⟨(some 86), .fad 1 (Zt 1), (some (85, true))⟩,⟨(some 87), .load 1 false (Zt 86), (some (85, true))⟩,⟨(some 88), .len (Zt 87), (some (85, true))⟩,⟨(some 89), .bin .leq (Zt 88) (.c (.i 14)), (some (85, true))⟩,Zo 90 (.pick (Zt 85) (Zt 89) (.c (.b false))),Zm 2 90] []) .ret)
def A47R2 : ACode := (.seqa (.reg [Za 27 1 1,Zl 28 27,Zk 29 28,Zn 30 0] []) (.blk 2 (.loop A47L3)) [1] [1] A47R4)
def A47 : ACode := (.seq (.reg [Zo 1 (.box 2 (Zt 0)),Zo 2 (.mv (.c (.b false)))] []) (.seqa (.reg [Za 7 0 1,Zl 8 7,Zk 9 8,Zn 10 0] []) (.blk 0 (.loop A47L1)) [1] [1] A47R2))
def V47 : List RV := [.t 2]
theorem m47 : mtcF Try.prog 47 1 A47 V47 = true := by kernel_rfl
def A64L1 : ACode := (.seq (.reg [Zb 9 .lss 8 7] []) (.seq (.cond (Zt 9) .skip (.exit 0)) (.seq (.blk 1 (.seq (.reg [Zm 10 8,Zm 5 10] []) (.seq (.reg [Zm 11 1,Zm 12 0,Zm 13 5,Zx 14 1 12 13,Zl 15 14,Zb 16 .eql 11 15] []) (.cond (Zt 16) (.seq (.reg [Zm 17 5,Zm 4 17] []) .ret) .skip)))) (.reg [Zd 18 .add 8 1,Zm 8 18] []))))
def A64R2 : ACode := (.seq (.reg [Zn 4 (-1)] []) .ret)
def A64 : ACode := (.seq (.reg [Zn 4 0] []) (.seqa (.reg [Zm 6 0,Zk 7 6,Zn 8 0] []) (.blk 0 (.loop A64L1)) [] [] A64R2))
def V64 : List RV := [.t 4]
theorem m64 : mtcF Try.prog 64 2 A64 V64 = true := by kernel_rfl
def A67 : ACode := (.seq (.reg [Zo 4 (.mv (.c (.b false)))] []) (.seq (.reg [Zm 5 0,Zm 6 1,Zo 7 (.call 64 [(Zt 5), (Zt 6)]),Zd 8 .geq 7 0,Zm 4 8] []) .ret))
def V67 : List RV := [.t 4]
theorem m67 : mtcF Try.prog 67 2 A67 V67 = true := by kernel_rfl
def A94 : ACode := (.seq (.reg [Zo 2 (.box 4 (Zt 0)),Zn 4 0] []) (.seq (.seq (.reg [Zm 5 1] []) (.blk 0 (.seq (.reg [Za 7 0 2,Zl 8 7,Zb 9 .eql 5 8,Zm 6 9] []) (.cond (Zt 6) (.seq (.reg [Za 10 1 2,Zl 11 10,Zm 4 11] []) .ret) (.seq (.reg [Za 13 1 2,Zl 14 13,Zb 15 .eql 5 14,Zm 12 15] []) (.cond (Zt 12) (.seq (.reg [Za 16 0 2,Zl 17 16,Zm 4 17] []) .ret) .skip)))))) (.seq (.reg [Zn 4 (-1)] []) .ret)))
def V94 : List RV := [.t 4]
theorem m94 : mtcF Try.prog 94 2 A94 V94 = true := by kernel_rfl
def A84R1 : ACode := (.cond (Zt 35) (.seq (.reg [Zo 6 (.mv (.c (.lst .u 1 []))),Zn 7 0,Zo 8 (.mv (.c (.b false)))] [6]) .ret) .skip)
def A84L2 : ACode := (.seq (.reg [Zb 18 .lss 17 16] []) (.seq (.cond (Zt 18) .skip (.exit 0)) (.seq (.blk 1 (.seq (.reg [Zm 19 17,Zx 20 1 15 17,Zl 21 20,Zm 11 19,Zm 12 21] []) (.seq (.seqr (.reg [Zm 22 12,Za 23 1 3,Zl 24 23,Zk 25 24,Zd 26 .sub 25 1,Zo 27 (.call 57 [(Zt 22), (.c (.i 0)), (Zt 26)]),Zo 28 (.un .not (Zt 27)),Zm 29 28,⟨(some 30), .mv (Zt 2), (some (29, false))⟩,⟨(some 31), .mv (Zt 11), (some (29, false))⟩,⟨(some 32), .slc 1 (Zt 30) none (some (Zt 31)) none, (some (29, false))⟩,⟨(some 33), .mv (Zt 12), (some (29, false))⟩,⟨(some 34), .call 67 [(Zt 32), (Zt 33)], (some (29, false))⟩,Zo 35 (.pick (Zt 29) (.c (.b true)) (Zt 34))] []) [2, 3, 9, 10, 12, 15, 16, 17, 35] [3, 9] A84R1) (.seq (.reg [Zm 36 9,Zm 37 10,Zo 38 (.bsl 1 false [(Zt 37)]),Zo 39 (.app 1 8 true (Zt 36) (Zt 38)),Zm 9 39] [9]) (.seq (.reg [Za 40 1 3,Zl 41 40,Zm 42 12,Zx 43 4 41 42,Zo 44 (.load 4 true (Zt 43)),Zm 45 10,Zo 46 (.call 94 [(Zt 44), (Zt 45)]),Zm 10 46] []) (.seq (.reg [Zm 47 10,Zd 48 .lss 47 0] []) (.cond (Zt 48) (.seq (.reg [Zo 6 (.mv (.c (.lst .u 1 []))),Zn 7 0,Zo 8 (.mv (.c (.b false)))] [6]) .ret) .skip))))))) (.reg [Zd 49 .add 17 1,Zm 17 49] []))))
def A84R3 : ACode := (.seq (.reg [Zm 50 9,Zm 51 10,Zm 6 50,Zm 7 51,Zo 8 (.mv (.c (.b true)))] [6]) .ret)
def A84 : ACode := (.seq (.reg [Zo 3 (.box 2 (Zt 0)),Zo 6 (.mv (.c (.lst .u 1 []))),Zn 7 0,Zo 8 (.mv (.c (.b false)))] [6]) (.seq (.reg [Zo 13 (.bsl 1 false []),Zm 14 1,Zm 9 13,Zm 10 14] [9]) (.seqa (.reg [Zm 15 2,Zk 16 15,Zn 17 0] []) (.blk 0 (.loop A84L2)) [9, 10] [9] A84R3)))
def V84 : List RV := [.t 6, .t 7, .t 8]
theorem m84 : mtcF Try.prog 84 3 A84 V84 = true := by kernel_rfl
def A85L1 : ACode := (.seq (.seq (.reg [Zm 12 4,Zm 13 0,Zk 14 13,Zb 15 .lss 12 14] []) (.cond (Zt 15) .skip (.exit 0))) (.seq (.blk 1 (.reg [Zm 18 3,Zm 19 0,Zm 20 4,Zx 21 1 19 20,Zl 22 21,Zo 23 (.mn (Zt 18) (Zt 22)),Zm 3 23] [])) (.reg [Zm 16 4,Zd 17 .add 16 1,Zm 4 17] [])))
def A85R2 : ACode := (.seq (.reg [Zm 24 3,Zm 2 24] []) .ret)
def A85 : ACode := (.seq (.reg [Zn 2 0] []) (.seq (.seq (.reg [Zm 5 0,Zk 6 5,Zd 7 .lss 6 1] []) (.cond (Zt 7) (.reg [Zo 8 (.bad),⟨none, .bad, none⟩] []) .skip)) (.seq (.reg [Zm 9 0,Zo 10 (.idx 1 (Zt 9) (.c (.i 0))),Zl 11 10,Zm 3 11] []) (.seqa (.reg [Zn 4 1] []) (.blk 0 (.loop A85L1)) [3] [] A85R2))))
def V85 : List RV := [.t 2]
theorem m85 : mtcF Try.prog 85 1 A85 V85 = true := by kernel_rfl
def A86 : ACode := (.seq (.reg [Zo 2 (.mv (.c (.lst .u 1 [])))] [2]) (.seq (.seq (.reg [Zm 3 0,Zo 4 (.isn false (Zt 3))] []) (.cond (Zt 4) (.seq (.reg [Zo 2 (.mv (.c (.lst .u 1 [])))] [2]) .ret) .skip)) (.seq (.reg [Zo 5 (.bsl 1 false []),Zm 6 0,Zo 7 (.app 1 8 false (Zt 5) (Zt 6)),Zm 2 7] [2]) .ret)))
def V86 : List RV := [.t 2]
theorem m86 : mtcF Try.prog 86 1 A86 V86 = true := by kernel_rfl
def A87M1L1 : ACode := (.seq (.seq (.reg [Zm 7 2,Zm 8 3,Zb 9 .lss 7 8] []) (.cond (Zt 9) .skip (.exit 0))) (.seq (.blk 1 (.drw [Zm 14 0,Zm 15 2,Zm 16 0,Zm 17 3,Zm 18 0,Zm 19 3,Zx 20 1 18 19,Zl 21 20,Zm 22 0,Zm 23 2,Zx 24 1 22 23,Zl 25 24,Zx 26 1 14 15,⟨none, .store 1 (Zt 26) (Zt 21), none⟩,Zx 27 1 16 17,⟨none, .store 1 (Zt 27) (Zt 25), none⟩] [])) (.reg [Zm 10 2,Zd 11 .add 10 1,Zm 12 3,Zd 13 .sub 12 1,Zm 2 11,Zm 3 13] [])))
def A87M1 : ACode := (.seq (.reg [Zm 4 0,Zk 5 4,Zd 6 .sub 5 1,Zn 2 0,Zm 3 6] []) (.blk 0 (.loop A87M1L1)))
def V87M1 : List RV := []
theorem m87M1 : mtcF Try.prog 87 1 A87M1 V87M1 = true := by kernel_rfl
def A88L1 : ACode := (.seq (.reg [Zb 12 .lss 11 10] []) (.seq (.cond (Zt 12) .skip (.exit 0)) (.seq (.blk 1 (.seq (.reg [Zm 13 11,Zx 14 1 9 11,Zl 15 14,Zm 5 13,Zm 6 15] []) (.seq (.seq (.reg [Zm 16 5,Zm 17 1,Zk 18 17,Zb 19 .geq 16 18] []) (.cond (Zt 19) (.seq (.reg [Zn 4 1] []) .ret) .skip)) (.seq (.reg [Zm 20 1,Zm 21 5,Zx 22 1 20 21,Zl 23 22,Zm 7 23] []) (.seq (.reg [Zm 24 6,Zm 25 7,Zo 26 (.call 98 [(Zt 24), (Zt 25)]),Zm 8 26] []) (.seq (.reg [Zm 27 8,Zd 28 .neq 27 0] []) (.cond (Zt 28) (.seq (.reg [Zm 29 8,Zm 4 29] []) .ret) .skip))))))) (.reg [Zd 30 .add 11 1,Zm 11 30] []))))
def A88R2 : ACode := (.seq (.seq (.reg [Zm 31 0,Zk 32 31,Zm 33 1,Zk 34 33,Zb 35 .lss 32 34] []) (.cond (Zt 35) (.seq (.reg [Zn 4 (-1)] []) .ret) .skip)) (.seq (.reg [Zn 4 0] []) .ret))
def A88 : ACode := (.seq (.reg [Zn 4 0] []) (.seqa (.reg [Zm 9 0,Zk 10 9,Zn 11 0] []) (.blk 0 (.loop A88L1)) [0, 1] [] A88R2))
def V88 : List RV := [.t 4]
theorem m88 : mtcF Try.prog 88 2 A88 V88 = true := by kernel_rfl
def A48R1 : ACode := (.cond (Zt 26) (.seq (.reg [Zo 4 (.mv (.c (.lst .u 1 []))),Zo 5 (.mv (.c (.b false)))] [4]) .ret) .skip)
def A48R2 : ACode := (.cond (Zt 55) (.seq (.reg [Zo 4 (.mv (.c (.lst .u 1 []))),Zo 5 (.mv (.c (.b false)))] [4]) .ret) .skip)
def A48L3 : ACode := (.seq (.reg [Zb 59 .lss 58 57] []) (.seq (.cond (Zt 59) .skip (.exit 0)) (.seq (.blk 1 (.seq (.reg [Zm 60 58,Zx 61 1 56 58,Zl 62 61,Zm 10 60,Zm 11 62] []) (.seq (.reg [Zm 63 7,Zm 64 10,Zo 65 (.slc 1 (Zt 63) none (some (Zt 64)) none),Zm 66 11,Zo 67 (.call 67 [(Zt 65), (Zt 66)])] []) (.cond (Zt 67) (.seq (.reg [Zo 4 (.mv (.c (.lst .u 1 []))),Zo 5 (.mv (.c (.b false)))] [4]) .ret) .skip)))) (.reg [Zd 68 .add 58 1,Zm 58 68] []))))
def A48R4 : ACode := (.seq (.reg [Zm 69 1,Zo 70 (.call 86 [(Zt 69)]),Zm 12 70] [12]) (.seq (.reg [Zm 71 12,Zo 72 (.callM 87 [(Zt 71)] [12])] []) (.seq (.reg [Zm 73 7,Zm 74 1,Zm 75 12,Zo 76 (.call 88 [(Zt 74), (Zt 75)]),Zd 77 .lss 76 0,Zm 4 73,Zm 5 77] [4]) .ret)))
def A48 : ACode := (.seq (.reg [Zo 2 (.box 2 (Zt 0)),Zo 4 (.mv (.c (.lst .u 1 []))),Zo 5 (.mv (.c (.b false)))] [4]) (.seq (.seqr (.drw [Zm 13 1,Zk 14 13,Zd 15 .lss 14 2,Zm 16 15,⟨(some 17), .mv (Zt 1), (some (16, false))⟩,⟨(some 18), .idx 1 (Zt 17) (.c (.i 0)), (some (16, false))⟩,⟨(some 19), .load 1 false (Zt 18), (some (16, false))⟩,⟨(some 20), .fad 1 (Zt 2), (some (16, false))⟩,⟨(some 21), .load 1 false (Zt 20), (some (16, false))⟩,⟨(some 22), .len (Zt 21), (some (16, false))⟩,⟨(some 23), .bin .sub (Zt 22) (.c (.i 1)), (some (16, false))⟩,⟨(some 24), .call 57 [(Zt 19), (.c (.i 0)), (Zt 23)], (some (16, false))⟩,⟨(some 25), .un .not (Zt 24), (some (16, false))⟩,Zo 26 (.pick (Zt 16) (.c (.b true)) (Zt 25))] []) [1, 2, 26] [2] A48R1) (.seq (.drw [Za 27 1 2,Zl 28 27,Zm 29 1,Zo 30 (.idx 1 (Zt 29) (.c (.i 0))),Zl 31 30,Zx 32 4 28 31,Za 33 0 32,Zl 34 33,Zm 6 34] []) (.seq (.reg [Zo 36 (.load 2 true (Zt 2)),Zm 37 6,Zm 38 1,Zo 39 (.call 84 [(Zt 36), (Zt 37), (Zt 38)]),Zm 35 39,Ze 40 35 0,Ze 41 35 1,Ze 42 35 2,Zm 7 40,Zm 8 41,Zm 9 42] [7]) (.seq (.seqr (.reg [Zm 43 9,Zo 44 (.un .not (Zt 43)),Zm 45 44,⟨(some 46), .mv (Zt 8), (some (45, false))⟩,⟨(some 47), .mv (Zt 6), (some (45, false))⟩,⟨(some 48), .bin .neq (Zt 46) (Zt 47), (some (45, false))⟩,Zo 49 (.pick (Zt 45) (.c (.b true)) (Zt 48)),Zm 50 49,⟨(some 51), .mv (Zt 7), (some (50, false))⟩,⟨(some 52), .call 85 [(Zt 51)], (some (50, false))⟩,⟨(some 53), .mv (Zt 6), (some (50, false))⟩,⟨(some 54), .bin .neq (Zt 52) (Zt 53), (some (50, false))⟩,Zo 55 (.pick (Zt 50) (.c (.b true)) (Zt 54))] []) [1, 7, 55] [7] A48R2) (.seqa (.reg [Zm 56 7,Zk 57 56,Zn 58 0] []) (.blk 0 (.loop A48L3)) [1, 7] [7] A48R4))))))
def V48 : List RV := [.t 4, .t 5]
theorem m48 : mtcF Try.prog 48 2 A48 V48 = true := by kernel_rfl
def A18 : ACode := (.seq (.reg [Zo 2 (.box 2 (Zt 0)),Zo 4 (.mv (.c (.lst .u 1 []))),Zo 5 (.mv (.c (.b false)))] [4]) (.seq (.seq (.reg [Zo 8 (.load 2 true (Zt 2)),Zo 9 (.call 47 [(Zt 8)]),Zo 10 (.un .not (Zt 9))] []) (.cond (Zt 10) (.seq (.reg [Zo 4 (.mv (.c (.lst .u 1 []))),Zo 5 (.mv (.c (.b false)))] [4]) .ret) .skip)) (.seq (.reg [Zo 12 (.load 2 true (Zt 2)),Zm 13 1,Zo 14 (.call 48 [(Zt 12), (Zt 13)]),Zm 11 14,Ze 15 11 0,Ze 16 11 1,Zm 6 15,Zm 7 16] [6]) (.seq (.seq (.reg [Zm 17 7,Zo 18 (.un .not (Zt 17))] []) (.cond (Zt 18) (.seq (.reg [Zo 4 (.mv (.c (.lst .u 1 []))),Zo 5 (.mv (.c (.b false)))] [4]) .ret) .skip)) (.seq (.reg [Zm 19 6,Zm 4 19,Zo 5 (.mv (.c (.b true)))] [4]) .ret)))))
def V18 : List RV := [.t 4, .t 5]
theorem m18 : mtcF Try.prog 18 2 A18 V18 = true := by kernel_rfl
def A16L1 : ACode := (.seq (.seq (.reg [Zm 11 5,Zm 12 0,Zk 13 12,Zb 14 .lss 11 13] []) (.cond (Zt 14) .skip (.exit 0))) (.seq (.blk 1 (.seq (.drw [Zm 17 0,Zm 18 5,Zx 19 1 17 18,Zl 20 19,Zm 21 1,Zm 22 5,Zx 23 1 21 22,Zl 24 23,Zb 25 .neq 20 24] []) (.cond (Zt 25) (.seq (.reg [Zo 4 (.mv (.c (.b false)))] []) .ret) .skip))) (.reg [Zm 15 5,Zd 16 .add 15 1,Zm 5 16] [])))
def A16R2 : ACode := (.seq (.reg [Zo 4 (.mv (.c (.b true)))] []) .ret)
def A16 : ACode := (.seq (.reg [Zo 4 (.mv (.c (.b false)))] []) (.seq (.seq (.reg [Zm 6 0,Zk 7 6,Zm 8 1,Zk 9 8,Zb 10 .neq 7 9] []) (.cond (Zt 10) (.seq (.reg [Zo 4 (.mv (.c (.b false)))] []) .ret) .skip)) (.seqa (.reg [Zn 5 0] []) (.blk 0 (.loop A16L1)) [] [] A16R2)))
def V16 : List RV := [.t 4]
theorem m16 : mtcF Try.prog 16 2 A16 V16 = true := by kernel_rfl
def A44L1 : ACode := (.seq (.seq (.reg [Zm 11 5,Zm 12 0,Zk 13 12,Zb 14 .lss 11 13] []) (.cond (Zt 14) .skip (.exit 0))) (.seq (.blk 1 (.seq (.drw [Zm 17 0,Zm 18 5,Zx 19 1 17 18,Zl 20 19,Zm 21 1,Zm 22 5,Zx 23 1 21 22,Zl 24 23,Zb 25 .neq 20 24] []) (.cond (Zt 25) (.seq (.reg [Zo 4 (.mv (.c (.b false)))] []) .ret) .skip))) (.reg [Zm 15 5,Zd 16 .add 15 1,Zm 5 16] [])))
def A44R2 : ACode := (.seq (.reg [Zo 4 (.mv (.c (.b true)))] []) .ret)
def A44 : ACode := (.seq (.reg [Zo 4 (.mv (.c (.b false)))] []) (.seq (.seq (.reg [Zm 6 0,Zk 7 6,Zm 8 1,Zk 9 8,Zb 10 .neq 7 9] []) (.cond (Zt 10) (.seq (.reg [Zo 4 (.mv (.c (.b false)))] []) .ret) .skip)) (.seqa (.reg [Zn 5 0] []) (.blk 0 (.loop A44L1)) [] [] A44R2)))
def V44 : List RV := [.t 4]
theorem m44 : mtcF Try.prog 44 2 A44 V44 = true := by kernel_rfl
def A80 : ACode := (.seq (.reg [Zo 2 (.box 4 (Zt 0)),Zo 3 (.box 4 (Zt 1)),Zo 4 (.mv (.c (.b false)))] []) (.seq (.seq (.reg [Za 5 0 2,Zl 6 5,Za 7 0 3,Zl 8 7,Zb 9 .neq 6 8] []) (.cond (Zt 9) (.seq (.reg [Zo 4 (.mv (.c (.b false)))] []) .ret) .skip)) (.seq (.seq (.reg [Za 10 1 2,Zl 11 10,Za 12 1 3,Zl 13 12,Zb 14 .neq 11 13] []) (.cond (Zt 14) (.seq (.reg [Zo 4 (.mv (.c (.b false)))] []) .ret) .skip)) (.seq (.seq (.reg [Za 15 2 2,Zl 16 15,Za 17 2 3,Zl 18 17,Zb 19 .neq 16 18] []) (.cond (Zt 19) (.seq (.reg [Zo 4 (.mv (.c (.b false)))] []) .ret) .skip)) (.seq (.seq (.reg [Za 20 3 2,Zl 21 20,Za 22 3 3,Zl 23 22,Zb 24 .neq 21 23] []) (.cond (Zt 24) (.seq (.reg [Zo 4 (.mv (.c (.b false)))] []) .ret) .skip)) (.seq (.reg [Zo 4 (.mv (.c (.b true)))] []) .ret))))))
def V80 : List RV := [.t 4]
theorem m80 : mtcF Try.prog 80 2 A80 V80 = true := by kernel_rfl
def A45L1 : ACode := (.seq (.seq (.reg [Zm 11 5,Zm 12 0,Zk 13 12,Zb 14 .lss 11 13] []) (.cond (Zt 14) .skip (.exit 0))) (.seq (.blk 1 (.seq (.drw [Zm 17 0,Zm 18 5,Zx 19 4 17 18,Zo 20 (.load 4 true (Zt 19)),Zm 21 1,Zm 22 5,Zx 23 4 21 22,Zo 24 (.load 4 true (Zt 23)),Zo 25 (.call 80 [(Zt 20), (Zt 24)]),Zo 26 (.un .not (Zt 25))] []) (.cond (Zt 26) (.seq (.reg [Zo 4 (.mv (.c (.b false)))] []) .ret) .skip))) (.reg [Zm 15 5,Zd 16 .add 15 1,Zm 5 16] [])))
def A45R2 : ACode := (.seq (.reg [Zo 4 (.mv (.c (.b true)))] []) .ret)
def A45 : ACode := (.seq (.reg [Zo 4 (.mv (.c (.b false)))] []) (.seq (.seq (.reg [Zm 6 0,Zk 7 6,Zm 8 1,Zk 9 8,Zb 10 .neq 7 9] []) (.cond (Zt 10) (.seq (.reg [Zo 4 (.mv (.c (.b false)))] []) .ret) .skip)) (.seqa (.reg [Zn 5 0] []) (.blk 0 (.loop A45L1)) [] [] A45R2)))
def V45 : List RV := [.t 4]
theorem m45 : mtcF Try.prog 45 2 A45 V45 = true := by kernel_rfl
def A15 : ACode := (.seq (.reg [Zo 2 (.box 2 (Zt 0)),Zo 3 (.box 2 (Zt 1)),Zo 4 (.mv (.c (.b false)))] []) (.seq (.seq (.reg [Za 5 0 2,Zl 6 5,Za 7 0 3,Zl 8 7,Zo 9 (.call 44 [(Zt 6), (Zt 8)]),Zo 10 (.un .not (Zt 9))] []) (.cond (Zt 10) (.seq (.reg [Zo 4 (.mv (.c (.b false)))] []) .ret) .skip)) (.seq (.seq (.reg [Za 11 1 2,Zl 12 11,Za 13 1 3,Zl 14 13,Zo 15 (.call 45 [(Zt 12), (Zt 14)]),Zo 16 (.un .not (Zt 15))] []) (.cond (Zt 16) (.seq (.reg [Zo 4 (.mv (.c (.b false)))] []) .ret) .skip)) (.seq (.reg [Zo 4 (.mv (.c (.b true)))] []) .ret))))
def V15 : List RV := [.t 4]
theorem m15 : mtcF Try.prog 15 2 A15 V15 = true := by kernel_rfl
def A89L1 : ACode := (.seq (.seq (.reg [Zm 6 0,Zd 7 .gtr 6 0] []) (.cond (Zt 7) .skip (.exit 0))) (.blk 1 (.seq (.reg [Zm 8 0,Zd 9 .rem 8 10,Zo 10 (.bin .add (.c (.i 48)) (Zt 9)),Zo 11 (.conv .u8 (Zt 10)),Zo 12 (.bsl 1 false [(Zt 11)]),Zo 13 (.b2s (Zt 12)),Zm 14 3,Zb 15 .add 13 14,Zm 3 15] []) (.reg [Zm 16 0,Zd 17 .quo 16 10,Zm 0 17] []))))
def A89R2 : ACode := (.seq (.reg [Zm 18 3,Zo 19 (.bin .add (.c (.z ⟨#[109]⟩)) (Zt 18)),Zm 2 19] []) .ret)
def A89 : ACode := (.seq (.reg [Zo 2 (.mv (.c (.z ⟨#[]⟩)))] []) (.seq (.seq (.reg [Zm 4 0,Zd 5 .leq 4 0] []) (.cond (Zt 5) (.seq (.reg [Zo 2 (.mv (.c (.z ⟨#[109, 48]⟩)))] []) .ret) .skip)) (.seq (.reg [Zo 3 (.mv (.c (.z ⟨#[]⟩)))] []) (.seqr (.blk 0 (.loop A89L1)) [3] [] A89R2))))
def V89 : List RV := [.t 2]
theorem m89 : mtcF Try.prog 89 1 A89 V89 = true := by kernel_rfl
def A49M1L1 : ACode := (.seq (.seq (.reg [Zm 6 5,Zm 7 0,Zk 8 7,Zb 9 .lss 6 8] []) (.cond (Zt 9) .skip (.exit 0))) (.seq (.blk 1 (.seq (.reg [Zm 12 0,Zm 13 5,Zm 14 1,Zo 15 (.call 89 [(Zt 14)]),Zx 16 1 12 13,⟨none, .store 1 (Zt 16) (Zt 15), none⟩] []) (.reg [Zm 17 1,Zd 18 .add 17 1,Zm 1 18] []))) (.reg [Zm 10 5,Zd 11 .add 10 1,Zm 5 11] [])))
def A49M1R2 : ACode := (.seq (.reg [Zm 19 1,Zm 4 19] []) .ret)
def A49M1 : ACode := (.seq (.reg [Zn 4 0] []) (.seqa (.reg [Zn 5 0] []) (.blk 0 (.loop A49M1L1)) [1] [1000000000] A49M1R2))
def V49M1 : List RV := [.t 4]
theorem m49M1 : mtcF Try.prog 49 2 A49M1 V49M1 = true := by kernel_rfl
def A50M1L1 : ACode := (.seq (.seq (.reg [Zm 6 5,Zm 7 0,Zk 8 7,Zb 9 .lss 6 8] []) (.cond (Zt 9) .skip (.exit 0))) (.seq (.blk 1 (.seq (.reg [Zm 12 0,Zm 13 5,Zm 14 1,Zx 15 4 12 13,Za 16 0 15,⟨none, .store 1 (Zt 16) (Zt 14), none⟩] []) (.seq (.reg [Zm 17 1,Zd 18 .add 17 1,Zm 1 18] []) (.seq (.reg [Zm 19 0,Zm 20 5,Zm 21 1,Zx 22 4 19 20,Za 23 1 22,⟨none, .store 1 (Zt 23) (Zt 21), none⟩] []) (.seq (.reg [Zm 24 1,Zd 25 .add 24 1,Zm 1 25] []) (.seq (.reg [Zm 26 0,Zm 27 5,Zm 28 1,Zx 29 4 26 27,Za 30 2 29,⟨none, .store 1 (Zt 30) (Zt 28), none⟩] []) (.seq (.reg [Zm 31 1,Zd 32 .add 31 1,Zm 1 32] []) (.seq (.reg [Zm 33 0,Zm 34 5,Zm 35 1,Zx 36 4 33 34,Za 37 3 36,⟨none, .store 1 (Zt 37) (Zt 35), none⟩] []) (.reg [Zm 38 1,Zd 39 .add 38 1,Zm 1 39] []))))))))) (.reg [Zm 10 5,Zd 11 .add 10 1,Zm 5 11] [])))
def A50M1R2 : ACode := (.seq (.reg [Zm 40 1,Zm 4 40] []) .ret)
def A50M1 : ACode := (.seq (.reg [Zn 4 0] []) (.seqa (.reg [Zn 5 0] []) (.blk 0 (.loop A50M1L1)) [1] [1000000000] A50M1R2))
def V50M1 : List RV := [.t 4]
theorem m50M1 : mtcF Try.prog 50 2 A50M1 V50M1 = true := by kernel_rfl
def A19M1 : ACode := (.seq (.reg [Zo 2 (.box 2 (Zt 0)),Zn 4 0] []) (.seq (.reg [Za 5 0 2,Zl 6 5,Zm 7 1,Zo 8 (.callM 49 [(Zt 6), (Zt 7)] [1000000000]),Zm 1 8] []) (.seq (.reg [Za 9 1 2,Zl 10 9,Zm 11 1,Zo 12 (.callM 50 [(Zt 10), (Zt 11)] [1000000001]),Zm 1 12] []) (.seq (.reg [Zm 13 1,Zm 4 13] []) .ret))))
def V19M1 : List RV := [.t 4]
theorem m19M1 : mtcF Try.prog 19 2 A19M1 V19M1 = true := by kernel_rfl
def A20M1L1 : ACode := (.seq (.seq (.reg [Zm 6 5,Zm 7 0,Zk 8 7,Zb 9 .lss 6 8] []) (.cond (Zt 9) .skip (.exit 0))) (.seq (.blk 1 (.seq (.reg [Zm 12 0,Zm 13 5,Zm 14 1,Zx 15 1 12 13,⟨none, .store 1 (Zt 15) (Zt 14), none⟩] []) (.reg [Zm 16 1,Zd 17 .add 16 1,Zm 1 17] []))) (.reg [Zm 10 5,Zd 11 .add 10 1,Zm 5 11] [])))
def A20M1R2 : ACode := (.seq (.reg [Zm 18 1,Zm 4 18] []) .ret)
def A20M1 : ACode := (.seq (.reg [Zn 4 0] []) (.seqa (.reg [Zn 5 0] []) (.blk 0 (.loop A20M1L1)) [1] [1000000000] A20M1R2))
def V20M1 : List RV := [.t 4]
theorem m20M1 : mtcF Try.prog 20 2 A20M1 V20M1 = true := by kernel_rfl
def A21L1 : ACode := (.seq (.seq (.reg [Zm 6 5,Zm 7 0,Zk 8 7,Zb 9 .lss 6 8] []) (.cond (Zt 9) .skip (.exit 0))) (.seq (.blk 1 (.seq (.seq (.reg [Zm 12 0,Zm 13 5,Zx 14 1 12 13,Zl 15 14,Zm 16 1,Zb 17 .neq 15 16] []) (.cond (Zt 17) (.seq (.reg [Zn 4 (-1)] []) .ret) .skip)) (.reg [Zm 18 1,Zd 19 .add 18 1,Zm 1 19] []))) (.reg [Zm 10 5,Zd 11 .add 10 1,Zm 5 11] [])))
def A21R2 : ACode := (.seq (.reg [Zm 20 1,Zm 4 20] []) .ret)
def A21 : ACode := (.seq (.reg [Zn 4 0] []) (.seqa (.reg [Zn 5 0] []) (.blk 0 (.loop A21L1)) [1] [] A21R2))
def V21 : List RV := [.t 4]
theorem m21 : mtcF Try.prog 21 2 A21 V21 = true := by kernel_rfl
def A4R1 : ACode := (.cond (Zt 51) (.seq (.reg [Zo 4 (.mv (.c (.b false)))] []) .ret) .skip)
def A4R2 : ACode := (.cond (Zt 80) (.seq (.reg [Zo 4 (.mv (.c (.b false)))] []) .ret) .skip)
def A4R3 : ACode := (.cond (Zt 108) (.seq (.reg [Zo 4 (.mv (.c (.b false)))] []) .ret) .skip)
def A4 : ACode := (.seq (.reg [Zo 2 (.box 2 (Zt 0)),Zo 4 (.mv (.c (.b false)))] []) (.seq (.seq (.reg [Zm 17 1,Zk 18 17,Zd 19 .gtr 18 1048576] []) (.cond (Zt 19) (.seq (.reg [Zo 4 (.mv (.c (.b true)))] []) .ret) .skip)) (.seq (.reg [Zn 5 1048576] []) (.seq (.reg [Zo 20 (.load 2 true (Zt 2)),Zm 21 5,Zo 22 (.call 10 [(Zt 20), (Zt 21)]),Zm 5 22] []) (.seq (.seq (.reg [Zm 23 5,Zd 24 .lss 23 0] []) (.cond (Zt 24) (.seq (.reg [Zo 4 (.mv (.c (.b true)))] []) .ret) .skip)) (.seq (.reg [Zo 26 (.load 2 true (Zt 2)),Zo 27 (.call 12 [(Zt 26)]),Zm 28 1,Zo 29 (.call 13 [(Zt 28)]),Zo 30 (.call 17 [(Zt 27), (Zt 29)]),Zm 25 30,Ze 31 25 0,Ze 32 25 1,Zm 6 31,Zm 7 32] [6]) (.seq (.reg [Zo 33 (.load 2 true (Zt 2)),Zo 34 (.call 12 [(Zt 33)]),Zo 8 (.alloc (.agg [.lst .u 1 [], .lst .u 4 []])),⟨none, .store 2 (Zt 8) (Zt 34), none⟩] []) (.seq (.reg [Zm 35 1,Zo 36 (.call 13 [(Zt 35)]),Zm 9 36] [9]) (.seq (.reg [Zo 38 (.load 2 true (Zt 8)),Zm 39 9,Zo 40 (.call 18 [(Zt 38), (Zt 39)]),Zm 37 40,Ze 41 37 0,Ze 42 37 1,Zm 10 41,Zm 11 42] [10]) (.seq (.seqr (.reg [Zm 43 10,Zm 44 6,Zo 45 (.call 16 [(Zt 43), (Zt 44)]),Zo 46 (.un .not (Zt 45)),Zm 47 46,⟨(some 48), .mv (Zt 11), (some (47, false))⟩,⟨(some 49), .mv (Zt 7), (some (47, false))⟩,⟨(some 50), .beq true (Zt 48) (Zt 49), (some (47, false))⟩,Zo 51 (.pick (Zt 47) (.c (.b true)) (Zt 50))] []) [1, 2, 6, 7, 8, 9, 10, 11, 51] [2, 6, 8, 9, 10, 34, 1034] A4R1) (.seq (.seq (.drw [Zo 52 (.load 2 true (Zt 8)),Zo 53 (.load 2 true (Zt 2)),Zo 54 (.call 12 [(Zt 53)]),Zo 55 (.call 15 [(Zt 52), (Zt 54)]),Zo 56 (.un .not (Zt 55))] []) (.cond (Zt 56) (.seq (.reg [Zo 4 (.mv (.c (.b false)))] []) .ret) .skip)) (.seq (.seq (.reg [Zm 57 9,Zm 58 1,Zo 59 (.call 13 [(Zt 58)]),Zo 60 (.call 16 [(Zt 57), (Zt 59)]),Zo 61 (.un .not (Zt 60))] []) (.cond (Zt 61) (.seq (.reg [Zo 4 (.mv (.c (.b false)))] []) .ret) .skip)) (.seq (.reg [Zn 12 1] []) (.seq (.reg [Zo 62 (.load 2 true (Zt 8)),Zm 63 12,Zo 64 (.callM 19 [(Zt 62), (Zt 63)] [34, 1034]),Zm 12 64] []) (.seq (.reg [Zm 65 9,Zm 66 12,Zo 67 (.callM 20 [(Zt 65), (Zt 66)] [9]),Zm 12 67] []) (.seq (.seqr (.reg [Zm 68 12,Zd 69 .lss 68 0,Zm 70 69,⟨(some 71), .mv (Zt 10), (some (70, false))⟩,⟨(some 72), .mv (Zt 6), (some (70, false))⟩,⟨(some 73), .call 16 [(Zt 71), (Zt 72)], (some (70, false))⟩,⟨(some 74), .un .not (Zt 73), (some (70, false))⟩,Zo 75 (.pick (Zt 70) (.c (.b true)) (Zt 74)),Zm 76 75,⟨(some 77), .mv (Zt 11), (some (76, false))⟩,⟨(some 78), .mv (Zt 7), (some (76, false))⟩,⟨(some 79), .beq true (Zt 77) (Zt 78), (some (76, false))⟩,Zo 80 (.pick (Zt 76) (.c (.b true)) (Zt 79))] []) [1, 2, 6, 7, 10, 80] [2, 6, 10] A4R2) (.seq (.reg [Zn 13 1] []) (.seq (.reg [Zm 81 10,Zm 82 13,Zo 83 (.callM 20 [(Zt 81), (Zt 82)] [10]),Zm 13 83] []) (.seq (.reg [Zn 14 1] []) (.seq (.reg [Zm 84 10,Zm 85 14,Zo 86 (.call 21 [(Zt 84), (Zt 85)]),Zm 14 86] []) (.seq (.seq (.reg [Zm 87 14,Zd 88 .lss 87 0] []) (.cond (Zt 88) (.seq (.reg [Zo 4 (.mv (.c (.b false)))] []) .ret) .skip)) (.seq (.seq (.reg [Zm 89 14,Zm 90 13,Zb 91 .neq 89 90] []) (.cond (Zt 91) (.seq (.reg [Zo 4 (.mv (.c (.b false)))] []) .ret) .skip)) (.seq (.reg [Zo 93 (.load 2 true (Zt 2)),Zo 94 (.call 12 [(Zt 93)]),Zm 95 1,Zo 96 (.call 13 [(Zt 95)]),Zo 97 (.call 18 [(Zt 94), (Zt 96)]),Zm 92 97,Ze 98 92 0,Ze 99 92 1,Zm 15 98,Zm 16 99] [15]) (.seq (.seqr (.reg [Zm 100 15,Zm 101 6,Zo 102 (.call 16 [(Zt 100), (Zt 101)]),Zo 103 (.un .not (Zt 102)),Zm 104 103,⟨(some 105), .mv (Zt 16), (some (104, false))⟩,⟨(some 106), .mv (Zt 7), (some (104, false))⟩,⟨(some 107), .beq true (Zt 105) (Zt 106), (some (104, false))⟩,Zo 108 (.pick (Zt 104) (.c (.b true)) (Zt 107))] []) [10, 13, 108] [10] A4R3) (.seq (.reg [Zn 14 1] []) (.seq (.reg [Zm 109 10,Zm 110 14,Zo 111 (.call 21 [(Zt 109), (Zt 110)]),Zm 14 111] []) (.seq (.seq (.reg [Zm 112 14,Zd 113 .lss 112 0] []) (.cond (Zt 113) (.seq (.reg [Zo 4 (.mv (.c (.b false)))] []) .ret) .skip)) (.seq (.seq (.reg [Zm 114 14,Zm 115 13,Zb 116 .neq 114 115] []) (.cond (Zt 116) (.seq (.reg [Zo 4 (.mv (.c (.b false)))] []) .ret) .skip)) (.seq (.reg [Zo 4 (.mv (.c (.b true)))] []) .ret)))))))))))))))))))))))))))))
def V4 : List RV := [.t 4]
theorem m4 : mtcF Try.prog 4 2 A4 V4 = true := by kernel_rfl
end Vs

