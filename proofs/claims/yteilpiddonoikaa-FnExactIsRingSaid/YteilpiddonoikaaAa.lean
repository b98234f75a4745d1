/-
  Part of the proof that the law FnExactIsRing returns true at every input; no condition beside the row's own.
-/
import Derived.Test.YteilpiddonoikaaFe
import Derived.Test.YteilpiddonoikaaChecked
import Derived.KernelRfl
set_option linter.unusedSimpArgs false
set_option linter.unusedVariables false
namespace Vs
open Go
structure TFiber where
  A : Int
  B : Int
  Length : Int
  Risk : Int
  deriving DecidableEq
def e_TFiber (f : Fl) (x : TFiber) : AV := .agg [.i x.A, .i x.B, .i x.Length, .i x.Risk]
theorem e_TFiber_nrm (f : Fl) (x : TFiber) : (e_TFiber f x).nrm = e_TFiber .o x := by simp [e_TFiber, nrm_sc, nrm_lst, nrm_agg, nrm_sc]
theorem e_TFiber_nrmm (f : Fl) (xs : List TFiber) : (xs.map (e_TFiber f)).map AV.nrm = xs.map (e_TFiber .o) := by simp [e_TFiber_nrm]
theorem e_TFiber_als (f : Fl) (x : TFiber) : (e_TFiber f x).als = e_TFiber f.als x := by simp [e_TFiber, als_sc, als_lst, als_agg, nrm_sc]
theorem e_TFiber_alsm (f : Fl) (xs : List TFiber) : (xs.map (e_TFiber f)).map AV.als = xs.map (e_TFiber f.als) := by simp [e_TFiber_als]
theorem e_TFiber_fix (f : Fl) (x : TFiber) : (e_TFiber f x).fix = e_TFiber f.fix x := by simp [e_TFiber, fix_sc, fix_lst, fix_agg, nrm_sc]
theorem e_TFiber_fixm (f : Fl) (xs : List TFiber) : (xs.map (e_TFiber f)).map AV.fix = xs.map (e_TFiber f.fix) := by simp [e_TFiber_fix]
theorem e_TFiber_fz (x : TFiber) : (e_TFiber .o x).fz = true := by simp [e_TFiber, AV.i, AV.b, AV.z, fz_sc, fz_lsto, fz_agg, fzL_nil, fzL_cons, fzL_mi, fzL_mb, fzL_mz, fzL_m8, fzL_m64, ouL_m8, ouL_m64, ou_sc, ou_lstu, ou_agg, ouL_nil, ouL_cons, ouL_mi, ouL_mb, ouL_mz]
theorem e_TFiber_fzm (xs : List TFiber) : fzL (xs.map (e_TFiber .o)) = true := fzL_of e_TFiber_fz xs
theorem e_TFiber_ou (x : TFiber) : (e_TFiber .u x).ouB = true := by simp [e_TFiber, AV.i, AV.b, AV.z, fz_sc, fz_lsto, fz_agg, fzL_nil, fzL_cons, fzL_mi, fzL_mb, fzL_mz, fzL_m8, fzL_m64, ouL_m8, ouL_m64, ou_sc, ou_lstu, ou_agg, ouL_nil, ouL_cons, ouL_mi, ouL_mb, ouL_mz]
theorem e_TFiber_oum (xs : List TFiber) : ouBL (xs.map (e_TFiber .u)) = true := ouL_of e_TFiber_ou xs
structure TNetwork where
  Nodes : List ByteArray
  Fibers : List TFiber
def e_TNetwork (f : Fl) (x : TNetwork) : AV := .agg [.lst f 1 (x.Nodes.map AV.z), .lst f 4 (x.Fibers.map (e_TFiber f))]
theorem e_TNetwork_nrm (f : Fl) (x : TNetwork) : (e_TNetwork f x).nrm = e_TNetwork .o x := by simp [e_TNetwork, nrm_sc, nrm_lst, nrm_agg, e_TFiber_nrm, map_nrm_i, map_nrm_z]
theorem e_TNetwork_nrmm (f : Fl) (xs : List TNetwork) : (xs.map (e_TNetwork f)).map AV.nrm = xs.map (e_TNetwork .o) := by simp [e_TNetwork_nrm]
theorem e_TNetwork_als (f : Fl) (x : TNetwork) : (e_TNetwork f x).als = e_TNetwork f.als x := by simp [e_TNetwork, als_sc, als_lst, als_agg, e_TFiber_als, map_als_i, map_als_z]
theorem e_TNetwork_alsm (f : Fl) (xs : List TNetwork) : (xs.map (e_TNetwork f)).map AV.als = xs.map (e_TNetwork f.als) := by simp [e_TNetwork_als]
theorem e_TNetwork_fix (f : Fl) (x : TNetwork) : (e_TNetwork f x).fix = e_TNetwork f.fix x := by simp [e_TNetwork, fix_sc, fix_lst, fix_agg, e_TFiber_fix, map_fix_i, map_fix_z]
theorem e_TNetwork_fixm (f : Fl) (xs : List TNetwork) : (xs.map (e_TNetwork f)).map AV.fix = xs.map (e_TNetwork f.fix) := by simp [e_TNetwork_fix]
theorem e_TNetwork_fz (x : TNetwork) : (e_TNetwork .o x).fz = true := by simp [e_TNetwork, AV.i, AV.b, AV.z, fz_sc, fz_lsto, fz_agg, fzL_nil, fzL_cons, fzL_mi, fzL_mb, fzL_mz, fzL_m8, fzL_m64, ouL_m8, ouL_m64, ou_sc, ou_lstu, ou_agg, ouL_nil, ouL_cons, ouL_mi, ouL_mb, ouL_mz, e_TFiber_fzm, e_TFiber_oum]
theorem e_TNetwork_fzm (xs : List TNetwork) : fzL (xs.map (e_TNetwork .o)) = true := fzL_of e_TNetwork_fz xs
theorem e_TNetwork_ou (x : TNetwork) : (e_TNetwork .u x).ouB = true := by simp [e_TNetwork, AV.i, AV.b, AV.z, fz_sc, fz_lsto, fz_agg, fzL_nil, fzL_cons, fzL_mi, fzL_mb, fzL_mz, fzL_m8, fzL_m64, ouL_m8, ouL_m64, ou_sc, ou_lstu, ou_agg, ouL_nil, ouL_cons, ouL_mi, ouL_mb, ouL_mz, e_TFiber_fzm, e_TFiber_oum]
theorem e_TNetwork_oum (xs : List TNetwork) : ouBL (xs.map (e_TNetwork .u)) = true := ouL_of e_TNetwork_ou xs
def M_laws_szStringSL1 (aZ0 : List ByteArray) (sZ2 : Int × Int) : Option ((Int × Int) ⊕ (Int ⊕ Int)) :=
  cond (decide (sZ2.2 < (aZ0.length : Int))) ((geti aZ0 sZ2.2).bind fun yZ4 => cond (decide ((IntKind.wrap .i64 (sZ2.1 - (yZ4.size : Int))) < 0)) (some (.inr (.inr (-1)))) (some (.inl (IntKind.wrap .i64 (sZ2.1 - (yZ4.size : Int)), IntKind.wrap .i64 (sZ2.2 + 1))))) (some (.inr (.inl sZ2.1)))
def M_laws_szStringS (aZ0 : List ByteArray) (leftZ0 : Int) : Option Int :=
  cond (decide ((IntKind.wrap .i64 (leftZ0 - (aZ0.length : Int))) < 0)) (some (-1)) ((iter (M_laws_szStringSL1 aZ0) N0 (IntKind.wrap .i64 (leftZ0 - (aZ0.length : Int)), 0)).bind fun oZ6 => (match oZ6 with | .inl vZ7 => some vZ7 | .inr xZ8 => some xZ8))
def M_laws_szFiberS (aZ0 : List TFiber) (leftZ0 : Int) : Option Int :=
  cond (decide ((IntKind.wrap .i64 (leftZ0 - (aZ0.length : Int))) < 0)) (some (-1)) (some (IntKind.wrap .i64 (leftZ0 - (aZ0.length : Int))))
def M_laws_szNetwork (aZ0 : TNetwork) (leftZ0 : Int) : Option Int :=
  (M_laws_szStringS aZ0.Nodes leftZ0).bind fun rZ1 => cond (decide (rZ1 < 0)) (some (-1)) ((M_laws_szFiberS aZ0.Fibers rZ1).bind fun rZ3 => cond (decide (rZ3 < 0)) (some (-1)) (some rZ3))
def M_laws_toStringSL1 (aZ0 : List ByteArray) (sZ4 : Int × List ByteArray) : Option ((Int × List ByteArray) ⊕ (List ByteArray)) :=
  cond (decide (sZ4.1 < (aZ0.length : Int))) ((geti aZ0 sZ4.1).bind fun yZ6 => (grd (0 ≤ sZ4.1 ∧ sZ4.1 < (sZ4.2.length : Int))).bind fun kZ7 => (sZ4.2[(Int.toNat sZ4.1)]?).bind fun yZ8 => bnd (sZ4.2.set (Int.toNat sZ4.1) yZ6) fun lZ9 => some (.inl (IntKind.wrap .i64 (sZ4.1 + 1), lZ9))) (some (.inr sZ4.2))
def M_laws_toStringS (aZ0 : List ByteArray) : Option (List ByteArray) :=
  (grd (0 ≤ (aZ0.length : Int) ∧ (aZ0.length : Int) ≤ (aZ0.length : Int) ∧ (aZ0.length : Int) * ((16 : Nat) : Int) ≤ 140737488355328 ∧ (aZ0.length : Int) ≤ 9223372036854775807)).bind fun uZ1 => bnd (List.replicate (Int.toNat (aZ0.length : Int)) (⟨#[]⟩)) fun lZ2 => (iter (M_laws_toStringSL1 aZ0) N0 (0, lZ2)).bind fun oZ11 => some oZ11
def M_laws_toFiber (aZ0 : TFiber) : Option TFiber :=
  some (⟨aZ0.A, aZ0.B, aZ0.Length, aZ0.Risk⟩ : TFiber)
def M_laws_toFiberSL1 (aZ0 : List TFiber) (sZ4 : Int × List TFiber) : Option ((Int × List TFiber) ⊕ (List TFiber)) :=
  cond (decide (sZ4.1 < (aZ0.length : Int))) ((geti aZ0 sZ4.1).bind fun yZ6 => (M_laws_toFiber yZ6).bind fun rZ7 => (grd (0 ≤ sZ4.1 ∧ sZ4.1 < (sZ4.2.length : Int))).bind fun kZ8 => (sZ4.2[(Int.toNat sZ4.1)]?).bind fun yZ9 => bnd (sZ4.2.set (Int.toNat sZ4.1) rZ7) fun lZ10 => some (.inl (IntKind.wrap .i64 (sZ4.1 + 1), lZ10))) (some (.inr sZ4.2))
def M_laws_toFiberS (aZ0 : List TFiber) : Option (List TFiber) :=
  (grd (0 ≤ (aZ0.length : Int) ∧ (aZ0.length : Int) ≤ (aZ0.length : Int) ∧ (aZ0.length : Int) * ((32 : Nat) : Int) ≤ 140737488355328 ∧ (aZ0.length : Int) ≤ 9223372036854775807)).bind fun uZ1 => bnd (List.replicate (Int.toNat (aZ0.length : Int)) (⟨0, 0, 0, 0⟩ : TFiber)) fun lZ2 => (iter (M_laws_toFiberSL1 aZ0) N0 (0, lZ2)).bind fun oZ12 => some oZ12
def M_laws_toNetwork (aZ0 : TNetwork) : Option TNetwork :=
  (M_laws_toStringS aZ0.Nodes).bind fun rZ1 => (M_laws_toFiberS aZ0.Fibers).bind fun rZ2 => some (⟨rZ1, rZ2⟩ : TNetwork)
def M_laws_toIntSL1 (aZ0 : List Int) (sZ4 : Int × List Int) : Option ((Int × List Int) ⊕ (List Int)) :=
  cond (decide (sZ4.1 < (aZ0.length : Int))) ((geti aZ0 sZ4.1).bind fun yZ6 => (grd (0 ≤ sZ4.1 ∧ sZ4.1 < (sZ4.2.length : Int))).bind fun kZ7 => (sZ4.2[(Int.toNat sZ4.1)]?).bind fun yZ8 => bnd (sZ4.2.set (Int.toNat sZ4.1) yZ6) fun lZ9 => some (.inl (IntKind.wrap .i64 (sZ4.1 + 1), lZ9))) (some (.inr sZ4.2))
def M_laws_toIntS (aZ0 : List Int) : Option (List Int) :=
  (grd (0 ≤ (aZ0.length : Int) ∧ (aZ0.length : Int) ≤ (aZ0.length : Int) ∧ (aZ0.length : Int) * ((8 : Nat) : Int) ≤ 140737488355328 ∧ (aZ0.length : Int) ≤ 9223372036854775807)).bind fun uZ1 => bnd (List.replicate (Int.toNat (aZ0.length : Int)) 0) fun lZ2 => (iter (M_laws_toIntSL1 aZ0) N0 (0, lZ2)).bind fun oZ11 => some oZ11
def M_spec_l1In (xZ0 : Int) (aZ0 : Int) (bZ0 : Int) : Option Bool :=
  cond (decide (aZ0 ≤ xZ0)) (some (decide (xZ0 ≤ bZ0))) (some false)
def M_spec_l2Sign (bZ0 : Int) : Option Bool :=
  cond (decide (97 ≤ bZ0)) (cond (decide (bZ0 ≤ 122)) (some true) (cond (decide (48 ≤ bZ0)) (some (decide (bZ0 ≤ 57))) (some false))) (cond (decide (48 ≤ bZ0)) (some (decide (bZ0 ≤ 57))) (some false))
def M_spec_l2NameL1 (sZ0 : ByteArray) (sZ7 : Int) : Option (Int ⊕ (Unit ⊕ Bool)) :=
  cond (decide (sZ7 < (sZ0.size : Int))) ((getz sZ0 sZ7).bind fun yZ9 => (M_spec_l2Sign (yZ9.toNat : Int)).bind fun rZ10 => cond (!rZ10) (some (.inr (.inr false))) (some (.inl (IntKind.wrap .i64 (sZ7 + 1))))) (some (.inr (.inl ())))
def M_spec_l2Name (sZ0 : ByteArray) : Option Bool :=
  ((M_spec_l1In (sZ0.size : Int) 1 8).bind fun rZ1 => cond (!rZ1) (some true) ((getz sZ0 0).bind fun yZ3 => cond (decide ((yZ3.toNat : Int) < 97)) (some true) (some (decide (122 < (yZ3.toNat : Int))))) : Option Bool).bind fun oZ5 => cond (oZ5) (some false) ((iter (M_spec_l2NameL1 sZ0) N0 0).bind fun oZ12 => (match oZ12 with | .inl vZ13 => some true | .inr xZ14 => some xZ14))
def M_spec_l2FindL1 (listZ0 : List ByteArray) (nameZ0 : ByteArray) (sZ1 : Int) : Option (Int ⊕ (Unit ⊕ Int)) :=
  cond (decide (sZ1 < (listZ0.length : Int))) ((geti listZ0 sZ1).bind fun yZ3 => cond (yZ3.toList == nameZ0.toList) (some (.inr (.inr sZ1))) (some (.inl (IntKind.wrap .i64 (sZ1 + 1))))) (some (.inr (.inl ())))
def M_spec_l2Find (listZ0 : List ByteArray) (nameZ0 : ByteArray) : Option Int :=
  (iter (M_spec_l2FindL1 listZ0 nameZ0) N0 0).bind fun oZ5 => (match oZ5 with | .inl vZ6 => some (-1) | .inr xZ7 => some xZ7)
def M_spec_l2Fiber (fZ0 : TFiber) (nodesZ0 : Int) : Option Bool :=
  (M_spec_l1In fZ0.A 0 (IntKind.wrap .i64 (nodesZ0 - 1))).bind fun rZ1 => cond (rZ1) ((M_spec_l1In fZ0.B (IntKind.wrap .i64 (fZ0.A + 1)) (IntKind.wrap .i64 (nodesZ0 - 1))).bind fun rZ3 => cond (rZ3) ((M_spec_l1In fZ0.Length 1 5000).bind fun rZ5 => cond (rZ5) ((M_spec_l1In fZ0.Risk 0 9).bind fun rZ7 => some rZ7) (some false)) (some false)) (some false)
def M_spec_l2Before (fZ0 : TFiber) (gZ0 : TFiber) : Option Int :=
  cond (fZ0.A != gZ0.A) (some (IntKind.wrap .i64 (fZ0.A - gZ0.A))) (cond (fZ0.B != gZ0.B) (some (IntKind.wrap .i64 (fZ0.B - gZ0.B))) (cond (fZ0.Length != gZ0.Length) (some (IntKind.wrap .i64 (fZ0.Length - gZ0.Length))) (some (IntKind.wrap .i64 (fZ0.Risk - gZ0.Risk)))))
def M_spec_l2GoodL1 (nZ0 : TNetwork) (sZ5 : Int) : Option (Int ⊕ (Unit ⊕ Bool)) :=
  cond (decide (sZ5 < (nZ0.Nodes.length : Int))) (((geti nZ0.Nodes sZ5).bind fun yZ7 => (M_spec_l2Name yZ7).bind fun rZ8 => cond (!rZ8) (some true) ((M_spec_l2Find nZ0.Nodes yZ7).bind fun rZ10 => some (rZ10 != sZ5)) : Option Bool).bind fun oZ11 => cond (oZ11) (some (.inr (.inr false))) (some (.inl (IntKind.wrap .i64 (sZ5 + 1))))) (some (.inr (.inl ())))
def M_spec_l2GoodL2 (nZ0 : TNetwork) (sZ16 : Int) : Option (Int ⊕ (Unit ⊕ Bool)) :=
  cond (decide (sZ16 < (nZ0.Fibers.length : Int))) (((geti nZ0.Fibers sZ16).bind fun yZ18 => (M_spec_l2Fiber yZ18 (nZ0.Nodes.length : Int)).bind fun rZ19 => cond (!rZ19) (some true) (cond (decide (0 < sZ16)) ((geti nZ0.Fibers (IntKind.wrap .i64 (sZ16 - 1))).bind fun yZ22 => (M_spec_l2Before yZ22 yZ18).bind fun rZ23 => some (decide (0 < rZ23))) (some false)) : Option Bool).bind fun oZ24 => cond (oZ24) (some (.inr (.inr false))) (some (.inl (IntKind.wrap .i64 (sZ16 + 1))))) (some (.inr (.inl ())))
def M_spec_l2Good (nZ0 : TNetwork) : Option Bool :=
  ((M_spec_l1In (nZ0.Nodes.length : Int) 2 8).bind fun rZ1 => cond (!rZ1) (some true) (some (decide (14 < (nZ0.Fibers.length : Int)))) : Option Bool).bind fun oZ3 => cond (oZ3) (some false) ((iter (M_spec_l2GoodL1 nZ0) N0 0).bind fun oZ13 => (match oZ13 with | .inl vZ14 => (iter (M_spec_l2GoodL2 nZ0) N0 0).bind fun oZ26 => (match oZ26 with | .inl vZ27 => some true | .inr xZ28 => some xZ28) | .inr xZ15 => some xZ15))
def M_spec_l1HasL1 (lZ0 : List Int) (nZ0 : Int) (sZ1 : Int) : Option (Int ⊕ (Unit ⊕ Bool)) :=
  cond (decide (sZ1 < (lZ0.length : Int))) ((geti lZ0 sZ1).bind fun yZ3 => cond (yZ3 == nZ0) (some (.inr (.inr true))) (some (.inl (IntKind.wrap .i64 (sZ1 + 1))))) (some (.inr (.inl ())))
def M_spec_l1Has (lZ0 : List Int) (nZ0 : Int) : Option Bool :=
  (iter (M_spec_l1HasL1 lZ0 nZ0) N0 0).bind fun oZ5 => (match oZ5 with | .inl vZ6 => some false | .inr xZ7 => some xZ7)
def M_spec_l2Other (nZ0 : TNetwork) (fiberZ0 : Int) (nodeZ0 : Int) : Option Int :=
  (geti nZ0.Fibers fiberZ0).bind fun yZ1 => cond (nodeZ0 == yZ1.A) (some yZ1.B) (cond (nodeZ0 == yZ1.B) (some yZ1.A) (some (-1)))
def M_spec_l17WalkL1 (nZ0 : TNetwork) (ringZ0 : List Int) (sZ1 : Int × Int × List Int) : Option ((Int × Int × List Int) ⊕ ((Int × List Int) ⊕ (List Int × Bool))) :=
  cond (decide (sZ1.2.1 < (ringZ0.length : Int))) (((geti ringZ0 sZ1.2.1).bind fun yZ3 => (M_spec_l1In yZ3 0 (IntKind.wrap .i64 ((nZ0.Fibers.length : Int) - 1))).bind fun rZ4 => cond (!rZ4) (some true) ((slT ringZ0 sZ1.2.1).bind fun lZ6 => (M_spec_l1Has lZ6 yZ3).bind fun rZ7 => cond (rZ7) (some true) ((M_spec_l1Has sZ1.2.2 sZ1.1).bind fun rZ9 => some rZ9)) : Option Bool).bind fun oZ10 => cond (oZ10) (some (.inr (.inr (sZ1.2.2, false)))) (bnd ([sZ1.1]) fun lZ12 => (grd ((sZ1.2.2.length + 1) * 8 ≤ 140737488355328)).bind fun uZ15 => bnd (sZ1.2.2 ++ lZ12) fun lZ16 => (geti ringZ0 sZ1.2.1).bind fun yZ19 => (M_spec_l2Other nZ0 yZ19 sZ1.1).bind fun rZ20 => cond (decide (rZ20 < 0)) (some (.inr (.inr (lZ16, false)))) (some (.inl (rZ20, IntKind.wrap .i64 (sZ1.2.1 + 1), lZ16))))) (some (.inr (.inl (sZ1.1, sZ1.2.2))))
def M_spec_l17Walk (nZ0 : TNetwork) (ringZ0 : List Int) (fromZ0 : Int) : Option (List Int × Bool) :=
  (iter (M_spec_l17WalkL1 nZ0 ringZ0) N0 (fromZ0, 0, [])).bind fun oZ22 => (match oZ22 with | .inl vZ23 => cond (vZ23.1 == fromZ0) (some (vZ23.2, (decide (1 < (ringZ0.length : Int))))) (some (vZ23.2, false)) | .inr xZ24 => some xZ24)
def M_spec_l17BackL1 (ringZ0 : List Int) (sZ1 : Int × List Int) : Option ((Int × List Int) ⊕ (List Int)) :=
  cond (decide (0 ≤ sZ1.1)) ((geti ringZ0 sZ1.1).bind fun yZ3 => bnd ([yZ3]) fun lZ4 => (grd ((sZ1.2.length + 1) * 8 ≤ 140737488355328)).bind fun uZ7 => bnd (sZ1.2 ++ lZ4) fun lZ8 => some (.inl (IntKind.wrap .i64 (sZ1.1 - 1), lZ8))) (some (.inr sZ1.2))
def M_spec_l17Back (ringZ0 : List Int) : Option (List Int) :=
  (iter (M_spec_l17BackL1 ringZ0) N0 (IntKind.wrap .i64 ((ringZ0.length : Int) - 1), [])).bind fun oZ11 => some oZ11
def M_spec_l17LessL1 (aZ0 : List Int) (bZ0 : List Int) (sZ2 : Int) : Option (Int ⊕ (Unit ⊕ Bool)) :=
  cond (decide (sZ2 < (aZ0.length : Int))) ((geti aZ0 sZ2).bind fun yZ4 => (geti bZ0 sZ2).bind fun yZ5 => cond (yZ4 != yZ5) (some (.inr (.inr (decide (yZ4 < yZ5))))) (some (.inl (IntKind.wrap .i64 (sZ2 + 1))))) (some (.inr (.inl ())))
def M_spec_l17Less (aZ0 : List Int) (bZ0 : List Int) : Option Bool :=
  cond ((aZ0.length : Int) != (bZ0.length : Int)) (some (decide ((aZ0.length : Int) < (bZ0.length : Int)))) ((iter (M_spec_l17LessL1 aZ0 bZ0) N0 0).bind fun oZ7 => (match oZ7 with | .inl vZ8 => some false | .inr xZ9 => some xZ9))
def M_spec_l17GoodL2 (sZ1 : Int) (rZ3 : List Int × Bool) (sZ5 : Bool × Int) : Option ((Bool × Int) ⊕ Bool) :=
  cond (decide (sZ5.2 < (rZ3.1.length : Int))) (cond (sZ5.1) ((grd (0 ≤ sZ5.2 ∧ sZ5.2 < (rZ3.1.length : Int))).bind fun kZ8 => (rZ3.1[(Int.toNat sZ5.2)]?).bind fun yZ9 => some (.inl (decide (sZ1 ≤ yZ9), IntKind.wrap .i64 (sZ5.2 + 1)))) (some (.inl (false, IntKind.wrap .i64 (sZ5.2 + 1))))) (some (.inr sZ5.1))
def M_spec_l17GoodL1 (nZ0 : TNetwork) (ringZ0 : List Int) (sZ1 : Int) : Option (Int ⊕ (Unit ⊕ Bool)) :=
  cond (decide (sZ1 < (nZ0.Nodes.length : Int))) ((M_spec_l17Walk nZ0 ringZ0 sZ1).bind fun rZ3 => cond (!rZ3.2) (some (.inl (IntKind.wrap .i64 (sZ1 + 1)))) ((iter (M_spec_l17GoodL2 sZ1 rZ3) N0 (true, 0)).bind fun oZ10 => cond (oZ10) ((M_spec_l17Back ringZ0).bind fun rZ12 => (M_spec_l17Less rZ12 ringZ0).bind fun rZ13 => some (.inr (.inr (!rZ13)))) (some (.inr (.inr false))))) (some (.inr (.inl ())))
def M_spec_l17Good (nZ0 : TNetwork) (ringZ0 : List Int) : Option Bool :=
  (iter (M_spec_l17GoodL1 nZ0 ringZ0) N0 0).bind fun oZ14 => (match oZ14 with | .inl vZ15 => some false | .inr xZ16 => some xZ16)
def M_spec_IsRing (nZ0 : TNetwork) (ringZ0 : List Int) : Option Bool :=
  (M_spec_l2Good nZ0).bind fun rZ1 => cond (rZ1) ((M_spec_l17Good nZ0 ringZ0).bind fun rZ3 => some rZ3) (some false)
def M_impl_within (nZ0 : Int) (lowZ0 : Int) (highZ0 : Int) : Option Bool :=
  cond (decide (lowZ0 ≤ nZ0)) (some (decide (nZ0 ≤ highZ0))) (some false)
def M_impl_isNameL1 (sZ0 : ByteArray) (sZ1 : Int) : Option (Int ⊕ (Unit ⊕ Bool)) :=
  cond (decide (sZ1 < (sZ0.size : Int))) (((getz sZ0 sZ1).bind fun yZ3 => cond (decide (97 ≤ (yZ3.toNat : Int))) (cond (decide (48 ≤ (yZ3.toNat : Int))) (some (decide ((yZ3.toNat : Int) ≤ 122), decide ((yZ3.toNat : Int) ≤ 57))) (some (decide ((yZ3.toNat : Int) ≤ 122), false))) (cond (decide (48 ≤ (yZ3.toNat : Int))) (some (false, decide ((yZ3.toNat : Int) ≤ 57))) (some (false, false))) : Option (Bool × Bool)).bind fun oZ7 => cond (!oZ7.1) (cond (!oZ7.2) (some (.inr (.inr false))) (cond (sZ1 == 0) (some (.inr (.inr false))) (some (.inl (IntKind.wrap .i64 (sZ1 + 1)))))) (some (.inl (IntKind.wrap .i64 (sZ1 + 1))))) (some (.inr (.inl ())))
def M_impl_isName (sZ0 : ByteArray) : Option Bool :=
  (iter (M_impl_isNameL1 sZ0) N0 0).bind fun oZ11 => (match oZ11 with | .inl vZ12 => (M_impl_within (sZ0.size : Int) 1 8).bind fun rZ14 => some rZ14 | .inr xZ13 => some xZ13)
def M_slices_Index_Lstring_stringL1 (sZ0 : List ByteArray) (vZ0 : ByteArray) (sZ1 : Int) : Option (Int ⊕ (Unit ⊕ Int)) :=
  cond (decide (sZ1 < (sZ0.length : Int))) ((geti sZ0 sZ1).bind fun yZ3 => cond (vZ0.toList == yZ3.toList) (some (.inr (.inr sZ1))) (some (.inl (IntKind.wrap .i64 (sZ1 + 1))))) (some (.inr (.inl ())))
def M_slices_Index_Lstring_string (sZ0 : List ByteArray) (vZ0 : ByteArray) : Option Int :=
  (iter (M_slices_Index_Lstring_stringL1 sZ0 vZ0) N0 0).bind fun oZ5 => (match oZ5 with | .inl vZ6 => some (-1) | .inr xZ7 => some xZ7)
def M_slices_Contains_Lstring_string (sZ0 : List ByteArray) (vZ0 : ByteArray) : Option Bool :=
  (M_slices_Index_Lstring_string sZ0 vZ0).bind fun rZ1 => some (decide (0 ≤ rZ1))
def M_cmp_isNaN_int (xZ0 : Int) : Option Bool :=
  some (xZ0 != xZ0)
def M_cmp_Compare_int (xZ0 : Int) (yZ0 : Int) : Option Int :=
  (M_cmp_isNaN_int xZ0).bind fun rZ1 => (M_cmp_isNaN_int yZ0).bind fun rZ2 => cond (rZ1) (cond (rZ2) (some 0) (some (-1))) (cond (rZ2) (some 1) (cond (decide (xZ0 < yZ0)) (some (-1)) (cond (decide (yZ0 < xZ0)) (some 1) (some 0))))
def M_cmp_Or_intL1 (valsZ0 : List Int) (sZ1 : Int) : Option (Int ⊕ (Unit ⊕ Int)) :=
  cond (decide (sZ1 < (valsZ0.length : Int))) ((geti valsZ0 sZ1).bind fun yZ3 => cond (yZ3 != 0) (some (.inr (.inr yZ3))) (some (.inl (IntKind.wrap .i64 (sZ1 + 1))))) (some (.inr (.inl ())))
def M_cmp_Or_int (valsZ0 : List Int) : Option Int :=
  (iter (M_cmp_Or_intL1 valsZ0) N0 0).bind fun oZ5 => (match oZ5 with | .inl vZ6 => some 0 | .inr xZ7 => some xZ7)
def M_impl_compareFibers (aZ0 : TFiber) (bZ0 : TFiber) : Option Int :=
  (M_cmp_Compare_int aZ0.A bZ0.A).bind fun rZ1 => (M_cmp_Compare_int aZ0.B bZ0.B).bind fun rZ2 => (M_cmp_Compare_int aZ0.Length bZ0.Length).bind fun rZ3 => (M_cmp_Compare_int aZ0.Risk bZ0.Risk).bind fun rZ4 => bnd ([rZ1, rZ2, rZ3, rZ4]) fun lZ5 => (M_cmp_Or_int lZ5).bind fun rZ9 => some rZ9
def M_impl_IsValidNetworkL1 (nZ0 : TNetwork) (sZ1 : Int) : Option (Int ⊕ (Unit ⊕ Bool)) :=
  cond (decide (sZ1 < (nZ0.Nodes.length : Int))) ((geti nZ0.Nodes sZ1).bind fun yZ3 => (M_impl_isName yZ3).bind fun rZ4 => cond (!rZ4) (some (.inr (.inr false))) ((slT nZ0.Nodes sZ1).bind fun lZ6 => (M_slices_Contains_Lstring_string lZ6 yZ3).bind fun rZ7 => cond (rZ7) (some (.inr (.inr false))) (some (.inl (IntKind.wrap .i64 (sZ1 + 1)))))) (some (.inr (.inl ())))
def M_impl_IsValidNetworkL2 (nZ0 : TNetwork) (sZ12 : Int) : Option (Int ⊕ (Unit ⊕ Bool)) :=
  cond (decide (sZ12 < (nZ0.Fibers.length : Int))) ((geti nZ0.Fibers sZ12).bind fun yZ14 => cond (decide (yZ14.A < 0)) (some (.inr (.inr false))) (cond (decide (yZ14.B ≤ yZ14.A)) (some (.inr (.inr false))) (cond (decide ((nZ0.Nodes.length : Int) ≤ yZ14.B)) (some (.inr (.inr false))) ((M_impl_within yZ14.Length 1 5000).bind fun rZ18 => cond (!rZ18) (some (.inr (.inr false))) ((M_impl_within yZ14.Risk 0 9).bind fun rZ20 => cond (!rZ20) (some (.inr (.inr false))) (cond (decide (0 < sZ12)) ((geti nZ0.Fibers (IntKind.wrap .i64 (sZ12 - 1))).bind fun yZ23 => (M_impl_compareFibers yZ23 yZ14).bind fun rZ24 => cond (decide (0 < rZ24)) (some (.inr (.inr false))) (some (.inl (IntKind.wrap .i64 (sZ12 + 1))))) (some (.inl (IntKind.wrap .i64 (sZ12 + 1)))))))))) (some (.inr (.inl ())))
def M_impl_IsValidNetwork (nZ0 : TNetwork) : Option Bool :=
  (iter (M_impl_IsValidNetworkL1 nZ0) N0 0).bind fun oZ9 => (match oZ9 with | .inl vZ10 => (iter (M_impl_IsValidNetworkL2 nZ0) N0 0).bind fun oZ26 => (match oZ26 with | .inl vZ27 => (M_impl_within (nZ0.Nodes.length : Int) 2 8).bind fun rZ29 => cond (rZ29) (some (decide ((nZ0.Fibers.length : Int) ≤ 14))) (some false) | .inr xZ28 => some xZ28) | .inr xZ11 => some xZ11)
def M_slices_Index_Lint_intL1 (sZ0 : List Int) (vZ0 : Int) (sZ1 : Int) : Option (Int ⊕ (Unit ⊕ Int)) :=
  cond (decide (sZ1 < (sZ0.length : Int))) ((geti sZ0 sZ1).bind fun yZ3 => cond (vZ0 == yZ3) (some (.inr (.inr sZ1))) (some (.inl (IntKind.wrap .i64 (sZ1 + 1))))) (some (.inr (.inl ())))
def M_slices_Index_Lint_int (sZ0 : List Int) (vZ0 : Int) : Option Int :=
  (iter (M_slices_Index_Lint_intL1 sZ0 vZ0) N0 0).bind fun oZ5 => (match oZ5 with | .inl vZ6 => some (-1) | .inr xZ7 => some xZ7)
def M_slices_Contains_Lint_int (sZ0 : List Int) (vZ0 : Int) : Option Bool :=
  (M_slices_Index_Lint_int sZ0 vZ0).bind fun rZ1 => some (decide (0 ≤ rZ1))
def M_impl_otherEnd (fZ0 : TFiber) (nodeZ0 : Int) : Option Int :=
  cond (nodeZ0 == fZ0.A) (some fZ0.B) (cond (nodeZ0 == fZ0.B) (some fZ0.A) (some (-1)))
def M_impl_followedL1 (nZ0 : TNetwork) (ringZ0 : List Int) (sZ1 : Int × Int × List Int) : Option ((Int × Int × List Int) ⊕ ((Int × List Int) ⊕ (List Int × Int × Bool))) :=
  cond (decide (sZ1.2.1 < (ringZ0.length : Int))) ((geti ringZ0 sZ1.2.1).bind fun yZ3 => ((M_impl_within yZ3 0 (IntKind.wrap .i64 ((nZ0.Fibers.length : Int) - 1))).bind fun rZ4 => cond (!rZ4) (some true) ((slT ringZ0 sZ1.2.1).bind fun lZ6 => (M_slices_Contains_Lint_int lZ6 yZ3).bind fun rZ7 => some rZ7) : Option Bool).bind fun oZ8 => cond (oZ8) (some (.inr (.inr (([]), 0, false)))) (bnd ([sZ1.1]) fun lZ10 => (grd ((sZ1.2.2.length + 1) * 8 ≤ 140737488355328)).bind fun uZ13 => bnd (sZ1.2.2 ++ lZ10) fun lZ14 => (geti nZ0.Fibers yZ3).bind fun yZ17 => (M_impl_otherEnd yZ17 sZ1.1).bind fun rZ18 => cond (decide (rZ18 < 0)) (some (.inr (.inr (([]), 0, false)))) (some (.inl (rZ18, IntKind.wrap .i64 (sZ1.2.1 + 1), lZ14))))) (some (.inr (.inl (sZ1.1, sZ1.2.2))))
def M_impl_followed (nZ0 : TNetwork) (startZ0 : Int) (ringZ0 : List Int) : Option (List Int × Int × Bool) :=
  (iter (M_impl_followedL1 nZ0 ringZ0) N0 (startZ0, 0, [])).bind fun oZ20 => (match oZ20 with | .inl vZ21 => some (vZ21.2, vZ21.1, true) | .inr xZ22 => some xZ22)
def M_slices_Min_Lint_intL1 (xZ0 : List Int) (sZ3 : Int × Int) : Option ((Int × Int) ⊕ Int) :=
  cond (decide (sZ3.2 < (xZ0.length : Int))) ((geti xZ0 sZ3.2).bind fun yZ5 => some (.inl ((if yZ5 < sZ3.1 then yZ5 else sZ3.1), IntKind.wrap .i64 (sZ3.2 + 1)))) (some (.inr sZ3.1))
def M_slices_Min_Lint_int (xZ0 : List Int) : Option Int :=
  cond (decide ((xZ0.length : Int) < 1)) (none) ((geti xZ0 0).bind fun yZ2 => (iter (M_slices_Min_Lint_intL1 xZ0) N0 (yZ2, 1)).bind fun oZ6 => some oZ6)
def M_slices_Clone_Lint_int (sZ0 : List Int) : Option (List Int) :=
  cond (sZ0.isEmpty) (amb (some ([])) ((grd (sZ0.length * 8 ≤ 140737488355328)).bind fun uZ2 => some sZ0)) ((grd (sZ0.length * 8 ≤ 140737488355328)).bind fun uZ3 => some sZ0)
def M_slices_Reverse_Lint_intM1L1 (sZ1 : Int × Int × List Int) : Option ((Int × Int × List Int) ⊕ (List Int)) :=
  cond (decide (sZ1.1 < sZ1.2.1)) ((grd (0 ≤ sZ1.2.1 ∧ sZ1.2.1 < (sZ1.2.2.length : Int))).bind fun kZ3 => (sZ1.2.2[(Int.toNat sZ1.2.1)]?).bind fun yZ4 => (grd (0 ≤ sZ1.1 ∧ sZ1.1 < (sZ1.2.2.length : Int))).bind fun kZ5 => (sZ1.2.2[(Int.toNat sZ1.1)]?).bind fun yZ6 => bnd (sZ1.2.2.set (Int.toNat sZ1.1) yZ4) fun lZ7 => (lZ7[(Int.toNat sZ1.2.1)]?).bind fun yZ9 => bnd (lZ7.set (Int.toNat sZ1.2.1) yZ6) fun lZ10 => some (.inl (IntKind.wrap .i64 (sZ1.1 + 1), IntKind.wrap .i64 (sZ1.2.1 - 1), lZ10))) (some (.inr sZ1.2.2))
def M_slices_Reverse_Lint_intM1 (aaZ0 : List Int) : Option (List Int) :=
  (iter (M_slices_Reverse_Lint_intM1L1) N0 (0, IntKind.wrap .i64 ((aaZ0.length : Int) - 1), aaZ0)).bind fun oZ12 => some oZ12
def M_slices_Compare_Lint_intL1 (s1Z0 : List Int) (s2Z0 : List Int) (sZ1 : Int) : Option (Int ⊕ (Unit ⊕ Int)) :=
  cond (decide (sZ1 < (s1Z0.length : Int))) ((geti s1Z0 sZ1).bind fun yZ3 => cond (decide ((s2Z0.length : Int) ≤ sZ1)) (some (.inr (.inr 1))) ((geti s2Z0 sZ1).bind fun yZ5 => (M_cmp_Compare_int yZ3 yZ5).bind fun rZ6 => cond (rZ6 != 0) (some (.inr (.inr rZ6))) (some (.inl (IntKind.wrap .i64 (sZ1 + 1)))))) (some (.inr (.inl ())))
def M_slices_Compare_Lint_int (s1Z0 : List Int) (s2Z0 : List Int) : Option Int :=
  (iter (M_slices_Compare_Lint_intL1 s1Z0 s2Z0) N0 0).bind fun oZ8 => (match oZ8 with | .inl vZ9 => cond (decide ((s1Z0.length : Int) < (s2Z0.length : Int))) (some (-1)) (some 0) | .inr xZ10 => some xZ10)
def M_impl_aroundL1 (rZ8 : List Int × Int × Bool) (sZ14 : Int) : Option (Int ⊕ (Unit ⊕ (List Int × Bool))) :=
  cond (decide (sZ14 < (rZ8.1.length : Int))) ((grd (0 ≤ sZ14 ∧ sZ14 < (rZ8.1.length : Int))).bind fun kZ16 => (rZ8.1[(Int.toNat sZ14)]?).bind fun yZ17 => (grd (True ∧ 0 ≤ sZ14 ∧ True ∧ Int.toNat sZ14 ≤ rZ8.1.length)).bind fun uZ18 => bnd (subT rZ8.1 0 (Int.toNat sZ14)) fun lZ19 => (M_slices_Contains_Lint_int lZ19 yZ17).bind fun rZ21 => cond (rZ21) (some (.inr (.inr (([]), false)))) (some (.inl (IntKind.wrap .i64 (sZ14 + 1))))) (some (.inr (.inl ())))
def M_impl_around (nZ0 : TNetwork) (ringZ0 : List Int) : Option (List Int × Bool) :=
  (cond (decide ((ringZ0.length : Int) < 2)) (some true) ((geti ringZ0 0).bind fun yZ2 => (M_impl_within yZ2 0 (IntKind.wrap .i64 ((nZ0.Fibers.length : Int) - 1))).bind fun rZ3 => some (!rZ3)) : Option Bool).bind fun oZ4 => cond (oZ4) (some (([]), false)) ((geti ringZ0 0).bind fun yZ6 => (geti nZ0.Fibers yZ6).bind fun yZ7 => (M_impl_followed nZ0 yZ7.A ringZ0).bind fun rZ8 => (cond (!rZ8.2.2) (some true) (cond (rZ8.2.1 != yZ7.A) (some true) ((M_slices_Min_Lint_int rZ8.1).bind fun rZ11 => some (rZ11 != yZ7.A))) : Option Bool).bind fun oZ12 => cond (oZ12) (some (([]), false)) ((iter (M_impl_aroundL1 rZ8) N0 0).bind fun oZ23 => (match oZ23 with | .inl vZ24 => (M_slices_Clone_Lint_int ringZ0).bind fun rZ26 => (M_slices_Reverse_Lint_intM1 rZ26).bind fun rZ27 => bnd (subT rZ27 0 rZ26.length) fun lZ28 => (M_slices_Compare_Lint_int ringZ0 lZ28).bind fun rZ30 => some (rZ8.1, (decide (rZ30 < 0))) | .inr xZ25 => some xZ25)))
def M_impl_RingNodes (nZ0 : TNetwork) (ringZ0 : List Int) : Option (List Int × Bool) :=
  (M_impl_IsValidNetwork nZ0).bind fun rZ1 => cond (!rZ1) (some (([]), false)) ((M_impl_around nZ0 ringZ0).bind fun rZ3 => cond (!rZ3.2) (some (([]), false)) (some (rZ3.1, true)))
def M_impl_IsRing (nZ0 : TNetwork) (ringZ0 : List Int) : Option Bool :=
  (M_impl_RingNodes nZ0 ringZ0).bind fun rZ1 => some rZ1.2
def M_laws_eqStringSL1 (aZ0 : List ByteArray) (bZ0 : List ByteArray) (sZ2 : Int) : Option (Int ⊕ (Unit ⊕ Bool)) :=
  cond (decide (sZ2 < (aZ0.length : Int))) ((geti aZ0 sZ2).bind fun yZ4 => (geti bZ0 sZ2).bind fun yZ5 => cond (!(yZ4.toList == yZ5.toList)) (some (.inr (.inr false))) (some (.inl (IntKind.wrap .i64 (sZ2 + 1))))) (some (.inr (.inl ())))
def M_laws_eqStringS (aZ0 : List ByteArray) (bZ0 : List ByteArray) : Option Bool :=
  cond ((aZ0.length : Int) != (bZ0.length : Int)) (some false) ((iter (M_laws_eqStringSL1 aZ0 bZ0) N0 0).bind fun oZ7 => (match oZ7 with | .inl vZ8 => some true | .inr xZ9 => some xZ9))
def M_laws_eqFiber (aZ0 : TFiber) (bZ0 : TFiber) : Option Bool :=
  cond (aZ0.A != bZ0.A) (some false) (cond (aZ0.B != bZ0.B) (some false) (cond (aZ0.Length != bZ0.Length) (some false) (cond (aZ0.Risk != bZ0.Risk) (some false) (some true))))
def M_laws_eqFiberSL1 (aZ0 : List TFiber) (bZ0 : List TFiber) (sZ2 : Int) : Option (Int ⊕ (Unit ⊕ Bool)) :=
  cond (decide (sZ2 < (aZ0.length : Int))) ((geti aZ0 sZ2).bind fun yZ4 => (geti bZ0 sZ2).bind fun yZ5 => (M_laws_eqFiber yZ4 yZ5).bind fun rZ6 => cond (!rZ6) (some (.inr (.inr false))) (some (.inl (IntKind.wrap .i64 (sZ2 + 1))))) (some (.inr (.inl ())))
def M_laws_eqFiberS (aZ0 : List TFiber) (bZ0 : List TFiber) : Option Bool :=
  cond ((aZ0.length : Int) != (bZ0.length : Int)) (some false) ((iter (M_laws_eqFiberSL1 aZ0 bZ0) N0 0).bind fun oZ8 => (match oZ8 with | .inl vZ9 => some true | .inr xZ10 => some xZ10))
def M_laws_eqNetwork (aZ0 : TNetwork) (bZ0 : TNetwork) : Option Bool :=
  (M_laws_eqStringS aZ0.Nodes bZ0.Nodes).bind fun rZ1 => cond (!rZ1) (some false) ((M_laws_eqFiberS aZ0.Fibers bZ0.Fibers).bind fun rZ3 => cond (!rZ3) (some false) (some true))
def M_laws_eqIntSL1 (aZ0 : List Int) (bZ0 : List Int) (sZ2 : Int) : Option (Int ⊕ (Unit ⊕ Bool)) :=
  cond (decide (sZ2 < (aZ0.length : Int))) ((geti aZ0 sZ2).bind fun yZ4 => (geti bZ0 sZ2).bind fun yZ5 => cond (yZ4 != yZ5) (some (.inr (.inr false))) (some (.inl (IntKind.wrap .i64 (sZ2 + 1))))) (some (.inr (.inl ())))
def M_laws_eqIntS (aZ0 : List Int) (bZ0 : List Int) : Option Bool :=
  cond ((aZ0.length : Int) != (bZ0.length : Int)) (some false) ((iter (M_laws_eqIntSL1 aZ0 bZ0) N0 0).bind fun oZ7 => (match oZ7 with | .inl vZ8 => some true | .inr xZ9 => some xZ9))
def M_laws_FnExactIsRing (aNZ0 : TNetwork) (aRingZ0 : List Int) : Option Bool :=
  cond (decide (1048576 < (aRingZ0.length : Int))) (some true) ((M_laws_szNetwork aNZ0 1048576).bind fun rZ2 => cond (decide (rZ2 < 0)) (some true) ((M_laws_toNetwork aNZ0).bind fun rZ4 => (M_laws_toIntS aRingZ0).bind fun rZ5 => (M_spec_IsRing (⟨rZ4.Nodes, rZ4.Fibers⟩ : TNetwork) rZ5).bind fun rZ6 => (M_laws_toNetwork aNZ0).bind fun rZ7 => (M_laws_toIntS aRingZ0).bind fun rZ8 => (M_impl_IsRing (⟨rZ7.Nodes, rZ7.Fibers⟩ : TNetwork) rZ8).bind fun rZ9 => cond (!(rZ9 == rZ6)) (some false) ((M_laws_toNetwork aNZ0).bind fun rZ11 => (M_laws_eqNetwork (⟨rZ7.Nodes, rZ7.Fibers⟩ : TNetwork) (⟨rZ11.Nodes, rZ11.Fibers⟩ : TNetwork)).bind fun rZ12 => cond (!rZ12) (some false) ((M_laws_toIntS aRingZ0).bind fun rZ14 => (M_laws_eqIntS rZ8 rZ14).bind fun rZ15 => cond (!rZ15) (some false) (some true)))))
end Vs

namespace Vs
open Go Go.Proofs
theorem hmix : Try.prog.follows .mixedOrders = true := Try.checked.mixed
def A38L1 : ACode := (.seq (.seq (.reg [⟨(some 12), .mv (.t 5), none⟩,
    ⟨(some 13), .mv (.t 0), none⟩,
    ⟨(some 14), .len (.t 13), none⟩,
    ⟨(some 15), .bin .lss (.t 12) (.t 14), none⟩] []) (.cond (.t 15) .skip (.exit 0))) (.seq (.blk 1 (.seq (.reg [⟨(some 18), .mv (.t 1), none⟩,
    ⟨(some 19), .mv (.t 0), none⟩,
    ⟨(some 20), .mv (.t 5), none⟩,
    ⟨(some 21), .idx 1 (.t 19) (.t 20), none⟩,
    ⟨(some 22), .load 1 false (.t 21), none⟩,
    ⟨(some 23), .lenz (.t 22), none⟩,
    ⟨(some 24), .bin .sub (.t 18) (.t 23), none⟩,
    ⟨(some 1), .mv (.t 24), none⟩] []) (.seq (.reg [⟨(some 25), .mv (.t 1), none⟩,
    ⟨(some 26), .bin .lss (.t 25) (.c (.i 0)), none⟩] []) (.cond (.t 26) (.seq (.reg [⟨(some 4), .mv (.c (.i (-1))), none⟩] []) .ret) .skip)))) (.reg [⟨(some 16), .mv (.t 5), none⟩,
    ⟨(some 17), .bin .add (.t 16) (.c (.i 1)), none⟩,
    ⟨(some 5), .mv (.t 17), none⟩] [])))
def A38R2 : ACode := (.seq (.reg [⟨(some 27), .mv (.t 1), none⟩,
    ⟨(some 4), .mv (.t 27), none⟩] []) .ret)
def A38 : ACode := (.seq (.reg [⟨(some 4), .mv (.c (.i 0)), none⟩] []) (.seq (.reg [⟨(some 6), .mv (.t 1), none⟩,
    ⟨(some 7), .mv (.t 0), none⟩,
    ⟨(some 8), .len (.t 7), none⟩,
    ⟨(some 9), .bin .sub (.t 6) (.t 8), none⟩,
    ⟨(some 1), .mv (.t 9), none⟩] []) (.seq (.seq (.reg [⟨(some 10), .mv (.t 1), none⟩,
    ⟨(some 11), .bin .lss (.t 10) (.c (.i 0)), none⟩] []) (.cond (.t 11) (.seq (.reg [⟨(some 4), .mv (.c (.i (-1))), none⟩] []) .ret) .skip)) (.seqa (.reg [⟨(some 5), .mv (.c (.i 0)), none⟩] []) (.blk 0 (.loop A38L1)) [1] [] A38R2))))
def V38 : List RV := [.t 4]
theorem m38 : mtcF Try.prog 38 2 A38 V38 = true := by kernel_rfl
def A39 : ACode := (.seq (.reg [⟨(some 4), .mv (.c (.i 0)), none⟩] []) (.seq (.reg [⟨(some 5), .mv (.t 1), none⟩,
    ⟨(some 6), .mv (.t 0), none⟩,
    ⟨(some 7), .len (.t 6), none⟩,
    ⟨(some 8), .bin .sub (.t 5) (.t 7), none⟩,
    ⟨(some 1), .mv (.t 8), none⟩] []) (.seq (.seq (.reg [⟨(some 9), .mv (.t 1), none⟩,
    ⟨(some 10), .bin .lss (.t 9) (.c (.i 0)), none⟩] []) (.cond (.t 10) (.seq (.reg [⟨(some 4), .mv (.c (.i (-1))), none⟩] []) .ret) .skip)) (.seq (.reg [⟨(some 11), .mv (.t 1), none⟩,
    ⟨(some 4), .mv (.t 11), none⟩] []) .ret))))
def V39 : List RV := [.t 4]
theorem m39 : mtcF Try.prog 39 2 A39 V39 = true := by kernel_rfl
def A10 : ACode := (.seq (.reg [⟨(some 2), .box 2 (.t 0), none⟩,
    ⟨(some 4), .mv (.c (.i 0)), none⟩] []) (.seq (.reg [⟨(some 5), .fad 0 (.t 2), none⟩,
    ⟨(some 6), .load 1 false (.t 5), none⟩,
    ⟨(some 7), .mv (.t 1), none⟩,
    ⟨(some 8), .call 38 [(.t 6), (.t 7)], none⟩,
    ⟨(some 1), .mv (.t 8), none⟩] []) (.seq (.seq (.reg [⟨(some 9), .mv (.t 1), none⟩,
    ⟨(some 10), .bin .lss (.t 9) (.c (.i 0)), none⟩] []) (.cond (.t 10) (.seq (.reg [⟨(some 4), .mv (.c (.i (-1))), none⟩] []) .ret) .skip)) (.seq (.reg [⟨(some 11), .fad 1 (.t 2), none⟩,
    ⟨(some 12), .load 1 false (.t 11), none⟩,
    ⟨(some 13), .mv (.t 1), none⟩,
    ⟨(some 14), .call 39 [(.t 12), (.t 13)], none⟩,
    ⟨(some 1), .mv (.t 14), none⟩] []) (.seq (.seq (.reg [⟨(some 15), .mv (.t 1), none⟩,
    ⟨(some 16), .bin .lss (.t 15) (.c (.i 0)), none⟩] []) (.cond (.t 16) (.seq (.reg [⟨(some 4), .mv (.c (.i (-1))), none⟩] []) .ret) .skip)) (.seq (.reg [⟨(some 17), .mv (.t 1), none⟩,
    ⟨(some 4), .mv (.t 17), none⟩] []) .ret))))))
def V10 : List RV := [.t 4]
theorem m10 : mtcF Try.prog 10 2 A10 V10 = true := by kernel_rfl
def A42L1 : ACode := (.seq (.seq (.reg [⟨(some 8), .mv (.t 4), none⟩,
    ⟨(some 9), .mv (.t 0), none⟩,
    ⟨(some 10), .len (.t 9), none⟩,
    ⟨(some 11), .bin .lss (.t 8) (.t 10), none⟩] []) (.cond (.t 11) .skip (.exit 0))) (.seq (.blk 1 (.reg [⟨(some 14), .mv (.t 3), none⟩,
    ⟨(some 15), .mv (.t 4), none⟩,
    ⟨(some 16), .mv (.t 0), none⟩,
    ⟨(some 17), .mv (.t 4), none⟩,
    ⟨(some 18), .idx 1 (.t 16) (.t 17), none⟩,
    ⟨(some 19), .load 1 false (.t 18), none⟩,
    ⟨(some 20), .idx 1 (.t 14) (.t 15), none⟩,
    ⟨none, .store 1 (.t 20) (.t 19), none⟩] [])) (.reg [⟨(some 12), .mv (.t 4), none⟩,
    ⟨(some 13), .bin .add (.t 12) (.c (.i 1)), none⟩,
    ⟨(some 4), .mv (.t 13), none⟩] [])))
def A42R2 : ACode := (.seq (.reg [⟨(some 21), .mv (.t 3), none⟩,
    ⟨(some 2), .mv (.t 21), none⟩] [2]) .ret)
def A42 : ACode := (.seq (.reg [⟨(some 2), .mv (.c (.lst .u 1 [])), none⟩] [2]) (.seq (.reg [⟨(some 5), .mv (.t 0), none⟩,
    ⟨(some 6), .len (.t 5), none⟩,
    ⟨(some 7), .mks 1 (.z ⟨#[]⟩) 16 (.t 6) (.t 6), none⟩,
    ⟨(some 3), .mv (.t 7), none⟩] [3]) (.seqa (.reg [⟨(some 4), .mv (.c (.i 0)), none⟩] []) (.blk 0 (.loop A42L1)) [3] [3] A42R2)))
def V42 : List RV := [.t 2]
theorem m42 : mtcF Try.prog 42 1 A42 V42 = true := by kernel_rfl
def A79 : ACode := (.seq (.reg [⟨(some 1), .box 4 (.t 0), none⟩,
    ⟨(some 2), .alloc (.agg [.i 0, .i 0, .i 0, .i 0]), none⟩] []) (.seq (.reg [⟨(some 3), .alloc (.agg [.i 0, .i 0, .i 0, .i 0]), none⟩] []) (.seq (.reg [⟨(some 4), .fad 0 (.t 1), none⟩,
    ⟨(some 5), .load 1 false (.t 4), none⟩,
    ⟨(some 6), .fad 0 (.t 3), none⟩,
    ⟨none, .store 1 (.t 6) (.t 5), none⟩] []) (.seq (.reg [⟨(some 7), .fad 1 (.t 1), none⟩,
    ⟨(some 8), .load 1 false (.t 7), none⟩,
    ⟨(some 9), .fad 1 (.t 3), none⟩,
    ⟨none, .store 1 (.t 9) (.t 8), none⟩] []) (.seq (.reg [⟨(some 10), .fad 2 (.t 1), none⟩,
    ⟨(some 11), .load 1 false (.t 10), none⟩,
    ⟨(some 12), .fad 2 (.t 3), none⟩,
    ⟨none, .store 1 (.t 12) (.t 11), none⟩] []) (.seq (.reg [⟨(some 13), .fad 3 (.t 1), none⟩,
    ⟨(some 14), .load 1 false (.t 13), none⟩,
    ⟨(some 15), .fad 3 (.t 3), none⟩,
    ⟨none, .store 1 (.t 15) (.t 14), none⟩] []) (.seq (.reg [⟨(some 16), .load 4 true (.t 3), none⟩,
    ⟨none, .store 4 (.t 2) (.t 16), none⟩] []) .ret)))))))
def V79 : List RV := [.c 2 4 true]
theorem m79 : mtcF Try.prog 79 1 A79 V79 = true := by kernel_rfl
def A43L1 : ACode := (.seq (.seq (.reg [⟨(some 8), .mv (.t 4), none⟩,
    ⟨(some 9), .mv (.t 0), none⟩,
    ⟨(some 10), .len (.t 9), none⟩,
    ⟨(some 11), .bin .lss (.t 8) (.t 10), none⟩] []) (.cond (.t 11) .skip (.exit 0))) (.seq (.blk 1 (.reg [⟨(some 14), .mv (.t 3), none⟩,
    ⟨(some 15), .mv (.t 4), none⟩,
    ⟨(some 16), .mv (.t 0), none⟩,
    ⟨(some 17), .mv (.t 4), none⟩,
    ⟨(some 18), .idx 4 (.t 16) (.t 17), none⟩,
    ⟨(some 19), .load 4 true (.t 18), none⟩,
    ⟨(some 20), .call 79 [(.t 19)], none⟩,
    ⟨(some 21), .idx 4 (.t 14) (.t 15), none⟩,
    ⟨none, .store 4 (.t 21) (.t 20), none⟩] [])) (.reg [⟨(some 12), .mv (.t 4), none⟩,
    ⟨(some 13), .bin .add (.t 12) (.c (.i 1)), none⟩,
    ⟨(some 4), .mv (.t 13), none⟩] [])))
def A43R2 : ACode := (.seq (.reg [⟨(some 22), .mv (.t 3), none⟩,
    ⟨(some 2), .mv (.t 22), none⟩] [2]) .ret)
def A43 : ACode := (.seq (.reg [⟨(some 2), .mv (.c (.lst .u 4 [])), none⟩] [2]) (.seq (.reg [⟨(some 5), .mv (.t 0), none⟩,
    ⟨(some 6), .len (.t 5), none⟩,
    ⟨(some 7), .mks 4 (.agg [.i 0, .i 0, .i 0, .i 0]) 32 (.t 6) (.t 6), none⟩,
    ⟨(some 3), .mv (.t 7), none⟩] [3]) (.seqa (.reg [⟨(some 4), .mv (.c (.i 0)), none⟩] []) (.blk 0 (.loop A43L1)) [3] [3] A43R2)))
def V43 : List RV := [.t 2]
theorem m43 : mtcF Try.prog 43 1 A43 V43 = true := by kernel_rfl
def A12 : ACode := (.seq (.reg [⟨(some 1), .box 2 (.t 0), none⟩,
    ⟨(some 2), .alloc (.agg [.lst .u 1 [], .lst .u 4 []]), none⟩] []) (.seq (.reg [⟨(some 3), .alloc (.agg [.lst .u 1 [], .lst .u 4 []]), none⟩] []) (.seq (.reg [⟨(some 4), .fad 0 (.t 1), none⟩,
    ⟨(some 5), .load 1 false (.t 4), none⟩,
    ⟨(some 6), .call 42 [(.t 5)], none⟩,
    ⟨(some 7), .fad 0 (.t 3), none⟩,
    ⟨none, .store 1 (.t 7) (.t 6), none⟩] []) (.seq (.reg [⟨(some 8), .fad 1 (.t 1), none⟩,
    ⟨(some 9), .load 1 false (.t 8), none⟩,
    ⟨(some 10), .call 43 [(.t 9)], none⟩,
    ⟨(some 11), .fad 1 (.t 3), none⟩,
    ⟨none, .store 1 (.t 11) (.t 10), none⟩] []) (.seq (.reg [⟨(some 12), .load 2 true (.t 3), none⟩,
    ⟨none, .store 2 (.t 2) (.t 12), none⟩] []) .ret)))))
def V12 : List RV := [.c 2 2 true]
theorem m12 : mtcF Try.prog 12 1 A12 V12 = true := by kernel_rfl
def A13L1 : ACode := (.seq (.seq (.reg [⟨(some 8), .mv (.t 4), none⟩,
    ⟨(some 9), .mv (.t 0), none⟩,
    ⟨(some 10), .len (.t 9), none⟩,
    ⟨(some 11), .bin .lss (.t 8) (.t 10), none⟩] []) (.cond (.t 11) .skip (.exit 0))) (.seq (.blk 1 (.reg [⟨(some 14), .mv (.t 3), none⟩,
    ⟨(some 15), .mv (.t 4), none⟩,
    ⟨(some 16), .mv (.t 0), none⟩,
    ⟨(some 17), .mv (.t 4), none⟩,
    ⟨(some 18), .idx 1 (.t 16) (.t 17), none⟩,
    ⟨(some 19), .load 1 false (.t 18), none⟩,
    ⟨(some 20), .idx 1 (.t 14) (.t 15), none⟩,
    ⟨none, .store 1 (.t 20) (.t 19), none⟩] [])) (.reg [⟨(some 12), .mv (.t 4), none⟩,
    ⟨(some 13), .bin .add (.t 12) (.c (.i 1)), none⟩,
    ⟨(some 4), .mv (.t 13), none⟩] [])))
def A13R2 : ACode := (.seq (.reg [⟨(some 21), .mv (.t 3), none⟩,
    ⟨(some 2), .mv (.t 21), none⟩] [2]) .ret)
def A13 : ACode := (.seq (.reg [⟨(some 2), .mv (.c (.lst .u 1 [])), none⟩] [2]) (.seq (.reg [⟨(some 5), .mv (.t 0), none⟩,
    ⟨(some 6), .len (.t 5), none⟩,
    ⟨(some 7), .mks 1 (.i 0) 8 (.t 6) (.t 6), none⟩,
    ⟨(some 3), .mv (.t 7), none⟩] [3]) (.seqa (.reg [⟨(some 4), .mv (.c (.i 0)), none⟩] []) (.blk 0 (.loop A13L1)) [3] [3] A13R2)))
def V13 : List RV := [.t 2]
theorem m13 : mtcF Try.prog 13 1 A13 V13 = true := by kernel_rfl
def A53 : ACode := (.seq (.reg [⟨(some 6), .mv (.c (.b false)), none⟩] []) (.seq (.reg [⟨(some 7), .mv (.t 0), none⟩,
    ⟨(some 8), .mv (.t 1), none⟩,
    ⟨(some 9), .bin .geq (.t 7) (.t 8), none⟩,
    ⟨(some 10), .mv (.t 9), none⟩,
    ⟨(some 11), .mv (.t 0), (some (10, true))⟩,
    ⟨(some 12), .mv (.t 2), (some (10, true))⟩,
    ⟨(some 13), .bin .leq (.t 11) (.t 12), (some (10, true))⟩,
    ⟨(some 14), .pick (.t 10) (.t 13) (.c (.b false)), none⟩,
    ⟨(some 6), .mv (.t 14), none⟩] []) .ret))
def V53 : List RV := [.t 6]
theorem m53 : mtcF Try.prog 53 3 A53 V53 = true := by kernel_rfl
def A108 : ACode := (.seq (.reg [⟨(some 2), .mv (.c (.b false)), none⟩] []) (.seq (.reg [⟨(some 3), .mv (.t 0), none⟩,
    ⟨(some 4), .bin .geq (.t 3) (.c (.sc (.int .u8 97))), none⟩,
    ⟨(some 5), .mv (.t 4), none⟩,
    ⟨(some 6), .mv (.t 0), (some (5, true))⟩,
    ⟨(some 7), .bin .leq (.t 6) (.c (.sc (.int .u8 122))), (some (5, true))⟩,
    ⟨(some 8), .pick (.t 5) (.t 7) (.c (.b false)), none⟩,
    ⟨(some 9), .mv (.t 8), none⟩,
    ⟨(some 10), .mv (.t 0), (some (9, false))⟩,
    ⟨(some 11), .bin .geq (.t 10) (.c (.sc (.int .u8 48))), (some (9, false))⟩,
    ⟨(some 12), .mv (.t 11), (some (9, false))⟩,
    ⟨(some 13), .mv (.t 0), (some (12, true))⟩,
    ⟨(some 14), .bin .leq (.t 13) (.c (.sc (.int .u8 57))), (some (12, true))⟩,
    ⟨(some 15), .pick (.t 12) (.t 14) (.c (.b false)), (some (9, false))⟩,
    ⟨(some 16), .pick (.t 9) (.c (.b true)) (.t 15), none⟩,
    ⟨(some 2), .mv (.t 16), none⟩] []) .ret))
def V108 : List RV := [.t 2]
theorem m108 : mtcF Try.prog 108 1 A108 V108 = true := by kernel_rfl
def A72R1 : ACode := (.cond (.t 17) (.seq (.reg [⟨(some 2), .mv (.c (.b false)), none⟩] []) .ret) .skip)
def A72L2 : ACode := (.seq (.seq (.reg [⟨(some 18), .mv (.t 3), none⟩,
    ⟨(some 19), .mv (.t 0), none⟩,
    ⟨(some 20), .lenz (.t 19), none⟩,
    ⟨(some 21), .bin .lss (.t 18) (.t 20), none⟩] []) (.cond (.t 21) .skip (.exit 0))) (.seq (.blk 1 (.seq (.reg [⟨(some 24), .mv (.t 0), none⟩,
    ⟨(some 25), .mv (.t 3), none⟩,
    ⟨(some 26), .stri (.t 24) (.t 25), none⟩,
    ⟨(some 27), .call 108 [(.t 26)], none⟩,
    ⟨(some 28), .un .not (.t 27), none⟩] []) (.cond (.t 28) (.seq (.reg [⟨(some 2), .mv (.c (.b false)), none⟩] []) .ret) .skip))) (.reg [⟨(some 22), .mv (.t 3), none⟩,
    ⟨(some 23), .bin .add (.t 22) (.c (.i 1)), none⟩,
    ⟨(some 3), .mv (.t 23), none⟩] [])))
def A72R3 : ACode := (.seq (.reg [⟨(some 2), .mv (.c (.b true)), none⟩] []) .ret)
def A72 : ACode := (.seq (.reg [⟨(some 2), .mv (.c (.b false)), none⟩] []) (.seq (.seqr (.reg [⟨(some 4), .mv (.t 0), none⟩,
    ⟨(some 5), .lenz (.t 4), none⟩,
    ⟨(some 6), .call 53 [(.t 5), (.c (.i 1)), (.c (.i 8))], none⟩,
    ⟨(some 7), .un .not (.t 6), none⟩,
    ⟨(some 8), .mv (.t 7), none⟩,
    ⟨(some 9), .mv (.t 0), (some (8, false))⟩,
    ⟨(some 10), .stri (.t 9) (.c (.i 0)), (some (8, false))⟩,
    ⟨(some 11), .bin .lss (.t 10) (.c (.sc (.int .u8 97))), (some (8, false))⟩,
    ⟨(some 12), .pick (.t 8) (.c (.b true)) (.t 11), none⟩,
    ⟨(some 13), .mv (.t 12), none⟩,
    ⟨(some 14), .mv (.t 0), (some (13, false))⟩,
    ⟨(some 15), .stri (.t 14) (.c (.i 0)), (some (13, false))⟩,
    ⟨(some 16), .bin .gtr (.t 15) (.c (.sc (.int .u8 122))), (some (13, false))⟩,
    ⟨(some 17), .pick (.t 13) (.c (.b true)) (.t 16), none⟩] []) [0, 17] [] A72R1) (.seqa (.reg [⟨(some 3), .mv (.c (.i 0)), none⟩] []) (.blk 0 (.loop A72L2)) [] [] A72R3)))
def V72 : List RV := [.t 2]
theorem m72 : mtcF Try.prog 72 1 A72 V72 = true := by kernel_rfl
def A73L1 : ACode := (.seq (.seq (.reg [⟨(some 6), .mv (.t 5), none⟩,
    ⟨(some 7), .mv (.t 0), none⟩,
    ⟨(some 8), .len (.t 7), none⟩,
    ⟨(some 9), .bin .lss (.t 6) (.t 8), none⟩] []) (.cond (.t 9) .skip (.exit 0))) (.seq (.blk 1 (.seq (.reg [⟨(some 12), .mv (.t 0), none⟩,
    ⟨(some 13), .mv (.t 5), none⟩,
    ⟨(some 14), .idx 1 (.t 12) (.t 13), none⟩,
    ⟨(some 15), .load 1 false (.t 14), none⟩,
    ⟨(some 16), .mv (.t 1), none⟩,
    ⟨(some 17), .bin .eql (.t 15) (.t 16), none⟩] []) (.cond (.t 17) (.seq (.reg [⟨(some 18), .mv (.t 5), none⟩,
    ⟨(some 4), .mv (.t 18), none⟩] []) .ret) .skip))) (.reg [⟨(some 10), .mv (.t 5), none⟩,
    ⟨(some 11), .bin .add (.t 10) (.c (.i 1)), none⟩,
    ⟨(some 5), .mv (.t 11), none⟩] [])))
def A73R2 : ACode := (.seq (.reg [⟨(some 4), .mv (.c (.i (-1))), none⟩] []) .ret)
def A73 : ACode := (.seq (.reg [⟨(some 4), .mv (.c (.i 0)), none⟩] []) (.seqa (.reg [⟨(some 5), .mv (.c (.i 0)), none⟩] []) (.blk 0 (.loop A73L1)) [] [] A73R2))
def V73 : List RV := [.t 4]
theorem m73 : mtcF Try.prog 73 2 A73 V73 = true := by kernel_rfl
def A74 : ACode := (.seq (.reg [⟨(some 2), .box 4 (.t 0), none⟩,
    ⟨(some 4), .mv (.c (.b false)), none⟩] []) (.seq (.reg [⟨(some 5), .fad 0 (.t 2), none⟩,
    ⟨(some 6), .load 1 false (.t 5), none⟩,
    ⟨(some 7), .mv (.t 1), none⟩,
    ⟨(some 8), .bin .sub (.t 7) (.c (.i 1)), none⟩,
    ⟨(some 9), .call 53 [(.t 6), (.c (.i 0)), (.t 8)], none⟩,
    ⟨(some 10), .mv (.t 9), none⟩,
    ⟨(some 11), .fad 1 (.t 2), (some (10, true))⟩,
    ⟨(some 12), .load 1 false (.t 11), (some (10, true))⟩,
    ⟨(some 13), .fad 0 (.t 2), (some (10, true))⟩,
    ⟨(some 14), .load 1 false (.t 13), (some (10, true))⟩,
    ⟨(some 15), .bin .add (.t 14) (.c (.i 1)), (some (10, true))⟩,
    ⟨(some 16), .mv (.t 1), (some (10, true))⟩,
    ⟨(some 17), .bin .sub (.t 16) (.c (.i 1)), (some (10, true))⟩,
    ⟨(some 18), .call 53 [(.t 12), (.t 15), (.t 17)], (some (10, true))⟩,
    ⟨(some 19), .pick (.t 10) (.t 18) (.c (.b false)), none⟩,
    ⟨(some 20), .mv (.t 19), none⟩,
    ⟨(some 21), .fad 2 (.t 2), (some (20, true))⟩,
    ⟨(some 22), .load 1 false (.t 21), (some (20, true))⟩,
    ⟨(some 23), .call 53 [(.t 22), (.c (.i 1)), (.c (.i 5000))], (some (20, true))⟩,
    ⟨(some 24), .pick (.t 20) (.t 23) (.c (.b false)), none⟩,
    ⟨(some 25), .mv (.t 24), none⟩,
    ⟨(some 26), .fad 3 (.t 2), (some (25, true))⟩,
    ⟨(some 27), .load 1 false (.t 26), (some (25, true))⟩,
    ⟨(some 28), .call 53 [(.t 27), (.c (.i 0)), (.c (.i 9))], (some (25, true))⟩,
    ⟨(some 29), .pick (.t 25) (.t 28) (.c (.b false)), none⟩,
    ⟨(some 4), .mv (.t 29), none⟩] []) .ret))
def V74 : List RV := [.t 4]
theorem m74 : mtcF Try.prog 74 2 A74 V74 = true := by kernel_rfl
def A75 : ACode := (.seq (.reg [⟨(some 2), .box 4 (.t 0), none⟩,
    ⟨(some 3), .box 4 (.t 1), none⟩,
    ⟨(some 4), .mv (.c (.i 0)), none⟩] []) (.seq (.blk 0 (.seq (.reg [⟨(some 6), .fad 0 (.t 2), none⟩,
    ⟨(some 7), .load 1 false (.t 6), none⟩,
    ⟨(some 8), .fad 0 (.t 3), none⟩,
    ⟨(some 9), .load 1 false (.t 8), none⟩,
    ⟨(some 10), .bin .neq (.t 7) (.t 9), none⟩,
    ⟨(some 5), .mv (.t 10), none⟩] []) (.cond (.t 5) (.seq (.reg [⟨(some 11), .fad 0 (.t 2), none⟩,
    ⟨(some 12), .load 1 false (.t 11), none⟩,
    ⟨(some 13), .fad 0 (.t 3), none⟩,
    ⟨(some 14), .load 1 false (.t 13), none⟩,
    ⟨(some 15), .bin .sub (.t 12) (.t 14), none⟩,
    ⟨(some 4), .mv (.t 15), none⟩] []) .ret) (.seq (.reg [⟨(some 17), .fad 1 (.t 2), none⟩,
    ⟨(some 18), .load 1 false (.t 17), none⟩,
    ⟨(some 19), .fad 1 (.t 3), none⟩,
    ⟨(some 20), .load 1 false (.t 19), none⟩,
    ⟨(some 21), .bin .neq (.t 18) (.t 20), none⟩,
    ⟨(some 16), .mv (.t 21), none⟩] []) (.cond (.t 16) (.seq (.reg [⟨(some 22), .fad 1 (.t 2), none⟩,
    ⟨(some 23), .load 1 false (.t 22), none⟩,
    ⟨(some 24), .fad 1 (.t 3), none⟩,
    ⟨(some 25), .load 1 false (.t 24), none⟩,
    ⟨(some 26), .bin .sub (.t 23) (.t 25), none⟩,
    ⟨(some 4), .mv (.t 26), none⟩] []) .ret) (.seq (.reg [⟨(some 28), .fad 2 (.t 2), none⟩,
    ⟨(some 29), .load 1 false (.t 28), none⟩,
    ⟨(some 30), .fad 2 (.t 3), none⟩,
    ⟨(some 31), .load 1 false (.t 30), none⟩,
    ⟨(some 32), .bin .neq (.t 29) (.t 31), none⟩,
    ⟨(some 27), .mv (.t 32), none⟩] []) (.cond (.t 27) (.seq (.reg [⟨(some 33), .fad 2 (.t 2), none⟩,
    ⟨(some 34), .load 1 false (.t 33), none⟩,
    ⟨(some 35), .fad 2 (.t 3), none⟩,
    ⟨(some 36), .load 1 false (.t 35), none⟩,
    ⟨(some 37), .bin .sub (.t 34) (.t 36), none⟩,
    ⟨(some 4), .mv (.t 37), none⟩] []) .ret) .skip))))))) (.seq (.reg [⟨(some 38), .fad 3 (.t 2), none⟩,
    ⟨(some 39), .load 1 false (.t 38), none⟩,
    ⟨(some 40), .fad 3 (.t 3), none⟩,
    ⟨(some 41), .load 1 false (.t 40), none⟩,
    ⟨(some 42), .bin .sub (.t 39) (.t 41), none⟩,
    ⟨(some 4), .mv (.t 42), none⟩] []) .ret)))
def V75 : List RV := [.t 4]
theorem m75 : mtcF Try.prog 75 2 A75 V75 = true := by kernel_rfl
def A40R1 : ACode := (.cond (.t 15) (.seq (.reg [⟨(some 2), .mv (.c (.b false)), none⟩] []) .ret) .skip)
def A40R2 : ACode := (.cond (.t 41) (.seq (.reg [⟨(some 2), .mv (.c (.b false)), none⟩] []) .ret) .skip)
def A40L3 : ACode := (.seq (.seq (.reg [⟨(some 16), .mv (.t 3), none⟩,
    ⟨(some 17), .fad 0 (.t 1), none⟩,
    ⟨(some 18), .load 1 false (.t 17), none⟩,
    ⟨(some 19), .len (.t 18), none⟩,
    ⟨(some 20), .bin .lss (.t 16) (.t 19), none⟩] []) (.cond (.t 20) .skip (.exit 0))) (.seq (.blk 1 (.seqr (.drw [⟨(some 23), .fad 0 (.t 1), none⟩,
    ⟨(some 24), .load 1 false (.t 23), none⟩,
    ⟨(some 25), .mv (.t 3), none⟩,
    ⟨(some 26), .idx 1 (.t 24) (.t 25), none⟩,
    ⟨(some 27), .load 1 false (.t 26), none⟩,
    ⟨(some 28), .call 72 [(.t 27)], none⟩,
    ⟨(some 29), .un .not (.t 28), none⟩,
    ⟨(some 30), .mv (.t 29), none⟩,
    ⟨(some 31), .fad 0 (.t 1), (some (30, false))⟩,
    ⟨(some 32), .load 1 false (.t 31), (some (30, false))⟩,
    ⟨(some 33), .fad 0 (.t 1), (some (30, false))⟩,
    ⟨(some 34), .load 1 false (.t 33), (some (30, false))⟩,
    ⟨(some 35), .mv (.t 3), (some (30, false))⟩,
    ⟨(some 36), .idx 1 (.t 34) (.t 35), (some (30, false))⟩,
    ⟨(some 37), .load 1 false (.t 36), (some (30, false))⟩,
    ⟨(some 38), .call 73 [(.t 32), (.t 37)], (some (30, false))⟩,
    ⟨(some 39), .mv (.t 3), (some (30, false))⟩,
    ⟨(some 40), .bin .neq (.t 38) (.t 39), (some (30, false))⟩,
    ⟨(some 41), .pick (.t 30) (.c (.b true)) (.t 40), none⟩] []) [1, 3, 41] [1] A40R2)) (.reg [⟨(some 21), .mv (.t 3), none⟩,
    ⟨(some 22), .bin .add (.t 21) (.c (.i 1)), none⟩,
    ⟨(some 3), .mv (.t 22), none⟩] [])))
def A40R5 : ACode := (.cond (.t 77) (.seq (.reg [⟨(some 2), .mv (.c (.b false)), none⟩] []) .ret) .skip)
def A40L6 : ACode := (.seq (.seq (.reg [⟨(some 42), .mv (.t 4), none⟩,
    ⟨(some 43), .fad 1 (.t 1), none⟩,
    ⟨(some 44), .load 1 false (.t 43), none⟩,
    ⟨(some 45), .len (.t 44), none⟩,
    ⟨(some 46), .bin .lss (.t 42) (.t 45), none⟩] []) (.cond (.t 46) .skip (.exit 2))) (.seq (.blk 3 (.seqr (.drw [⟨(some 49), .fad 1 (.t 1), none⟩,
    ⟨(some 50), .load 1 false (.t 49), none⟩,
    ⟨(some 51), .mv (.t 4), none⟩,
    ⟨(some 52), .idx 4 (.t 50) (.t 51), none⟩,
    ⟨(some 53), .load 4 true (.t 52), none⟩,
    ⟨(some 54), .fad 0 (.t 1), none⟩,
    ⟨(some 55), .load 1 false (.t 54), none⟩,
    ⟨(some 56), .len (.t 55), none⟩,
    ⟨(some 57), .call 74 [(.t 53), (.t 56)], none⟩,
    ⟨(some 58), .un .not (.t 57), none⟩,
    ⟨(some 59), .mv (.t 58), none⟩,
    ⟨(some 60), .mv (.t 4), (some (59, false))⟩,
    ⟨(some 61), .bin .gtr (.t 60) (.c (.i 0)), (some (59, false))⟩,
    ⟨(some 62), .mv (.t 61), (some (59, false))⟩,
    ⟨(some 63), .fad 1 (.t 1), (some (62, true))⟩,
    ⟨(some 64), .load 1 false (.t 63), (some (62, true))⟩,
    ⟨(some 65), .mv (.t 4), (some (62, true))⟩,
    ⟨(some 66), .bin .sub (.t 65) (.c (.i 1)), (some (62, true))⟩,
    ⟨(some 67), .idx 4 (.t 64) (.t 66), (some (62, true))⟩,
    ⟨(some 68), .load 4 true (.t 67), (some (62, true))⟩,
    ⟨(some 69), .fad 1 (.t 1), (some (62, true))⟩,
    ⟨(some 70), .load 1 false (.t 69), (some (62, true))⟩,
    ⟨(some 71), .mv (.t 4), (some (62, true))⟩,
    ⟨(some 72), .idx 4 (.t 70) (.t 71), (some (62, true))⟩,
    ⟨(some 73), .load 4 true (.t 72), (some (62, true))⟩,
    ⟨(some 74), .call 75 [(.t 68), (.t 73)], (some (62, true))⟩,
    ⟨(some 75), .bin .gtr (.t 74) (.c (.i 0)), (some (62, true))⟩,
    ⟨(some 76), .pick (.t 62) (.t 75) (.c (.b false)), (some (59, false))⟩,
    ⟨(some 77), .pick (.t 59) (.c (.b true)) (.t 76), none⟩] []) [1, 4, 77] [1] A40R5)) (.reg [⟨(some 47), .mv (.t 4), none⟩,
    ⟨(some 48), .bin .add (.t 47) (.c (.i 1)), none⟩,
    ⟨(some 4), .mv (.t 48), none⟩] [])))
def A40R7 : ACode := (.seq (.reg [⟨(some 2), .mv (.c (.b true)), none⟩] []) .ret)
def A40R4 : ACode := (.seqa (.reg [⟨(some 4), .mv (.c (.i 0)), none⟩] []) (.blk 2 (.loop A40L6)) [] [] A40R7)
def A40 : ACode := (.seq (.reg [⟨(some 1), .box 2 (.t 0), none⟩,
    ⟨(some 2), .mv (.c (.b false)), none⟩] []) (.seq (.seqr (.reg [⟨(some 5), .fad 0 (.t 1), none⟩,
    ⟨(some 6), .load 1 false (.t 5), none⟩,
    ⟨(some 7), .len (.t 6), none⟩,
    ⟨(some 8), .call 53 [(.t 7), (.c (.i 2)), (.c (.i 8))], none⟩,
    ⟨(some 9), .un .not (.t 8), none⟩,
    ⟨(some 10), .mv (.t 9), none⟩,
    ⟨(some 11), .fad 1 (.t 1), (some (10, false))⟩,
    ⟨(some 12), .load 1 false (.t 11), (some (10, false))⟩,
    ⟨(some 13), .len (.t 12), (some (10, false))⟩,
    ⟨(some 14), .bin .gtr (.t 13) (.c (.i 14)), (some (10, false))⟩,
    ⟨(some 15), .pick (.t 10) (.c (.b true)) (.t 14), none⟩] []) [1, 15] [1] A40R1) (.seqa (.reg [⟨(some 3), .mv (.c (.i 0)), none⟩] []) (.blk 0 (.loop A40L3)) [1] [1] A40R4)))
def V40 : List RV := [.t 2]
theorem m40 : mtcF Try.prog 40 1 A40 V40 = true := by kernel_rfl
def A60L1 : ACode := (.seq (.seq (.reg [⟨(some 6), .mv (.t 5), none⟩,
    ⟨(some 7), .mv (.t 0), none⟩,
    ⟨(some 8), .len (.t 7), none⟩,
    ⟨(some 9), .bin .lss (.t 6) (.t 8), none⟩] []) (.cond (.t 9) .skip (.exit 0))) (.seq (.blk 1 (.seq (.reg [⟨(some 12), .mv (.t 0), none⟩,
    ⟨(some 13), .mv (.t 5), none⟩,
    ⟨(some 14), .idx 1 (.t 12) (.t 13), none⟩,
    ⟨(some 15), .load 1 false (.t 14), none⟩,
    ⟨(some 16), .mv (.t 1), none⟩,
    ⟨(some 17), .bin .eql (.t 15) (.t 16), none⟩] []) (.cond (.t 17) (.seq (.reg [⟨(some 4), .mv (.c (.b true)), none⟩] []) .ret) .skip))) (.reg [⟨(some 10), .mv (.t 5), none⟩,
    ⟨(some 11), .bin .add (.t 10) (.c (.i 1)), none⟩,
    ⟨(some 5), .mv (.t 11), none⟩] [])))
def A60R2 : ACode := (.seq (.reg [⟨(some 4), .mv (.c (.b false)), none⟩] []) .ret)
def A60 : ACode := (.seq (.reg [⟨(some 4), .mv (.c (.b false)), none⟩] []) (.seqa (.reg [⟨(some 5), .mv (.c (.i 0)), none⟩] []) (.blk 0 (.loop A60L1)) [] [] A60R2))
def V60 : List RV := [.t 4]
theorem m60 : mtcF Try.prog 60 2 A60 V60 = true := by kernel_rfl
def A99 : ACode := (.seq (.reg [⟨(some 3), .box 2 (.t 0), none⟩,
    ⟨(some 6), .mv (.c (.i 0)), none⟩] []) (.seq (.reg [⟨(some 8), .fad 1 (.t 3), none⟩,
    ⟨(some 9), .load 1 false (.t 8), none⟩,
    ⟨(some 10), .mv (.t 1), none⟩,
    ⟨(some 11), .idx 4 (.t 9) (.t 10), none⟩,
    ⟨(some 12), .load 4 true (.t 11), none⟩,
    ⟨(some 7), .alloc (.agg [.i 0, .i 0, .i 0, .i 0]), none⟩,
    ⟨none, .store 4 (.t 7) (.t 12), none⟩] []) (.seq (.seq (.reg [⟨(some 13), .mv (.t 2), none⟩] []) (.blk 0 (.seq (.reg [⟨(some 15), .fad 0 (.t 7), none⟩,
    ⟨(some 16), .load 1 false (.t 15), none⟩,
    ⟨(some 17), .bin .eql (.t 13) (.t 16), none⟩,
    ⟨(some 14), .mv (.t 17), none⟩] []) (.cond (.t 14) (.seq (.reg [⟨(some 18), .fad 1 (.t 7), none⟩,
    ⟨(some 19), .load 1 false (.t 18), none⟩,
    ⟨(some 6), .mv (.t 19), none⟩] []) .ret) (.seq (.reg [⟨(some 21), .fad 1 (.t 7), none⟩,
    ⟨(some 22), .load 1 false (.t 21), none⟩,
    ⟨(some 23), .bin .eql (.t 13) (.t 22), none⟩,
    ⟨(some 20), .mv (.t 23), none⟩] []) (.cond (.t 20) (.seq (.reg [⟨(some 24), .fad 0 (.t 7), none⟩,
    ⟨(some 25), .load 1 false (.t 24), none⟩,
    ⟨(some 6), .mv (.t 25), none⟩] []) .ret) .skip)))))) (.seq (.reg [⟨(some 6), .mv (.c (.i (-1))), none⟩] []) .ret))))
def V99 : List RV := [.t 6]
theorem m99 : mtcF Try.prog 99 3 A99 V99 = true := by kernel_rfl
def A76R1 : ACode := (.cond (.t 43) (.seq (.reg [⟨(some 44), .mv (.t 8), none⟩,
    ⟨(some 6), .mv (.t 44), none⟩,
    ⟨(some 7), .mv (.c (.b false)), none⟩] [6]) .ret) .skip)
def A76L2 : ACode := (.seq (.seq (.reg [⟨(some 13), .mv (.t 10), none⟩,
    ⟨(some 14), .mv (.t 1), none⟩,
    ⟨(some 15), .len (.t 14), none⟩,
    ⟨(some 16), .bin .lss (.t 13) (.t 15), none⟩] []) (.cond (.t 16) .skip (.exit 0))) (.seq (.blk 1 (.seq (.seqr (.drw [⟨(some 19), .mv (.t 1), none⟩,
    ⟨(some 20), .mv (.t 10), none⟩,
    ⟨(some 21), .idx 1 (.t 19) (.t 20), none⟩,
    ⟨(some 22), .load 1 false (.t 21), none⟩,
    ⟨(some 23), .fad 1 (.t 3), none⟩,
    ⟨(some 24), .load 1 false (.t 23), none⟩,
    ⟨(some 25), .len (.t 24), none⟩,
    ⟨(some 26), .bin .sub (.t 25) (.c (.i 1)), none⟩,
    ⟨(some 27), .call 53 [(.t 22), (.c (.i 0)), (.t 26)], none⟩,
    ⟨(some 28), .un .not (.t 27), none⟩,
    ⟨(some 29), .mv (.t 28), none⟩,
    ⟨(some 30), .mv (.t 1), (some (29, false))⟩,
    ⟨(some 31), .mv (.t 10), (some (29, false))⟩,
    ⟨(some 32), .slc 1 (.t 30) none (some (.t 31)) none, (some (29, false))⟩,
    ⟨(some 33), .mv (.t 1), (some (29, false))⟩,
    ⟨(some 34), .mv (.t 10), (some (29, false))⟩,
    ⟨(some 35), .idx 1 (.t 33) (.t 34), (some (29, false))⟩,
    ⟨(some 36), .load 1 false (.t 35), (some (29, false))⟩,
    ⟨(some 37), .call 60 [(.t 32), (.t 36)], (some (29, false))⟩,
    ⟨(some 38), .pick (.t 29) (.c (.b true)) (.t 37), none⟩,
    ⟨(some 39), .mv (.t 38), none⟩,
    ⟨(some 40), .mv (.t 8), (some (39, false))⟩,
    ⟨(some 41), .mv (.t 9), (some (39, false))⟩,
    ⟨(some 42), .call 60 [(.t 40), (.t 41)], (some (39, false))⟩,
    ⟨(some 43), .pick (.t 39) (.c (.b true)) (.t 42), none⟩] []) [1, 2, 3, 8, 9, 10, 43] [3, 8] A76R1) (.seq (.reg [⟨(some 45), .mv (.t 8), none⟩,
    ⟨(some 46), .mv (.t 9), none⟩,
    ⟨(some 47), .bsl 1 false [(.t 46)], none⟩,
    ⟨(some 48), .app 1 8 true (.t 45) (.t 47), none⟩,
    ⟨(some 8), .mv (.t 48), none⟩] [8]) (.seq (.drw [⟨(some 49), .load 2 true (.t 3), none⟩,
    ⟨(some 50), .mv (.t 1), none⟩,
    ⟨(some 51), .mv (.t 10), none⟩,
    ⟨(some 52), .idx 1 (.t 50) (.t 51), none⟩,
    ⟨(some 53), .load 1 false (.t 52), none⟩,
    ⟨(some 54), .mv (.t 9), none⟩,
    ⟨(some 55), .call 99 [(.t 49), (.t 53), (.t 54)], none⟩,
    ⟨(some 9), .mv (.t 55), none⟩] []) (.seq (.reg [⟨(some 56), .mv (.t 9), none⟩,
    ⟨(some 57), .bin .lss (.t 56) (.c (.i 0)), none⟩] []) (.cond (.t 57) (.seq (.reg [⟨(some 58), .mv (.t 8), none⟩,
    ⟨(some 6), .mv (.t 58), none⟩,
    ⟨(some 7), .mv (.c (.b false)), none⟩] [6]) .ret) .skip)))))) (.reg [⟨(some 17), .mv (.t 10), none⟩,
    ⟨(some 18), .bin .add (.t 17) (.c (.i 1)), none⟩,
    ⟨(some 10), .mv (.t 18), none⟩] [])))
def A76R3 : ACode := (.seq (.reg [⟨(some 59), .mv (.t 8), none⟩,
    ⟨(some 60), .mv (.t 9), none⟩,
    ⟨(some 61), .mv (.t 2), none⟩,
    ⟨(some 62), .bin .eql (.t 60) (.t 61), none⟩,
    ⟨(some 63), .mv (.t 62), none⟩,
    ⟨(some 64), .mv (.t 1), (some (63, true))⟩,
    ⟨(some 65), .len (.t 64), (some (63, true))⟩,
    ⟨(some 66), .bin .gtr (.t 65) (.c (.i 1)), (some (63, true))⟩,
    ⟨(some 67), .pick (.t 63) (.t 66) (.c (.b false)), none⟩,
    ⟨(some 6), .mv (.t 59), none⟩,
    ⟨(some 7), .mv (.t 67), none⟩] [6]) .ret)
def A76 : ACode := (.seq (.reg [⟨(some 3), .box 2 (.t 0), none⟩,
    ⟨(some 6), .mv (.c (.lst .u 1 [])), none⟩,
    ⟨(some 7), .mv (.c (.b false)), none⟩] [6]) (.seq (.reg [⟨(some 11), .bsl 1 false [], none⟩,
    ⟨(some 8), .mv (.t 11), none⟩] [8]) (.seq (.reg [⟨(some 12), .mv (.t 2), none⟩,
    ⟨(some 9), .mv (.t 12), none⟩] []) (.seqa (.reg [⟨(some 10), .mv (.c (.i 0)), none⟩] []) (.blk 0 (.loop A76L2)) [1, 2, 8, 9] [8] A76R3))))
def V76 : List RV := [.t 6, .t 7]
theorem m76 : mtcF Try.prog 76 3 A76 V76 = true := by kernel_rfl
def A78L1 : ACode := (.seq (.seq (.reg [⟨(some 9), .mv (.t 4), none⟩,
    ⟨(some 10), .bin .geq (.t 9) (.c (.i 0)), none⟩] []) (.cond (.t 10) .skip (.exit 0))) (.seq (.blk 1 (.reg [⟨(some 13), .mv (.t 3), none⟩,
    ⟨(some 14), .mv (.t 0), none⟩,
    ⟨(some 15), .mv (.t 4), none⟩,
    ⟨(some 16), .idx 1 (.t 14) (.t 15), none⟩,
    ⟨(some 17), .load 1 false (.t 16), none⟩,
    ⟨(some 18), .bsl 1 false [(.t 17)], none⟩,
    ⟨(some 19), .app 1 8 true (.t 13) (.t 18), none⟩,
    ⟨(some 3), .mv (.t 19), none⟩] [3])) (.reg [⟨(some 11), .mv (.t 4), none⟩,
    ⟨(some 12), .bin .sub (.t 11) (.c (.i 1)), none⟩,
    ⟨(some 4), .mv (.t 12), none⟩] [])))
def A78R2 : ACode := (.seq (.reg [⟨(some 20), .mv (.t 3), none⟩,
    ⟨(some 2), .mv (.t 20), none⟩] [2]) .ret)
def A78 : ACode := (.seq (.reg [⟨(some 2), .mv (.c (.lst .u 1 [])), none⟩] [2]) (.seq (.reg [⟨(some 5), .bsl 1 false [], none⟩,
    ⟨(some 3), .mv (.t 5), none⟩] [3]) (.seqa (.reg [⟨(some 6), .mv (.t 0), none⟩,
    ⟨(some 7), .len (.t 6), none⟩,
    ⟨(some 8), .bin .sub (.t 7) (.c (.i 1)), none⟩,
    ⟨(some 4), .mv (.t 8), none⟩] []) (.blk 0 (.loop A78L1)) [3] [3] A78R2)))
def V78 : List RV := [.t 2]
theorem m78 : mtcF Try.prog 78 1 A78 V78 = true := by kernel_rfl
def A77L1 : ACode := (.seq (.seq (.reg [⟨(some 16), .mv (.t 5), none⟩,
    ⟨(some 17), .mv (.t 0), none⟩,
    ⟨(some 18), .len (.t 17), none⟩,
    ⟨(some 19), .bin .lss (.t 16) (.t 18), none⟩] []) (.cond (.t 19) .skip (.exit 0))) (.seq (.blk 1 (.seq (.drw [⟨(some 22), .mv (.t 0), none⟩,
    ⟨(some 23), .mv (.t 5), none⟩,
    ⟨(some 24), .idx 1 (.t 22) (.t 23), none⟩,
    ⟨(some 25), .load 1 false (.t 24), none⟩,
    ⟨(some 26), .mv (.t 1), none⟩,
    ⟨(some 27), .mv (.t 5), none⟩,
    ⟨(some 28), .idx 1 (.t 26) (.t 27), none⟩,
    ⟨(some 29), .load 1 false (.t 28), none⟩,
    ⟨(some 30), .bin .neq (.t 25) (.t 29), none⟩] []) (.cond (.t 30) (.seq (.drw [⟨(some 31), .mv (.t 0), none⟩,
    ⟨(some 32), .mv (.t 5), none⟩,
    ⟨(some 33), .idx 1 (.t 31) (.t 32), none⟩,
    ⟨(some 34), .load 1 false (.t 33), none⟩,
    ⟨(some 35), .mv (.t 1), none⟩,
    ⟨(some 36), .mv (.t 5), none⟩,
    ⟨(some 37), .idx 1 (.t 35) (.t 36), none⟩,
    ⟨(some 38), .load 1 false (.t 37), none⟩,
    ⟨(some 39), .bin .lss (.t 34) (.t 38), none⟩,
    ⟨(some 4), .mv (.t 39), none⟩] []) .ret) .skip))) (.reg [⟨(some 20), .mv (.t 5), none⟩,
    ⟨(some 21), .bin .add (.t 20) (.c (.i 1)), none⟩,
    ⟨(some 5), .mv (.t 21), none⟩] [])))
def A77R2 : ACode := (.seq (.reg [⟨(some 4), .mv (.c (.b false)), none⟩] []) .ret)
def A77 : ACode := (.seq (.reg [⟨(some 4), .mv (.c (.b false)), none⟩] []) (.seq (.seq (.reg [⟨(some 6), .mv (.t 0), none⟩,
    ⟨(some 7), .len (.t 6), none⟩,
    ⟨(some 8), .mv (.t 1), none⟩,
    ⟨(some 9), .len (.t 8), none⟩,
    ⟨(some 10), .bin .neq (.t 7) (.t 9), none⟩] []) (.cond (.t 10) (.seq (.reg [⟨(some 11), .mv (.t 0), none⟩,
    ⟨(some 12), .len (.t 11), none⟩,
    ⟨(some 13), .mv (.t 1), none⟩,
    ⟨(some 14), .len (.t 13), none⟩,
    ⟨(some 15), .bin .lss (.t 12) (.t 14), none⟩,
    ⟨(some 4), .mv (.t 15), none⟩] []) .ret) .skip)) (.seqa (.reg [⟨(some 5), .mv (.c (.i 0)), none⟩] []) (.blk 0 (.loop A77L1)) [] [] A77R2)))
def V77 : List RV := [.t 4]
theorem m77 : mtcF Try.prog 77 2 A77 V77 = true := by kernel_rfl
def A41L1 : ACode := (.seq (.seq (.reg [⟨(some 26), .mv (.t 9), none⟩,
    ⟨(some 27), .mv (.t 6), none⟩,
    ⟨(some 28), .len (.t 27), none⟩,
    ⟨(some 29), .bin .lss (.t 26) (.t 28), none⟩] []) (.cond (.t 29) .skip (.exit 2))) (.seq (.blk 3 (.reg [⟨(some 32), .mv (.t 8), none⟩,
    ⟨(some 33), .mv (.t 32), none⟩,
    ⟨(some 34), .mv (.t 6), (some (33, true))⟩,
    ⟨(some 35), .mv (.t 9), (some (33, true))⟩,
    ⟨(some 36), .idx 1 (.t 34) (.t 35), (some (33, true))⟩,
    ⟨(some 37), .load 1 false (.t 36), (some (33, true))⟩,
    ⟨(some 38), .mv (.t 5), (some (33, true))⟩,
    ⟨(some 39), .bin .geq (.t 37) (.t 38), (some (33, true))⟩,
    ⟨(some 40), .pick (.t 33) (.t 39) (.c (.b false)), none⟩,
    ⟨(some 8), .mv (.t 40), none⟩] [])) (.reg [⟨(some 30), .mv (.t 9), none⟩,
    ⟨(some 31), .bin .add (.t 30) (.c (.i 1)), none⟩,
    ⟨(some 9), .mv (.t 31), none⟩] [])))
def A41R2 : ACode := (.seq (.reg [⟨(some 41), .mv (.t 8), none⟩,
    ⟨(some 42), .mv (.t 41), none⟩,
    ⟨(some 43), .mv (.t 1), (some (42, true))⟩,
    ⟨(some 44), .call 78 [(.t 43)], (some (42, true))⟩,
    ⟨(some 45), .mv (.t 1), (some (42, true))⟩,
    ⟨(some 46), .call 77 [(.t 44), (.t 45)], (some (42, true))⟩,
    ⟨(some 47), .un .not (.t 46), (some (42, true))⟩,
    ⟨(some 48), .pick (.t 42) (.t 47) (.c (.b false)), none⟩,
    ⟨(some 4), .mv (.t 48), none⟩] []) .ret)
def A41L3 : ACode := (.seq (.seq (.reg [⟨(some 10), .mv (.t 5), none⟩,
    ⟨(some 11), .fad 0 (.t 2), none⟩,
    ⟨(some 12), .load 1 false (.t 11), none⟩,
    ⟨(some 13), .len (.t 12), none⟩,
    ⟨(some 14), .bin .lss (.t 10) (.t 13), none⟩] []) (.cond (.t 14) .skip (.exit 0))) (.seq (.blk 1 (.seq (.reg [⟨(some 18), .load 2 true (.t 2), none⟩,
    ⟨(some 19), .mv (.t 1), none⟩,
    ⟨(some 20), .mv (.t 5), none⟩,
    ⟨(some 21), .call 76 [(.t 18), (.t 19), (.t 20)], none⟩,
    ⟨(some 17), .mv (.t 21), none⟩,
    ⟨(some 22), .ext (.t 17) 0, none⟩,
    ⟨(some 23), .ext (.t 17) 1, none⟩,
    ⟨(some 6), .mv (.t 22), none⟩,
    ⟨(some 7), .mv (.t 23), none⟩] [6]) (.seq (.seq (.reg [⟨(some 24), .mv (.t 7), none⟩,
    ⟨(some 25), .un .not (.t 24), none⟩] []) (.cond (.t 25) (.exit 1) .skip)) (.seq (.reg [⟨(some 8), .mv (.c (.b true)), none⟩] []) (.seqa (.reg [⟨(some 9), .mv (.c (.i 0)), none⟩] []) (.blk 2 (.loop A41L1)) [1, 8] [] A41R2))))) (.reg [⟨(some 15), .mv (.t 5), none⟩,
    ⟨(some 16), .bin .add (.t 15) (.c (.i 1)), none⟩,
    ⟨(some 5), .mv (.t 16), none⟩] [])))
def A41R4 : ACode := (.seq (.reg [⟨(some 4), .mv (.c (.b false)), none⟩] []) .ret)
def A41 : ACode := (.seq (.reg [⟨(some 2), .box 2 (.t 0), none⟩,
    ⟨(some 4), .mv (.c (.b false)), none⟩] []) (.seqa (.reg [⟨(some 5), .mv (.c (.i 0)), none⟩] []) (.blk 0 (.loop A41L3)) [] [] A41R4))
def V41 : List RV := [.t 4]
theorem m41 : mtcF Try.prog 41 2 A41 V41 = true := by kernel_rfl
def A11 : ACode := (.seq (.reg [⟨(some 2), .box 2 (.t 0), none⟩,
    ⟨(some 4), .mv (.c (.b false)), none⟩] []) (.seq (.reg [⟨(some 5), .load 2 true (.t 2), none⟩,
    ⟨(some 6), .call 40 [(.t 5)], none⟩,
    ⟨(some 7), .mv (.t 6), none⟩,
    ⟨(some 8), .load 2 true (.t 2), (some (7, true))⟩,
    ⟨(some 9), .mv (.t 1), (some (7, true))⟩,
    ⟨(some 10), .call 41 [(.t 8), (.t 9)], (some (7, true))⟩,
    ⟨(some 11), .pick (.t 7) (.t 10) (.c (.b false)), none⟩,
    ⟨(some 4), .mv (.t 11), none⟩] []) .ret))
def V11 : List RV := [.t 4]
theorem m11 : mtcF Try.prog 11 2 A11 V11 = true := by kernel_rfl
def A57 : ACode := (.seq (.reg [⟨(some 6), .mv (.c (.b false)), none⟩] []) (.seq (.reg [⟨(some 7), .mv (.t 1), none⟩,
    ⟨(some 8), .mv (.t 0), none⟩,
    ⟨(some 9), .bin .leq (.t 7) (.t 8), none⟩,
    ⟨(some 10), .mv (.t 9), none⟩,
    ⟨(some 11), .mv (.t 0), (some (10, true))⟩,
    ⟨(some 12), .mv (.t 2), (some (10, true))⟩,
    ⟨(some 13), .bin .leq (.t 11) (.t 12), (some (10, true))⟩,
    ⟨(some 14), .pick (.t 10) (.t 13) (.c (.b false)), none⟩,
    ⟨(some 6), .mv (.t 14), none⟩] []) .ret))
def V57 : List RV := [.t 6]
theorem m57 : mtcF Try.prog 57 3 A57 V57 = true := by kernel_rfl
def A81R1 : ACode := (.seq (.reg [⟨(some 31), .mv (.t 4), none⟩,
    ⟨(some 32), .un .not (.t 31), none⟩,
    ⟨(some 33), .mv (.t 32), none⟩,
    ⟨(some 34), .mv (.t 5), (some (33, true))⟩,
    ⟨(some 35), .un .not (.t 34), (some (33, true))⟩,
    ⟨(some 36), .mv (.t 35), (some (33, true))⟩,
    ⟨(some 37), .mv (.t 3), (some (36, false))⟩,
    ⟨(some 38), .bin .eql (.t 37) (.c (.i 0)), (some (36, false))⟩,
    ⟨(some 39), .pick (.t 36) (.c (.b true)) (.t 38), (some (33, true))⟩,
    ⟨(some 40), .pick (.t 33) (.t 39) (.c (.b false)), none⟩] []) (.cond (.t 40) (.seq (.reg [⟨(some 2), .mv (.c (.b false)), none⟩] []) .ret) .skip))
def A81L2 : ACode := (.seq (.reg [⟨(some 9), .bin .lss (.t 8) (.t 7), none⟩] []) (.seq (.cond (.t 9) .skip (.exit 0)) (.seq (.blk 1 (.seq (.reg [⟨(some 10), .mv (.t 8), none⟩,
    ⟨(some 3), .mv (.t 10), none⟩] []) (.seqr (.drw [⟨(some 11), .mv (.t 0), none⟩,
    ⟨(some 12), .mv (.t 3), none⟩,
    ⟨(some 13), .stri (.t 11) (.t 12), none⟩,
    ⟨(some 14), .bin .geq (.t 13) (.c (.sc (.int .u8 97))), none⟩,
    ⟨(some 15), .mv (.t 14), none⟩,
    ⟨(some 16), .mv (.t 0), (some (15, true))⟩,
    ⟨(some 17), .mv (.t 3), (some (15, true))⟩,
    ⟨(some 18), .stri (.t 16) (.t 17), (some (15, true))⟩,
    ⟨(some 19), .bin .leq (.t 18) (.c (.sc (.int .u8 122))), (some (15, true))⟩,
    ⟨(some 20), .pick (.t 15) (.t 19) (.c (.b false)), none⟩,
    ⟨(some 21), .mv (.t 0), none⟩,
    ⟨(some 22), .mv (.t 3), none⟩,
    ⟨(some 23), .stri (.t 21) (.t 22), none⟩,
    ⟨(some 24), .bin .geq (.t 23) (.c (.sc (.int .u8 48))), none⟩,
    ⟨(some 25), .mv (.t 24), none⟩,
    ⟨(some 26), .mv (.t 0), (some (25, true))⟩,
    ⟨(some 27), .mv (.t 3), (some (25, true))⟩,
    ⟨(some 28), .stri (.t 26) (.t 27), (some (25, true))⟩,
    ⟨(some 29), .bin .leq (.t 28) (.c (.sc (.int .u8 57))), (some (25, true))⟩,
    ⟨(some 30), .pick (.t 25) (.t 29) (.c (.b false)), none⟩,
    ⟨(some 4), .mv (.t 20), none⟩,
    ⟨(some 5), .mv (.t 30), none⟩] []) [0, 3, 4, 5, 7, 8] [] A81R1))) (.reg [⟨(some 41), .bin .add (.t 8) (.c (.i 1)), none⟩,
    ⟨(some 8), .mv (.t 41), none⟩] []))))
def A81R3 : ACode := (.seq (.reg [⟨(some 42), .mv (.t 0), none⟩,
    ⟨(some 43), .lenz (.t 42), none⟩,
    ⟨(some 44), .call 57 [(.t 43), (.c (.i 1)), (.c (.i 8))], none⟩,
    ⟨(some 2), .mv (.t 44), none⟩] []) .ret)
def A81 : ACode := (.seq (.reg [⟨(some 2), .mv (.c (.b false)), none⟩] []) (.seqa (.reg [⟨(some 6), .mv (.t 0), none⟩,
    ⟨(some 7), .lenz (.t 6), none⟩,
    ⟨(some 8), .mv (.c (.i 0)), none⟩] []) (.blk 0 (.loop A81L2)) [0] [] A81R3))
def V81 : List RV := [.t 2]
theorem m81 : mtcF Try.prog 81 1 A81 V81 = true := by kernel_rfl
def A109L1 : ACode := (.seq (.reg [⟨(some 9), .bin .lss (.t 8) (.t 7), none⟩] []) (.seq (.cond (.t 9) .skip (.exit 0)) (.seq (.blk 1 (.seq (.reg [⟨(some 10), .mv (.t 8), none⟩,
    ⟨(some 5), .mv (.t 10), none⟩] []) (.seq (.reg [⟨(some 11), .mv (.t 1), none⟩,
    ⟨(some 12), .mv (.t 0), none⟩,
    ⟨(some 13), .mv (.t 5), none⟩,
    ⟨(some 14), .idx 1 (.t 12) (.t 13), none⟩,
    ⟨(some 15), .load 1 false (.t 14), none⟩,
    ⟨(some 16), .bin .eql (.t 11) (.t 15), none⟩] []) (.cond (.t 16) (.seq (.reg [⟨(some 17), .mv (.t 5), none⟩,
    ⟨(some 4), .mv (.t 17), none⟩] []) .ret) .skip)))) (.reg [⟨(some 18), .bin .add (.t 8) (.c (.i 1)), none⟩,
    ⟨(some 8), .mv (.t 18), none⟩] []))))
def A109R2 : ACode := (.seq (.reg [⟨(some 4), .mv (.c (.i (-1))), none⟩] []) .ret)
def A109 : ACode := (.seq (.reg [⟨(some 4), .mv (.c (.i 0)), none⟩] []) (.seqa (.reg [⟨(some 6), .mv (.t 0), none⟩,
    ⟨(some 7), .len (.t 6), none⟩,
    ⟨(some 8), .mv (.c (.i 0)), none⟩] []) (.blk 0 (.loop A109L1)) [] [] A109R2))
def V109 : List RV := [.t 4]
theorem m109 : mtcF Try.prog 109 2 A109 V109 = true := by kernel_rfl
def A82 : ACode := (.seq (.reg [⟨(some 4), .mv (.c (.b false)), none⟩] []) (.seq (.reg [⟨(some 5), .mv (.t 0), none⟩,
    ⟨(some 6), .mv (.t 1), none⟩,
    ⟨(some 7), .call 109 [(.t 5), (.t 6)], none⟩,
    ⟨(some 8), .bin .geq (.t 7) (.c (.i 0)), none⟩,
    ⟨(some 4), .mv (.t 8), none⟩] []) .ret))
def V82 : List RV := [.t 4]
theorem m82 : mtcF Try.prog 82 2 A82 V82 = true := by kernel_rfl
def A114 : ACode := (.seq (.reg [⟨(some 2), .mv (.c (.b false)), none⟩] []) (.seq (.reg [⟨(some 3), .mv (.t 0), none⟩,
    ⟨(some 4), .mv (.t 0), none⟩,
    ⟨(some 5), .bin .neq (.t 3) (.t 4), none⟩,
    ⟨(some 2), .mv (.t 5), none⟩] []) .ret))
def V114 : List RV := [.t 2]
theorem m114 : mtcF Try.prog 114 1 A114 V114 = true := by kernel_rfl
def A98 : ACode := (.seq (.reg [⟨(some 4), .mv (.c (.i 0)), none⟩] []) (.seq (.reg [⟨(some 7), .mv (.t 0), none⟩,
    ⟨(some 8), .call 114 [(.t 7)], none⟩,
    ⟨(some 5), .mv (.t 8), none⟩] []) (.seq (.reg [⟨(some 9), .mv (.t 1), none⟩,
    ⟨(some 10), .call 114 [(.t 9)], none⟩,
    ⟨(some 6), .mv (.t 10), none⟩] []) (.seq (.seq (.reg [⟨(some 11), .mv (.t 5), none⟩] []) (.cond (.t 11) (.seq (.seq (.reg [⟨(some 12), .mv (.t 6), none⟩] []) (.cond (.t 12) (.seq (.reg [⟨(some 4), .mv (.c (.i 0)), none⟩] []) .ret) .skip)) (.seq (.reg [⟨(some 4), .mv (.c (.i (-1))), none⟩] []) .ret)) .skip)) (.seq (.seq (.reg [⟨(some 13), .mv (.t 6), none⟩] []) (.cond (.t 13) (.seq (.reg [⟨(some 4), .mv (.c (.i 1)), none⟩] []) .ret) .skip)) (.seq (.seq (.reg [⟨(some 14), .mv (.t 0), none⟩,
    ⟨(some 15), .mv (.t 1), none⟩,
    ⟨(some 16), .bin .lss (.t 14) (.t 15), none⟩] []) (.cond (.t 16) (.seq (.reg [⟨(some 4), .mv (.c (.i (-1))), none⟩] []) .ret) .skip)) (.seq (.seq (.reg [⟨(some 17), .mv (.t 0), none⟩,
    ⟨(some 18), .mv (.t 1), none⟩,
    ⟨(some 19), .bin .gtr (.t 17) (.t 18), none⟩] []) (.cond (.t 19) (.seq (.reg [⟨(some 4), .mv (.c (.i 1)), none⟩] []) .ret) .skip)) (.seq (.reg [⟨(some 4), .mv (.c (.i 0)), none⟩] []) .ret))))))))
def V98 : List RV := [.t 4]
theorem m98 : mtcF Try.prog 98 2 A98 V98 = true := by kernel_rfl
def A97L1 : ACode := (.seq (.reg [⟨(some 9), .bin .lss (.t 8) (.t 7), none⟩] []) (.seq (.cond (.t 9) .skip (.exit 0)) (.seq (.blk 1 (.seq (.reg [⟨(some 10), .idx 1 (.t 6) (.t 8), none⟩,
    ⟨(some 11), .load 1 false (.t 10), none⟩,
    ⟨(some 5), .mv (.t 11), none⟩] []) (.seq (.reg [⟨(some 12), .mv (.t 5), none⟩,
    ⟨(some 13), .mv (.t 3), none⟩,
    ⟨(some 14), .bin .neq (.t 12) (.t 13), none⟩] []) (.cond (.t 14) (.seq (.reg [⟨(some 15), .mv (.t 5), none⟩,
    ⟨(some 2), .mv (.t 15), none⟩] []) .ret) .skip)))) (.reg [⟨(some 16), .bin .add (.t 8) (.c (.i 1)), none⟩,
    ⟨(some 8), .mv (.t 16), none⟩] []))))
def A97R2 : ACode := (.seq (.reg [⟨(some 17), .mv (.t 3), none⟩,
    ⟨(some 2), .mv (.t 17), none⟩] []) .ret)
def A97 : ACode := (.seq (.reg [⟨(some 2), .mv (.c (.i 0)), none⟩] []) (.seq (.reg [⟨(some 3), .mv (.c (.i 0)), none⟩] []) (.seqa (.reg [⟨(some 6), .mv (.t 0), none⟩,
    ⟨(some 7), .len (.t 6), none⟩,
    ⟨(some 8), .mv (.c (.i 0)), none⟩] []) (.blk 0 (.loop A97L1)) [3] [] A97R2)))
def V97 : List RV := [.t 2]
theorem m97 : mtcF Try.prog 97 1 A97 V97 = true := by kernel_rfl
def A83 : ACode := (.seq (.reg [⟨(some 2), .box 4 (.t 0), none⟩,
    ⟨(some 3), .box 4 (.t 1), none⟩,
    ⟨(some 4), .mv (.c (.i 0)), none⟩] []) (.seq (.drw [⟨(some 5), .fad 0 (.t 2), none⟩,
    ⟨(some 6), .load 1 false (.t 5), none⟩,
    ⟨(some 7), .fad 0 (.t 3), none⟩,
    ⟨(some 8), .load 1 false (.t 7), none⟩,
    ⟨(some 9), .call 98 [(.t 6), (.t 8)], none⟩,
    ⟨(some 10), .fad 1 (.t 2), none⟩,
    ⟨(some 11), .load 1 false (.t 10), none⟩,
    ⟨(some 12), .fad 1 (.t 3), none⟩,
    ⟨(some 13), .load 1 false (.t 12), none⟩,
    ⟨(some 14), .call 98 [(.t 11), (.t 13)], none⟩,
    ⟨(some 15), .fad 2 (.t 2), none⟩,
    ⟨(some 16), .load 1 false (.t 15), none⟩,
    ⟨(some 17), .fad 2 (.t 3), none⟩,
    ⟨(some 18), .load 1 false (.t 17), none⟩,
    ⟨(some 19), .call 98 [(.t 16), (.t 18)], none⟩,
    ⟨(some 20), .fad 3 (.t 2), none⟩,
    ⟨(some 21), .load 1 false (.t 20), none⟩,
    ⟨(some 22), .fad 3 (.t 3), none⟩,
    ⟨(some 23), .load 1 false (.t 22), none⟩,
    ⟨(some 24), .call 98 [(.t 21), (.t 23)], none⟩,
    ⟨(some 25), .bsl 1 true [(.t 9), (.t 14), (.t 19), (.t 24)], none⟩,
    ⟨(some 26), .call 97 [(.t 25)], none⟩,
    ⟨(some 4), .mv (.t 26), none⟩] []) .ret))
def V83 : List RV := [.t 4]
theorem m83 : mtcF Try.prog 83 2 A83 V83 = true := by kernel_rfl
def A47L1 : ACode := (.seq (.reg [⟨(some 11), .bin .lss (.t 10) (.t 9), none⟩] []) (.seq (.cond (.t 11) .skip (.exit 0)) (.seq (.blk 1 (.seq (.reg [⟨(some 12), .mv (.t 10), none⟩,
    ⟨(some 13), .idx 1 (.t 8) (.t 10), none⟩,
    ⟨(some 14), .load 1 false (.t 13), none⟩,
    ⟨(some 3), .mv (.t 12), none⟩,
    ⟨(some 4), .mv (.t 14), none⟩] []) (.seq (.reg [⟨(some 15), .mv (.t 4), none⟩,
    ⟨(some 16), .call 81 [(.t 15)], none⟩,
    ⟨(some 17), .un .not (.t 16), none⟩,
    ⟨(some 18), .mv (.t 17), none⟩,
    ⟨(some 19), .fad 0 (.t 1), (some (18, false))⟩,
    ⟨(some 20), .load 1 false (.t 19), (some (18, false))⟩,
    ⟨(some 21), .mv (.t 3), (some (18, false))⟩,
    ⟨(some 22), .slc 1 (.t 20) none (some (.t 21)) none, (some (18, false))⟩,
    ⟨(some 23), .mv (.t 4), (some (18, false))⟩,
    ⟨(some 24), .call 82 [(.t 22), (.t 23)], (some (18, false))⟩,
    ⟨(some 25), .pick (.t 18) (.c (.b true)) (.t 24), none⟩] []) (.cond (.t 25) (.seq (.reg [⟨(some 2), .mv (.c (.b false)), none⟩] []) .ret) .skip)))) (.reg [⟨(some 26), .bin .add (.t 10) (.c (.i 1)), none⟩,
    ⟨(some 10), .mv (.t 26), none⟩] []))))
def A47L3 : ACode := (.seq (.reg [⟨(some 31), .bin .lss (.t 30) (.t 29), none⟩] []) (.seq (.cond (.t 31) .skip (.exit 2)) (.seq (.blk 3 (.seq (.reg [⟨(some 32), .mv (.t 30), none⟩,
    ⟨(some 33), .idx 4 (.t 28) (.t 30), none⟩,
    ⟨(some 34), .load 4 true (.t 33), none⟩,
    ⟨(some 6), .alloc (.agg [.i 0, .i 0, .i 0, .i 0]), none⟩,
    ⟨(some 5), .mv (.t 32), none⟩,
    ⟨none, .store 4 (.t 6) (.t 34), none⟩] []) (.seq (.drw [⟨(some 35), .fad 0 (.t 6), none⟩,
    ⟨(some 36), .load 1 false (.t 35), none⟩,
    ⟨(some 37), .bin .lss (.t 36) (.c (.i 0)), none⟩,
    ⟨(some 38), .mv (.t 37), none⟩,
    ⟨(some 39), .fad 0 (.t 6), (some (38, false))⟩,
    ⟨(some 40), .load 1 false (.t 39), (some (38, false))⟩,
    ⟨(some 41), .fad 1 (.t 6), (some (38, false))⟩,
    ⟨(some 42), .load 1 false (.t 41), (some (38, false))⟩,
    ⟨(some 43), .bin .geq (.t 40) (.t 42), (some (38, false))⟩,
    ⟨(some 44), .pick (.t 38) (.c (.b true)) (.t 43), none⟩,
    ⟨(some 45), .mv (.t 44), none⟩,
    ⟨(some 46), .fad 1 (.t 6), (some (45, false))⟩,
    ⟨(some 47), .load 1 false (.t 46), (some (45, false))⟩,
    ⟨(some 48), .fad 0 (.t 1), (some (45, false))⟩,
    ⟨(some 49), .load 1 false (.t 48), (some (45, false))⟩,
    ⟨(some 50), .len (.t 49), (some (45, false))⟩,
    ⟨(some 51), .bin .geq (.t 47) (.t 50), (some (45, false))⟩,
    ⟨(some 52), .pick (.t 45) (.c (.b true)) (.t 51), none⟩,
    ⟨(some 53), .mv (.t 52), none⟩,
    ⟨(some 54), .fad 2 (.t 6), (some (53, false))⟩,
    ⟨(some 55), .load 1 false (.t 54), (some (53, false))⟩,
    ⟨(some 56), .call 57 [(.t 55), (.c (.i 1)), (.c (.i 5000))], (some (53, false))⟩,
    ⟨(some 57), .un .not (.t 56), (some (53, false))⟩,
    ⟨(some 58), .pick (.t 53) (.c (.b true)) (.t 57), none⟩,
    ⟨(some 59), .mv (.t 58), none⟩,
    ⟨(some 60), .fad 3 (.t 6), (some (59, false))⟩,
    ⟨(some 61), .load 1 false (.t 60), (some (59, false))⟩,
    ⟨(some 62), .call 57 [(.t 61), (.c (.i 0)), (.c (.i 9))], (some (59, false))⟩,
    ⟨(some 63), .un .not (.t 62), (some (59, false))⟩,
    ⟨(some 64), .pick (.t 59) (.c (.b true)) (.t 63), none⟩,
    ⟨(some 65), .mv (.t 64), none⟩,
    ⟨(some 66), .mv (.t 5), (some (65, false))⟩,
    ⟨(some 67), .bin .gtr (.t 66) (.c (.i 0)), (some (65, false))⟩,
    ⟨(some 68), .mv (.t 67), (some (65, false))⟩,
    ⟨(some 69), .fad 1 (.t 1), (some (68, true))⟩,
    ⟨(some 70), .load 1 false (.t 69), (some (68, true))⟩,
    ⟨(some 71), .mv (.t 5), (some (68, true))⟩,
    ⟨(some 72), .bin .sub (.t 71) (.c (.i 1)), (some (68, true))⟩,
    ⟨(some 73), .idx 4 (.t 70) (.t 72), (some (68, true))⟩,
    ⟨(some 74), .load 4 true (.t 73), (some (68, true))⟩,
    ⟨(some 75), .load 4 true (.t 6), (some (68, true))⟩,
    ⟨(some 76), .call 83 [(.t 74), (.t 75)], (some (68, true))⟩,
    ⟨(some 77), .bin .gtr (.t 76) (.c (.i 0)), (some (68, true))⟩,
    ⟨(some 78), .pick (.t 68) (.t 77) (.c (.b false)), (some (65, false))⟩,
    ⟨(some 79), .pick (.t 65) (.c (.b true)) (.t 78), none⟩] []) (.cond (.t 79) (.seq (.reg [⟨(some 2), .mv (.c (.b false)), none⟩] []) .ret) .skip)))) (.reg [⟨(some 80), .bin .add (.t 30) (.c (.i 1)), none⟩,
    ⟨(some 30), .mv (.t 80), none⟩] []))))
def A47R4 : ACode := (.seq (.reg [⟨(some 81), .fad 0 (.t 1), none⟩,
    ⟨(some 82), .load 1 false (.t 81), none⟩,
    ⟨(some 83), .len (.t 82), none⟩,
    ⟨(some 84), .call 57 [(.t 83), (.c (.i 2)), (.c (.i 8))], none⟩,
    ⟨(some 85), .mv (.t 84), none⟩,
    ⟨(some 86), .fad 1 (.t 1), (some (85, true))⟩,
    ⟨(some 87), .load 1 false (.t 86), (some (85, true))⟩,
    ⟨(some 88), .len (.t 87), (some (85, true))⟩,
    ⟨(some 89), .bin .leq (.t 88) (.c (.i 14)), (some (85, true))⟩,
    ⟨(some 90), .pick (.t 85) (.t 89) (.c (.b false)), none⟩,
    ⟨(some 2), .mv (.t 90), none⟩] []) .ret)
def A47R2 : ACode := (.seqa (.reg [⟨(some 27), .fad 1 (.t 1), none⟩,
    ⟨(some 28), .load 1 false (.t 27), none⟩,
    ⟨(some 29), .len (.t 28), none⟩,
    ⟨(some 30), .mv (.c (.i 0)), none⟩] []) (.blk 2 (.loop A47L3)) [1] [1] A47R4)
def A47 : ACode := (.seq (.reg [⟨(some 1), .box 2 (.t 0), none⟩,
    ⟨(some 2), .mv (.c (.b false)), none⟩] []) (.seqa (.reg [⟨(some 7), .fad 0 (.t 1), none⟩,
    ⟨(some 8), .load 1 false (.t 7), none⟩,
    ⟨(some 9), .len (.t 8), none⟩,
    ⟨(some 10), .mv (.c (.i 0)), none⟩] []) (.blk 0 (.loop A47L1)) [1] [1] A47R2))
def V47 : List RV := [.t 2]
theorem m47 : mtcF Try.prog 47 1 A47 V47 = true := by kernel_rfl
def A64L1 : ACode := (.seq (.reg [⟨(some 9), .bin .lss (.t 8) (.t 7), none⟩] []) (.seq (.cond (.t 9) .skip (.exit 0)) (.seq (.blk 1 (.seq (.reg [⟨(some 10), .mv (.t 8), none⟩,
    ⟨(some 5), .mv (.t 10), none⟩] []) (.seq (.reg [⟨(some 11), .mv (.t 1), none⟩,
    ⟨(some 12), .mv (.t 0), none⟩,
    ⟨(some 13), .mv (.t 5), none⟩,
    ⟨(some 14), .idx 1 (.t 12) (.t 13), none⟩,
    ⟨(some 15), .load 1 false (.t 14), none⟩,
    ⟨(some 16), .bin .eql (.t 11) (.t 15), none⟩] []) (.cond (.t 16) (.seq (.reg [⟨(some 17), .mv (.t 5), none⟩,
    ⟨(some 4), .mv (.t 17), none⟩] []) .ret) .skip)))) (.reg [⟨(some 18), .bin .add (.t 8) (.c (.i 1)), none⟩,
    ⟨(some 8), .mv (.t 18), none⟩] []))))
def A64R2 : ACode := (.seq (.reg [⟨(some 4), .mv (.c (.i (-1))), none⟩] []) .ret)
def A64 : ACode := (.seq (.reg [⟨(some 4), .mv (.c (.i 0)), none⟩] []) (.seqa (.reg [⟨(some 6), .mv (.t 0), none⟩,
    ⟨(some 7), .len (.t 6), none⟩,
    ⟨(some 8), .mv (.c (.i 0)), none⟩] []) (.blk 0 (.loop A64L1)) [] [] A64R2))
def V64 : List RV := [.t 4]
theorem m64 : mtcF Try.prog 64 2 A64 V64 = true := by kernel_rfl
def A67 : ACode := (.seq (.reg [⟨(some 4), .mv (.c (.b false)), none⟩] []) (.seq (.reg [⟨(some 5), .mv (.t 0), none⟩,
    ⟨(some 6), .mv (.t 1), none⟩,
    ⟨(some 7), .call 64 [(.t 5), (.t 6)], none⟩,
    ⟨(some 8), .bin .geq (.t 7) (.c (.i 0)), none⟩,
    ⟨(some 4), .mv (.t 8), none⟩] []) .ret))
def V67 : List RV := [.t 4]
theorem m67 : mtcF Try.prog 67 2 A67 V67 = true := by kernel_rfl
def A94 : ACode := (.seq (.reg [⟨(some 2), .box 4 (.t 0), none⟩,
    ⟨(some 4), .mv (.c (.i 0)), none⟩] []) (.seq (.seq (.reg [⟨(some 5), .mv (.t 1), none⟩] []) (.blk 0 (.seq (.reg [⟨(some 7), .fad 0 (.t 2), none⟩,
    ⟨(some 8), .load 1 false (.t 7), none⟩,
    ⟨(some 9), .bin .eql (.t 5) (.t 8), none⟩,
    ⟨(some 6), .mv (.t 9), none⟩] []) (.cond (.t 6) (.seq (.reg [⟨(some 10), .fad 1 (.t 2), none⟩,
    ⟨(some 11), .load 1 false (.t 10), none⟩,
    ⟨(some 4), .mv (.t 11), none⟩] []) .ret) (.seq (.reg [⟨(some 13), .fad 1 (.t 2), none⟩,
    ⟨(some 14), .load 1 false (.t 13), none⟩,
    ⟨(some 15), .bin .eql (.t 5) (.t 14), none⟩,
    ⟨(some 12), .mv (.t 15), none⟩] []) (.cond (.t 12) (.seq (.reg [⟨(some 16), .fad 0 (.t 2), none⟩,
    ⟨(some 17), .load 1 false (.t 16), none⟩,
    ⟨(some 4), .mv (.t 17), none⟩] []) .ret) .skip)))))) (.seq (.reg [⟨(some 4), .mv (.c (.i (-1))), none⟩] []) .ret)))
def V94 : List RV := [.t 4]
theorem m94 : mtcF Try.prog 94 2 A94 V94 = true := by kernel_rfl
def A84R1 : ACode := (.cond (.t 35) (.seq (.reg [⟨(some 6), .mv (.c (.lst .u 1 [])), none⟩,
    ⟨(some 7), .mv (.c (.i 0)), none⟩,
    ⟨(some 8), .mv (.c (.b false)), none⟩] [6]) .ret) .skip)
def A84L2 : ACode := (.seq (.reg [⟨(some 18), .bin .lss (.t 17) (.t 16), none⟩] []) (.seq (.cond (.t 18) .skip (.exit 0)) (.seq (.blk 1 (.seq (.reg [⟨(some 19), .mv (.t 17), none⟩,
    ⟨(some 20), .idx 1 (.t 15) (.t 17), none⟩,
    ⟨(some 21), .load 1 false (.t 20), none⟩,
    ⟨(some 11), .mv (.t 19), none⟩,
    ⟨(some 12), .mv (.t 21), none⟩] []) (.seq (.seqr (.reg [⟨(some 22), .mv (.t 12), none⟩,
    ⟨(some 23), .fad 1 (.t 3), none⟩,
    ⟨(some 24), .load 1 false (.t 23), none⟩,
    ⟨(some 25), .len (.t 24), none⟩,
    ⟨(some 26), .bin .sub (.t 25) (.c (.i 1)), none⟩,
    ⟨(some 27), .call 57 [(.t 22), (.c (.i 0)), (.t 26)], none⟩,
    ⟨(some 28), .un .not (.t 27), none⟩,
    ⟨(some 29), .mv (.t 28), none⟩,
    ⟨(some 30), .mv (.t 2), (some (29, false))⟩,
    ⟨(some 31), .mv (.t 11), (some (29, false))⟩,
    ⟨(some 32), .slc 1 (.t 30) none (some (.t 31)) none, (some (29, false))⟩,
    ⟨(some 33), .mv (.t 12), (some (29, false))⟩,
    ⟨(some 34), .call 67 [(.t 32), (.t 33)], (some (29, false))⟩,
    ⟨(some 35), .pick (.t 29) (.c (.b true)) (.t 34), none⟩] []) [2, 3, 9, 10, 12, 15, 16, 17, 35] [3, 9] A84R1) (.seq (.reg [⟨(some 36), .mv (.t 9), none⟩,
    ⟨(some 37), .mv (.t 10), none⟩,
    ⟨(some 38), .bsl 1 false [(.t 37)], none⟩,
    ⟨(some 39), .app 1 8 true (.t 36) (.t 38), none⟩,
    ⟨(some 9), .mv (.t 39), none⟩] [9]) (.seq (.reg [⟨(some 40), .fad 1 (.t 3), none⟩,
    ⟨(some 41), .load 1 false (.t 40), none⟩,
    ⟨(some 42), .mv (.t 12), none⟩,
    ⟨(some 43), .idx 4 (.t 41) (.t 42), none⟩,
    ⟨(some 44), .load 4 true (.t 43), none⟩,
    ⟨(some 45), .mv (.t 10), none⟩,
    ⟨(some 46), .call 94 [(.t 44), (.t 45)], none⟩,
    ⟨(some 10), .mv (.t 46), none⟩] []) (.seq (.reg [⟨(some 47), .mv (.t 10), none⟩,
    ⟨(some 48), .bin .lss (.t 47) (.c (.i 0)), none⟩] []) (.cond (.t 48) (.seq (.reg [⟨(some 6), .mv (.c (.lst .u 1 [])), none⟩,
    ⟨(some 7), .mv (.c (.i 0)), none⟩,
    ⟨(some 8), .mv (.c (.b false)), none⟩] [6]) .ret) .skip))))))) (.reg [⟨(some 49), .bin .add (.t 17) (.c (.i 1)), none⟩,
    ⟨(some 17), .mv (.t 49), none⟩] []))))
def A84R3 : ACode := (.seq (.reg [⟨(some 50), .mv (.t 9), none⟩,
    ⟨(some 51), .mv (.t 10), none⟩,
    ⟨(some 6), .mv (.t 50), none⟩,
    ⟨(some 7), .mv (.t 51), none⟩,
    ⟨(some 8), .mv (.c (.b true)), none⟩] [6]) .ret)
def A84 : ACode := (.seq (.reg [⟨(some 3), .box 2 (.t 0), none⟩,
    ⟨(some 6), .mv (.c (.lst .u 1 [])), none⟩,
    ⟨(some 7), .mv (.c (.i 0)), none⟩,
    ⟨(some 8), .mv (.c (.b false)), none⟩] [6]) (.seq (.reg [⟨(some 13), .bsl 1 false [], none⟩,
    ⟨(some 14), .mv (.t 1), none⟩,
    ⟨(some 9), .mv (.t 13), none⟩,
    ⟨(some 10), .mv (.t 14), none⟩] [9]) (.seqa (.reg [⟨(some 15), .mv (.t 2), none⟩,
    ⟨(some 16), .len (.t 15), none⟩,
    ⟨(some 17), .mv (.c (.i 0)), none⟩] []) (.blk 0 (.loop A84L2)) [9, 10] [9] A84R3)))
def V84 : List RV := [.t 6, .t 7, .t 8]
theorem m84 : mtcF Try.prog 84 3 A84 V84 = true := by kernel_rfl
def A85L1 : ACode := (.seq (.seq (.reg [⟨(some 12), .mv (.t 4), none⟩,
    ⟨(some 13), .mv (.t 0), none⟩,
    ⟨(some 14), .len (.t 13), none⟩,
    ⟨(some 15), .bin .lss (.t 12) (.t 14), none⟩] []) (.cond (.t 15) .skip (.exit 0))) (.seq (.blk 1 (.reg [⟨(some 18), .mv (.t 3), none⟩,
    ⟨(some 19), .mv (.t 0), none⟩,
    ⟨(some 20), .mv (.t 4), none⟩,
    ⟨(some 21), .idx 1 (.t 19) (.t 20), none⟩,
    ⟨(some 22), .load 1 false (.t 21), none⟩,
    ⟨(some 23), .mn (.t 18) (.t 22), none⟩,
    ⟨(some 3), .mv (.t 23), none⟩] [])) (.reg [⟨(some 16), .mv (.t 4), none⟩,
    ⟨(some 17), .bin .add (.t 16) (.c (.i 1)), none⟩,
    ⟨(some 4), .mv (.t 17), none⟩] [])))
def A85R2 : ACode := (.seq (.reg [⟨(some 24), .mv (.t 3), none⟩,
    ⟨(some 2), .mv (.t 24), none⟩] []) .ret)
def A85 : ACode := (.seq (.reg [⟨(some 2), .mv (.c (.i 0)), none⟩] []) (.seq (.seq (.reg [⟨(some 5), .mv (.t 0), none⟩,
    ⟨(some 6), .len (.t 5), none⟩,
    ⟨(some 7), .bin .lss (.t 6) (.c (.i 1)), none⟩] []) (.cond (.t 7) (.reg [⟨(some 8), .bad, none⟩,
    ⟨none, .bad, none⟩] []) .skip)) (.seq (.reg [⟨(some 9), .mv (.t 0), none⟩,
    ⟨(some 10), .idx 1 (.t 9) (.c (.i 0)), none⟩,
    ⟨(some 11), .load 1 false (.t 10), none⟩,
    ⟨(some 3), .mv (.t 11), none⟩] []) (.seqa (.reg [⟨(some 4), .mv (.c (.i 1)), none⟩] []) (.blk 0 (.loop A85L1)) [3] [] A85R2))))
def V85 : List RV := [.t 2]
theorem m85 : mtcF Try.prog 85 1 A85 V85 = true := by kernel_rfl
def A86 : ACode := (.seq (.reg [⟨(some 2), .mv (.c (.lst .u 1 [])), none⟩] [2]) (.seq (.seq (.reg [⟨(some 3), .mv (.t 0), none⟩,
    ⟨(some 4), .isn false (.t 3), none⟩] []) (.cond (.t 4) (.seq (.reg [⟨(some 2), .mv (.c (.lst .u 1 [])), none⟩] [2]) .ret) .skip)) (.seq (.reg [⟨(some 5), .bsl 1 false [], none⟩,
    ⟨(some 6), .mv (.t 0), none⟩,
    ⟨(some 7), .app 1 8 false (.t 5) (.t 6), none⟩,
    ⟨(some 2), .mv (.t 7), none⟩] [2]) .ret)))
def V86 : List RV := [.t 2]
theorem m86 : mtcF Try.prog 86 1 A86 V86 = true := by kernel_rfl
def A87M1L1 : ACode := (.seq (.seq (.reg [⟨(some 7), .mv (.t 2), none⟩,
    ⟨(some 8), .mv (.t 3), none⟩,
    ⟨(some 9), .bin .lss (.t 7) (.t 8), none⟩] []) (.cond (.t 9) .skip (.exit 0))) (.seq (.blk 1 (.drw [⟨(some 14), .mv (.t 0), none⟩,
    ⟨(some 15), .mv (.t 2), none⟩,
    ⟨(some 16), .mv (.t 0), none⟩,
    ⟨(some 17), .mv (.t 3), none⟩,
    ⟨(some 18), .mv (.t 0), none⟩,
    ⟨(some 19), .mv (.t 3), none⟩,
    ⟨(some 20), .idx 1 (.t 18) (.t 19), none⟩,
    ⟨(some 21), .load 1 false (.t 20), none⟩,
    ⟨(some 22), .mv (.t 0), none⟩,
    ⟨(some 23), .mv (.t 2), none⟩,
    ⟨(some 24), .idx 1 (.t 22) (.t 23), none⟩,
    ⟨(some 25), .load 1 false (.t 24), none⟩,
    ⟨(some 26), .idx 1 (.t 14) (.t 15), none⟩,
    ⟨none, .store 1 (.t 26) (.t 21), none⟩,
    ⟨(some 27), .idx 1 (.t 16) (.t 17), none⟩,
    ⟨none, .store 1 (.t 27) (.t 25), none⟩] [])) (.reg [⟨(some 10), .mv (.t 2), none⟩,
    ⟨(some 11), .bin .add (.t 10) (.c (.i 1)), none⟩,
    ⟨(some 12), .mv (.t 3), none⟩,
    ⟨(some 13), .bin .sub (.t 12) (.c (.i 1)), none⟩,
    ⟨(some 2), .mv (.t 11), none⟩,
    ⟨(some 3), .mv (.t 13), none⟩] [])))
def A87M1 : ACode := (.seq (.reg [⟨(some 4), .mv (.t 0), none⟩,
    ⟨(some 5), .len (.t 4), none⟩,
    ⟨(some 6), .bin .sub (.t 5) (.c (.i 1)), none⟩,
    ⟨(some 2), .mv (.c (.i 0)), none⟩,
    ⟨(some 3), .mv (.t 6), none⟩] []) (.blk 0 (.loop A87M1L1)))
def V87M1 : List RV := []
theorem m87M1 : mtcF Try.prog 87 1 A87M1 V87M1 = true := by kernel_rfl
def A88L1 : ACode := (.seq (.reg [⟨(some 12), .bin .lss (.t 11) (.t 10), none⟩] []) (.seq (.cond (.t 12) .skip (.exit 0)) (.seq (.blk 1 (.seq (.reg [⟨(some 13), .mv (.t 11), none⟩,
    ⟨(some 14), .idx 1 (.t 9) (.t 11), none⟩,
    ⟨(some 15), .load 1 false (.t 14), none⟩,
    ⟨(some 5), .mv (.t 13), none⟩,
    ⟨(some 6), .mv (.t 15), none⟩] []) (.seq (.seq (.reg [⟨(some 16), .mv (.t 5), none⟩,
    ⟨(some 17), .mv (.t 1), none⟩,
    ⟨(some 18), .len (.t 17), none⟩,
    ⟨(some 19), .bin .geq (.t 16) (.t 18), none⟩] []) (.cond (.t 19) (.seq (.reg [⟨(some 4), .mv (.c (.i 1)), none⟩] []) .ret) .skip)) (.seq (.reg [⟨(some 20), .mv (.t 1), none⟩,
    ⟨(some 21), .mv (.t 5), none⟩,
    ⟨(some 22), .idx 1 (.t 20) (.t 21), none⟩,
    ⟨(some 23), .load 1 false (.t 22), none⟩,
    ⟨(some 7), .mv (.t 23), none⟩] []) (.seq (.reg [⟨(some 24), .mv (.t 6), none⟩,
    ⟨(some 25), .mv (.t 7), none⟩,
    ⟨(some 26), .call 98 [(.t 24), (.t 25)], none⟩,
    ⟨(some 8), .mv (.t 26), none⟩] []) (.seq (.reg [⟨(some 27), .mv (.t 8), none⟩,
    ⟨(some 28), .bin .neq (.t 27) (.c (.i 0)), none⟩] []) (.cond (.t 28) (.seq (.reg [⟨(some 29), .mv (.t 8), none⟩,
    ⟨(some 4), .mv (.t 29), none⟩] []) .ret) .skip))))))) (.reg [⟨(some 30), .bin .add (.t 11) (.c (.i 1)), none⟩,
    ⟨(some 11), .mv (.t 30), none⟩] []))))
def A88R2 : ACode := (.seq (.seq (.reg [⟨(some 31), .mv (.t 0), none⟩,
    ⟨(some 32), .len (.t 31), none⟩,
    ⟨(some 33), .mv (.t 1), none⟩,
    ⟨(some 34), .len (.t 33), none⟩,
    ⟨(some 35), .bin .lss (.t 32) (.t 34), none⟩] []) (.cond (.t 35) (.seq (.reg [⟨(some 4), .mv (.c (.i (-1))), none⟩] []) .ret) .skip)) (.seq (.reg [⟨(some 4), .mv (.c (.i 0)), none⟩] []) .ret))
def A88 : ACode := (.seq (.reg [⟨(some 4), .mv (.c (.i 0)), none⟩] []) (.seqa (.reg [⟨(some 9), .mv (.t 0), none⟩,
    ⟨(some 10), .len (.t 9), none⟩,
    ⟨(some 11), .mv (.c (.i 0)), none⟩] []) (.blk 0 (.loop A88L1)) [0, 1] [] A88R2))
def V88 : List RV := [.t 4]
theorem m88 : mtcF Try.prog 88 2 A88 V88 = true := by kernel_rfl
def A48R1 : ACode := (.cond (.t 26) (.seq (.reg [⟨(some 4), .mv (.c (.lst .u 1 [])), none⟩,
    ⟨(some 5), .mv (.c (.b false)), none⟩] [4]) .ret) .skip)
def A48R2 : ACode := (.cond (.t 55) (.seq (.reg [⟨(some 4), .mv (.c (.lst .u 1 [])), none⟩,
    ⟨(some 5), .mv (.c (.b false)), none⟩] [4]) .ret) .skip)
def A48L3 : ACode := (.seq (.reg [⟨(some 59), .bin .lss (.t 58) (.t 57), none⟩] []) (.seq (.cond (.t 59) .skip (.exit 0)) (.seq (.blk 1 (.seq (.reg [⟨(some 60), .mv (.t 58), none⟩,
    ⟨(some 61), .idx 1 (.t 56) (.t 58), none⟩,
    ⟨(some 62), .load 1 false (.t 61), none⟩,
    ⟨(some 10), .mv (.t 60), none⟩,
    ⟨(some 11), .mv (.t 62), none⟩] []) (.seq (.reg [⟨(some 63), .mv (.t 7), none⟩,
    ⟨(some 64), .mv (.t 10), none⟩,
    ⟨(some 65), .slc 1 (.t 63) none (some (.t 64)) none, none⟩,
    ⟨(some 66), .mv (.t 11), none⟩,
    ⟨(some 67), .call 67 [(.t 65), (.t 66)], none⟩] []) (.cond (.t 67) (.seq (.reg [⟨(some 4), .mv (.c (.lst .u 1 [])), none⟩,
    ⟨(some 5), .mv (.c (.b false)), none⟩] [4]) .ret) .skip)))) (.reg [⟨(some 68), .bin .add (.t 58) (.c (.i 1)), none⟩,
    ⟨(some 58), .mv (.t 68), none⟩] []))))
def A48R4 : ACode := (.seq (.reg [⟨(some 69), .mv (.t 1), none⟩,
    ⟨(some 70), .call 86 [(.t 69)], none⟩,
    ⟨(some 12), .mv (.t 70), none⟩] [12]) (.seq (.reg [⟨(some 71), .mv (.t 12), none⟩,
    ⟨(some 72), .callM 87 [(.t 71)] [12], none⟩] []) (.seq (.reg [⟨(some 73), .mv (.t 7), none⟩,
    ⟨(some 74), .mv (.t 1), none⟩,
    ⟨(some 75), .mv (.t 12), none⟩,
    ⟨(some 76), .call 88 [(.t 74), (.t 75)], none⟩,
    ⟨(some 77), .bin .lss (.t 76) (.c (.i 0)), none⟩,
    ⟨(some 4), .mv (.t 73), none⟩,
    ⟨(some 5), .mv (.t 77), none⟩] [4]) .ret)))
def A48 : ACode := (.seq (.reg [⟨(some 2), .box 2 (.t 0), none⟩,
    ⟨(some 4), .mv (.c (.lst .u 1 [])), none⟩,
    ⟨(some 5), .mv (.c (.b false)), none⟩] [4]) (.seq (.seqr (.drw [⟨(some 13), .mv (.t 1), none⟩,
    ⟨(some 14), .len (.t 13), none⟩,
    ⟨(some 15), .bin .lss (.t 14) (.c (.i 2)), none⟩,
    ⟨(some 16), .mv (.t 15), none⟩,
    ⟨(some 17), .mv (.t 1), (some (16, false))⟩,
    ⟨(some 18), .idx 1 (.t 17) (.c (.i 0)), (some (16, false))⟩,
    ⟨(some 19), .load 1 false (.t 18), (some (16, false))⟩,
    ⟨(some 20), .fad 1 (.t 2), (some (16, false))⟩,
    ⟨(some 21), .load 1 false (.t 20), (some (16, false))⟩,
    ⟨(some 22), .len (.t 21), (some (16, false))⟩,
    ⟨(some 23), .bin .sub (.t 22) (.c (.i 1)), (some (16, false))⟩,
    ⟨(some 24), .call 57 [(.t 19), (.c (.i 0)), (.t 23)], (some (16, false))⟩,
    ⟨(some 25), .un .not (.t 24), (some (16, false))⟩,
    ⟨(some 26), .pick (.t 16) (.c (.b true)) (.t 25), none⟩] []) [1, 2, 26] [2] A48R1) (.seq (.drw [⟨(some 27), .fad 1 (.t 2), none⟩,
    ⟨(some 28), .load 1 false (.t 27), none⟩,
    ⟨(some 29), .mv (.t 1), none⟩,
    ⟨(some 30), .idx 1 (.t 29) (.c (.i 0)), none⟩,
    ⟨(some 31), .load 1 false (.t 30), none⟩,
    ⟨(some 32), .idx 4 (.t 28) (.t 31), none⟩,
    ⟨(some 33), .fad 0 (.t 32), none⟩,
    ⟨(some 34), .load 1 false (.t 33), none⟩,
    ⟨(some 6), .mv (.t 34), none⟩] []) (.seq (.reg [⟨(some 36), .load 2 true (.t 2), none⟩,
    ⟨(some 37), .mv (.t 6), none⟩,
    ⟨(some 38), .mv (.t 1), none⟩,
    ⟨(some 39), .call 84 [(.t 36), (.t 37), (.t 38)], none⟩,
    ⟨(some 35), .mv (.t 39), none⟩,
    ⟨(some 40), .ext (.t 35) 0, none⟩,
    ⟨(some 41), .ext (.t 35) 1, none⟩,
    ⟨(some 42), .ext (.t 35) 2, none⟩,
    ⟨(some 7), .mv (.t 40), none⟩,
    ⟨(some 8), .mv (.t 41), none⟩,
    ⟨(some 9), .mv (.t 42), none⟩] [7]) (.seq (.seqr (.reg [⟨(some 43), .mv (.t 9), none⟩,
    ⟨(some 44), .un .not (.t 43), none⟩,
    ⟨(some 45), .mv (.t 44), none⟩,
    ⟨(some 46), .mv (.t 8), (some (45, false))⟩,
    ⟨(some 47), .mv (.t 6), (some (45, false))⟩,
    ⟨(some 48), .bin .neq (.t 46) (.t 47), (some (45, false))⟩,
    ⟨(some 49), .pick (.t 45) (.c (.b true)) (.t 48), none⟩,
    ⟨(some 50), .mv (.t 49), none⟩,
    ⟨(some 51), .mv (.t 7), (some (50, false))⟩,
    ⟨(some 52), .call 85 [(.t 51)], (some (50, false))⟩,
    ⟨(some 53), .mv (.t 6), (some (50, false))⟩,
    ⟨(some 54), .bin .neq (.t 52) (.t 53), (some (50, false))⟩,
    ⟨(some 55), .pick (.t 50) (.c (.b true)) (.t 54), none⟩] []) [1, 7, 55] [7] A48R2) (.seqa (.reg [⟨(some 56), .mv (.t 7), none⟩,
    ⟨(some 57), .len (.t 56), none⟩,
    ⟨(some 58), .mv (.c (.i 0)), none⟩] []) (.blk 0 (.loop A48L3)) [1, 7] [7] A48R4))))))
def V48 : List RV := [.t 4, .t 5]
theorem m48 : mtcF Try.prog 48 2 A48 V48 = true := by kernel_rfl
def A18 : ACode := (.seq (.reg [⟨(some 2), .box 2 (.t 0), none⟩,
    ⟨(some 4), .mv (.c (.lst .u 1 [])), none⟩,
    ⟨(some 5), .mv (.c (.b false)), none⟩] [4]) (.seq (.seq (.reg [⟨(some 8), .load 2 true (.t 2), none⟩,
    ⟨(some 9), .call 47 [(.t 8)], none⟩,
    ⟨(some 10), .un .not (.t 9), none⟩] []) (.cond (.t 10) (.seq (.reg [⟨(some 4), .mv (.c (.lst .u 1 [])), none⟩,
    ⟨(some 5), .mv (.c (.b false)), none⟩] [4]) .ret) .skip)) (.seq (.reg [⟨(some 12), .load 2 true (.t 2), none⟩,
    ⟨(some 13), .mv (.t 1), none⟩,
    ⟨(some 14), .call 48 [(.t 12), (.t 13)], none⟩,
    ⟨(some 11), .mv (.t 14), none⟩,
    ⟨(some 15), .ext (.t 11) 0, none⟩,
    ⟨(some 16), .ext (.t 11) 1, none⟩,
    ⟨(some 6), .mv (.t 15), none⟩,
    ⟨(some 7), .mv (.t 16), none⟩] [6]) (.seq (.seq (.reg [⟨(some 17), .mv (.t 7), none⟩,
    ⟨(some 18), .un .not (.t 17), none⟩] []) (.cond (.t 18) (.seq (.reg [⟨(some 4), .mv (.c (.lst .u 1 [])), none⟩,
    ⟨(some 5), .mv (.c (.b false)), none⟩] [4]) .ret) .skip)) (.seq (.reg [⟨(some 19), .mv (.t 6), none⟩,
    ⟨(some 4), .mv (.t 19), none⟩,
    ⟨(some 5), .mv (.c (.b true)), none⟩] [4]) .ret)))))
def V18 : List RV := [.t 4, .t 5]
theorem m18 : mtcF Try.prog 18 2 A18 V18 = true := by kernel_rfl
def A14 : ACode := (.seq (.reg [⟨(some 2), .box 2 (.t 0), none⟩,
    ⟨(some 4), .mv (.c (.b false)), none⟩] []) (.seq (.reg [⟨(some 8), .load 2 true (.t 2), none⟩,
    ⟨(some 9), .mv (.t 1), none⟩,
    ⟨(some 10), .call 18 [(.t 8), (.t 9)], none⟩,
    ⟨(some 7), .mv (.t 10), none⟩,
    ⟨(some 11), .ext (.t 7) 0, none⟩,
    ⟨(some 12), .ext (.t 7) 1, none⟩,
    ⟨(some 5), .mv (.t 11), none⟩,
    ⟨(some 6), .mv (.t 12), none⟩] [5]) (.seq (.reg [⟨(some 13), .mv (.t 6), none⟩,
    ⟨(some 4), .mv (.t 13), none⟩] []) .ret)))
def V14 : List RV := [.t 4]
theorem m14 : mtcF Try.prog 14 2 A14 V14 = true := by kernel_rfl
def A44L1 : ACode := (.seq (.seq (.reg [⟨(some 11), .mv (.t 5), none⟩,
    ⟨(some 12), .mv (.t 0), none⟩,
    ⟨(some 13), .len (.t 12), none⟩,
    ⟨(some 14), .bin .lss (.t 11) (.t 13), none⟩] []) (.cond (.t 14) .skip (.exit 0))) (.seq (.blk 1 (.seq (.drw [⟨(some 17), .mv (.t 0), none⟩,
    ⟨(some 18), .mv (.t 5), none⟩,
    ⟨(some 19), .idx 1 (.t 17) (.t 18), none⟩,
    ⟨(some 20), .load 1 false (.t 19), none⟩,
    ⟨(some 21), .mv (.t 1), none⟩,
    ⟨(some 22), .mv (.t 5), none⟩,
    ⟨(some 23), .idx 1 (.t 21) (.t 22), none⟩,
    ⟨(some 24), .load 1 false (.t 23), none⟩,
    ⟨(some 25), .bin .neq (.t 20) (.t 24), none⟩] []) (.cond (.t 25) (.seq (.reg [⟨(some 4), .mv (.c (.b false)), none⟩] []) .ret) .skip))) (.reg [⟨(some 15), .mv (.t 5), none⟩,
    ⟨(some 16), .bin .add (.t 15) (.c (.i 1)), none⟩,
    ⟨(some 5), .mv (.t 16), none⟩] [])))
def A44R2 : ACode := (.seq (.reg [⟨(some 4), .mv (.c (.b true)), none⟩] []) .ret)
def A44 : ACode := (.seq (.reg [⟨(some 4), .mv (.c (.b false)), none⟩] []) (.seq (.seq (.reg [⟨(some 6), .mv (.t 0), none⟩,
    ⟨(some 7), .len (.t 6), none⟩,
    ⟨(some 8), .mv (.t 1), none⟩,
    ⟨(some 9), .len (.t 8), none⟩,
    ⟨(some 10), .bin .neq (.t 7) (.t 9), none⟩] []) (.cond (.t 10) (.seq (.reg [⟨(some 4), .mv (.c (.b false)), none⟩] []) .ret) .skip)) (.seqa (.reg [⟨(some 5), .mv (.c (.i 0)), none⟩] []) (.blk 0 (.loop A44L1)) [] [] A44R2)))
def V44 : List RV := [.t 4]
theorem m44 : mtcF Try.prog 44 2 A44 V44 = true := by kernel_rfl
def A80 : ACode := (.seq (.reg [⟨(some 2), .box 4 (.t 0), none⟩,
    ⟨(some 3), .box 4 (.t 1), none⟩,
    ⟨(some 4), .mv (.c (.b false)), none⟩] []) (.seq (.seq (.reg [⟨(some 5), .fad 0 (.t 2), none⟩,
    ⟨(some 6), .load 1 false (.t 5), none⟩,
    ⟨(some 7), .fad 0 (.t 3), none⟩,
    ⟨(some 8), .load 1 false (.t 7), none⟩,
    ⟨(some 9), .bin .neq (.t 6) (.t 8), none⟩] []) (.cond (.t 9) (.seq (.reg [⟨(some 4), .mv (.c (.b false)), none⟩] []) .ret) .skip)) (.seq (.seq (.reg [⟨(some 10), .fad 1 (.t 2), none⟩,
    ⟨(some 11), .load 1 false (.t 10), none⟩,
    ⟨(some 12), .fad 1 (.t 3), none⟩,
    ⟨(some 13), .load 1 false (.t 12), none⟩,
    ⟨(some 14), .bin .neq (.t 11) (.t 13), none⟩] []) (.cond (.t 14) (.seq (.reg [⟨(some 4), .mv (.c (.b false)), none⟩] []) .ret) .skip)) (.seq (.seq (.reg [⟨(some 15), .fad 2 (.t 2), none⟩,
    ⟨(some 16), .load 1 false (.t 15), none⟩,
    ⟨(some 17), .fad 2 (.t 3), none⟩,
    ⟨(some 18), .load 1 false (.t 17), none⟩,
    ⟨(some 19), .bin .neq (.t 16) (.t 18), none⟩] []) (.cond (.t 19) (.seq (.reg [⟨(some 4), .mv (.c (.b false)), none⟩] []) .ret) .skip)) (.seq (.seq (.reg [⟨(some 20), .fad 3 (.t 2), none⟩,
    ⟨(some 21), .load 1 false (.t 20), none⟩,
    ⟨(some 22), .fad 3 (.t 3), none⟩,
    ⟨(some 23), .load 1 false (.t 22), none⟩,
    ⟨(some 24), .bin .neq (.t 21) (.t 23), none⟩] []) (.cond (.t 24) (.seq (.reg [⟨(some 4), .mv (.c (.b false)), none⟩] []) .ret) .skip)) (.seq (.reg [⟨(some 4), .mv (.c (.b true)), none⟩] []) .ret))))))
def V80 : List RV := [.t 4]
theorem m80 : mtcF Try.prog 80 2 A80 V80 = true := by kernel_rfl
def A45L1 : ACode := (.seq (.seq (.reg [⟨(some 11), .mv (.t 5), none⟩,
    ⟨(some 12), .mv (.t 0), none⟩,
    ⟨(some 13), .len (.t 12), none⟩,
    ⟨(some 14), .bin .lss (.t 11) (.t 13), none⟩] []) (.cond (.t 14) .skip (.exit 0))) (.seq (.blk 1 (.seq (.drw [⟨(some 17), .mv (.t 0), none⟩,
    ⟨(some 18), .mv (.t 5), none⟩,
    ⟨(some 19), .idx 4 (.t 17) (.t 18), none⟩,
    ⟨(some 20), .load 4 true (.t 19), none⟩,
    ⟨(some 21), .mv (.t 1), none⟩,
    ⟨(some 22), .mv (.t 5), none⟩,
    ⟨(some 23), .idx 4 (.t 21) (.t 22), none⟩,
    ⟨(some 24), .load 4 true (.t 23), none⟩,
    ⟨(some 25), .call 80 [(.t 20), (.t 24)], none⟩,
    ⟨(some 26), .un .not (.t 25), none⟩] []) (.cond (.t 26) (.seq (.reg [⟨(some 4), .mv (.c (.b false)), none⟩] []) .ret) .skip))) (.reg [⟨(some 15), .mv (.t 5), none⟩,
    ⟨(some 16), .bin .add (.t 15) (.c (.i 1)), none⟩,
    ⟨(some 5), .mv (.t 16), none⟩] [])))
def A45R2 : ACode := (.seq (.reg [⟨(some 4), .mv (.c (.b true)), none⟩] []) .ret)
def A45 : ACode := (.seq (.reg [⟨(some 4), .mv (.c (.b false)), none⟩] []) (.seq (.seq (.reg [⟨(some 6), .mv (.t 0), none⟩,
    ⟨(some 7), .len (.t 6), none⟩,
    ⟨(some 8), .mv (.t 1), none⟩,
    ⟨(some 9), .len (.t 8), none⟩,
    ⟨(some 10), .bin .neq (.t 7) (.t 9), none⟩] []) (.cond (.t 10) (.seq (.reg [⟨(some 4), .mv (.c (.b false)), none⟩] []) .ret) .skip)) (.seqa (.reg [⟨(some 5), .mv (.c (.i 0)), none⟩] []) (.blk 0 (.loop A45L1)) [] [] A45R2)))
def V45 : List RV := [.t 4]
theorem m45 : mtcF Try.prog 45 2 A45 V45 = true := by kernel_rfl
def A15 : ACode := (.seq (.reg [⟨(some 2), .box 2 (.t 0), none⟩,
    ⟨(some 3), .box 2 (.t 1), none⟩,
    ⟨(some 4), .mv (.c (.b false)), none⟩] []) (.seq (.seq (.reg [⟨(some 5), .fad 0 (.t 2), none⟩,
    ⟨(some 6), .load 1 false (.t 5), none⟩,
    ⟨(some 7), .fad 0 (.t 3), none⟩,
    ⟨(some 8), .load 1 false (.t 7), none⟩,
    ⟨(some 9), .call 44 [(.t 6), (.t 8)], none⟩,
    ⟨(some 10), .un .not (.t 9), none⟩] []) (.cond (.t 10) (.seq (.reg [⟨(some 4), .mv (.c (.b false)), none⟩] []) .ret) .skip)) (.seq (.seq (.reg [⟨(some 11), .fad 1 (.t 2), none⟩,
    ⟨(some 12), .load 1 false (.t 11), none⟩,
    ⟨(some 13), .fad 1 (.t 3), none⟩,
    ⟨(some 14), .load 1 false (.t 13), none⟩,
    ⟨(some 15), .call 45 [(.t 12), (.t 14)], none⟩,
    ⟨(some 16), .un .not (.t 15), none⟩] []) (.cond (.t 16) (.seq (.reg [⟨(some 4), .mv (.c (.b false)), none⟩] []) .ret) .skip)) (.seq (.reg [⟨(some 4), .mv (.c (.b true)), none⟩] []) .ret))))
def V15 : List RV := [.t 4]
theorem m15 : mtcF Try.prog 15 2 A15 V15 = true := by kernel_rfl
def A16L1 : ACode := (.seq (.seq (.reg [⟨(some 11), .mv (.t 5), none⟩,
    ⟨(some 12), .mv (.t 0), none⟩,
    ⟨(some 13), .len (.t 12), none⟩,
    ⟨(some 14), .bin .lss (.t 11) (.t 13), none⟩] []) (.cond (.t 14) .skip (.exit 0))) (.seq (.blk 1 (.seq (.drw [⟨(some 17), .mv (.t 0), none⟩,
    ⟨(some 18), .mv (.t 5), none⟩,
    ⟨(some 19), .idx 1 (.t 17) (.t 18), none⟩,
    ⟨(some 20), .load 1 false (.t 19), none⟩,
    ⟨(some 21), .mv (.t 1), none⟩,
    ⟨(some 22), .mv (.t 5), none⟩,
    ⟨(some 23), .idx 1 (.t 21) (.t 22), none⟩,
    ⟨(some 24), .load 1 false (.t 23), none⟩,
    ⟨(some 25), .bin .neq (.t 20) (.t 24), none⟩] []) (.cond (.t 25) (.seq (.reg [⟨(some 4), .mv (.c (.b false)), none⟩] []) .ret) .skip))) (.reg [⟨(some 15), .mv (.t 5), none⟩,
    ⟨(some 16), .bin .add (.t 15) (.c (.i 1)), none⟩,
    ⟨(some 5), .mv (.t 16), none⟩] [])))
def A16R2 : ACode := (.seq (.reg [⟨(some 4), .mv (.c (.b true)), none⟩] []) .ret)
def A16 : ACode := (.seq (.reg [⟨(some 4), .mv (.c (.b false)), none⟩] []) (.seq (.seq (.reg [⟨(some 6), .mv (.t 0), none⟩,
    ⟨(some 7), .len (.t 6), none⟩,
    ⟨(some 8), .mv (.t 1), none⟩,
    ⟨(some 9), .len (.t 8), none⟩,
    ⟨(some 10), .bin .neq (.t 7) (.t 9), none⟩] []) (.cond (.t 10) (.seq (.reg [⟨(some 4), .mv (.c (.b false)), none⟩] []) .ret) .skip)) (.seqa (.reg [⟨(some 5), .mv (.c (.i 0)), none⟩] []) (.blk 0 (.loop A16L1)) [] [] A16R2)))
def V16 : List RV := [.t 4]
theorem m16 : mtcF Try.prog 16 2 A16 V16 = true := by kernel_rfl
def A3 : ACode := (.seq (.reg [⟨(some 2), .box 2 (.t 0), none⟩,
    ⟨(some 4), .mv (.c (.b false)), none⟩] []) (.seq (.seq (.reg [⟨(some 10), .mv (.t 1), none⟩,
    ⟨(some 11), .len (.t 10), none⟩,
    ⟨(some 12), .bin .gtr (.t 11) (.c (.i 1048576)), none⟩] []) (.cond (.t 12) (.seq (.reg [⟨(some 4), .mv (.c (.b true)), none⟩] []) .ret) .skip)) (.seq (.reg [⟨(some 5), .mv (.c (.i 1048576)), none⟩] []) (.seq (.reg [⟨(some 13), .load 2 true (.t 2), none⟩,
    ⟨(some 14), .mv (.t 5), none⟩,
    ⟨(some 15), .call 10 [(.t 13), (.t 14)], none⟩,
    ⟨(some 5), .mv (.t 15), none⟩] []) (.seq (.seq (.reg [⟨(some 16), .mv (.t 5), none⟩,
    ⟨(some 17), .bin .lss (.t 16) (.c (.i 0)), none⟩] []) (.cond (.t 17) (.seq (.reg [⟨(some 4), .mv (.c (.b true)), none⟩] []) .ret) .skip)) (.seq (.reg [⟨(some 18), .load 2 true (.t 2), none⟩,
    ⟨(some 19), .call 12 [(.t 18)], none⟩,
    ⟨(some 20), .mv (.t 1), none⟩,
    ⟨(some 21), .call 13 [(.t 20)], none⟩,
    ⟨(some 22), .call 11 [(.t 19), (.t 21)], none⟩,
    ⟨(some 6), .mv (.t 22), none⟩] []) (.seq (.reg [⟨(some 23), .load 2 true (.t 2), none⟩,
    ⟨(some 24), .call 12 [(.t 23)], none⟩,
    ⟨(some 7), .alloc (.agg [.lst .u 1 [], .lst .u 4 []]), none⟩,
    ⟨none, .store 2 (.t 7) (.t 24), none⟩] []) (.seq (.reg [⟨(some 25), .mv (.t 1), none⟩,
    ⟨(some 26), .call 13 [(.t 25)], none⟩,
    ⟨(some 8), .mv (.t 26), none⟩] [8]) (.seq (.reg [⟨(some 27), .load 2 true (.t 7), none⟩,
    ⟨(some 28), .mv (.t 8), none⟩,
    ⟨(some 29), .call 14 [(.t 27), (.t 28)], none⟩,
    ⟨(some 9), .mv (.t 29), none⟩] []) (.seq (.seq (.reg [⟨(some 30), .mv (.t 9), none⟩,
    ⟨(some 31), .mv (.t 6), none⟩,
    ⟨(some 32), .beq true (.t 30) (.t 31), none⟩] []) (.cond (.t 32) (.seq (.reg [⟨(some 4), .mv (.c (.b false)), none⟩] []) .ret) .skip)) (.seq (.seq (.drw [⟨(some 33), .load 2 true (.t 7), none⟩,
    ⟨(some 34), .load 2 true (.t 2), none⟩,
    ⟨(some 35), .call 12 [(.t 34)], none⟩,
    ⟨(some 36), .call 15 [(.t 33), (.t 35)], none⟩,
    ⟨(some 37), .un .not (.t 36), none⟩] []) (.cond (.t 37) (.seq (.reg [⟨(some 4), .mv (.c (.b false)), none⟩] []) .ret) .skip)) (.seq (.seq (.reg [⟨(some 38), .mv (.t 8), none⟩,
    ⟨(some 39), .mv (.t 1), none⟩,
    ⟨(some 40), .call 13 [(.t 39)], none⟩,
    ⟨(some 41), .call 16 [(.t 38), (.t 40)], none⟩,
    ⟨(some 42), .un .not (.t 41), none⟩] []) (.cond (.t 42) (.seq (.reg [⟨(some 4), .mv (.c (.b false)), none⟩] []) .ret) .skip)) (.seq (.reg [⟨(some 4), .mv (.c (.b true)), none⟩] []) .ret)))))))))))))
def V3 : List RV := [.t 4]
theorem m3 : mtcF Try.prog 3 2 A3 V3 = true := by kernel_rfl
end Vs

