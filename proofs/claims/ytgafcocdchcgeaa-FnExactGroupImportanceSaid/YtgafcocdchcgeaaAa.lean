/-
  Part of the proof that the law FnExactGroupImportance returns true at every input; no condition beside the row's own.
-/
import Derived.Test.YtgafcocdchcgeaaFe
import Derived.Test.YtgafcocdchcgeaaChecked
import Derived.KernelRfl
set_option linter.defProp false
set_option linter.unusedSimpArgs false
set_option linter.unusedVariables false
namespace Vs
open Go
structure TFiber where
  A : Int
  B : Int
  Length : Int
  Risk : Int
  deriving DecidableEq
def e_TFiber (f : Fl) (x : TFiber) : AV := .agg [.i x.A, .i x.B, .i x.Length, .i x.Risk]
theorem e_TFiber_nrm (f : Fl) (x : TFiber) : (e_TFiber f x).nrm = e_TFiber .o x := by simp [e_TFiber, nrm_sc, nrm_lst, nrm_agg, nrm_sc]
theorem e_TFiber_nrmm (f : Fl) (xs : List TFiber) : (xs.map (e_TFiber f)).map AV.nrm = xs.map (e_TFiber .o) := by simp [e_TFiber_nrm]
theorem e_TFiber_als (f : Fl) (x : TFiber) : (e_TFiber f x).als = e_TFiber f.als x := by simp [e_TFiber, als_sc, als_lst, als_agg, nrm_sc]
theorem e_TFiber_alsm (f : Fl) (xs : List TFiber) : (xs.map (e_TFiber f)).map AV.als = xs.map (e_TFiber f.als) := by simp [e_TFiber_als]
theorem e_TFiber_fix (f : Fl) (x : TFiber) : (e_TFiber f x).fix = e_TFiber f.fix x := by simp [e_TFiber, fix_sc, fix_lst, fix_agg, nrm_sc]
theorem e_TFiber_fixm (f : Fl) (xs : List TFiber) : (xs.map (e_TFiber f)).map AV.fix = xs.map (e_TFiber f.fix) := by simp [e_TFiber_fix]
theorem e_TFiber_fz (x : TFiber) : (e_TFiber .o x).fz = true := by simp [e_TFiber, AV.i, AV.b, AV.z, fz_sc, fz_lsto, fz_agg, fzL_nil, fzL_cons, fzL_mi, fzL_mb, fzL_mz, fzL_m8, fzL_m64, ouL_m8, ouL_m64, ou_sc, ou_lstu, ou_agg, ouL_nil, ouL_cons, ouL_mi, ouL_mb, ouL_mz]
theorem e_TFiber_fzm (xs : List TFiber) : fzL (xs.map (e_TFiber .o)) = true := fzL_of e_TFiber_fz xs
theorem e_TFiber_ou (x : TFiber) : (e_TFiber .u x).ouB = true := by simp [e_TFiber, AV.i, AV.b, AV.z, fz_sc, fz_lsto, fz_agg, fzL_nil, fzL_cons, fzL_mi, fzL_mb, fzL_mz, fzL_m8, fzL_m64, ouL_m8, ouL_m64, ou_sc, ou_lstu, ou_agg, ouL_nil, ouL_cons, ouL_mi, ouL_mb, ouL_mz]
theorem e_TFiber_oum (xs : List TFiber) : ouBL (xs.map (e_TFiber .u)) = true := ouL_of e_TFiber_ou xs
structure TNetwork where
  Nodes : List ByteArray
  Fibers : List TFiber
def e_TNetwork (f : Fl) (x : TNetwork) : AV := .agg [.lst f 1 (x.Nodes.map AV.z), .lst f 4 (x.Fibers.map (e_TFiber f))]
theorem e_TNetwork_nrm (f : Fl) (x : TNetwork) : (e_TNetwork f x).nrm = e_TNetwork .o x := by simp [e_TNetwork, nrm_sc, nrm_lst, nrm_agg, e_TFiber_nrm, map_nrm_i, map_nrm_z]
theorem e_TNetwork_nrmm (f : Fl) (xs : List TNetwork) : (xs.map (e_TNetwork f)).map AV.nrm = xs.map (e_TNetwork .o) := by simp [e_TNetwork_nrm]
theorem e_TNetwork_als (f : Fl) (x : TNetwork) : (e_TNetwork f x).als = e_TNetwork f.als x := by simp [e_TNetwork, als_sc, als_lst, als_agg, e_TFiber_als, map_als_i, map_als_z]
theorem e_TNetwork_alsm (f : Fl) (xs : List TNetwork) : (xs.map (e_TNetwork f)).map AV.als = xs.map (e_TNetwork f.als) := by simp [e_TNetwork_als]
theorem e_TNetwork_fix (f : Fl) (x : TNetwork) : (e_TNetwork f x).fix = e_TNetwork f.fix x := by simp [e_TNetwork, fix_sc, fix_lst, fix_agg, e_TFiber_fix, map_fix_i, map_fix_z]
theorem e_TNetwork_fixm (f : Fl) (xs : List TNetwork) : (xs.map (e_TNetwork f)).map AV.fix = xs.map (e_TNetwork f.fix) := by simp [e_TNetwork_fix]
theorem e_TNetwork_fz (x : TNetwork) : (e_TNetwork .o x).fz = true := by simp [e_TNetwork, AV.i, AV.b, AV.z, fz_sc, fz_lsto, fz_agg, fzL_nil, fzL_cons, fzL_mi, fzL_mb, fzL_mz, fzL_m8, fzL_m64, ouL_m8, ouL_m64, ou_sc, ou_lstu, ou_agg, ouL_nil, ouL_cons, ouL_mi, ouL_mb, ouL_mz, e_TFiber_fzm, e_TFiber_oum]
theorem e_TNetwork_fzm (xs : List TNetwork) : fzL (xs.map (e_TNetwork .o)) = true := fzL_of e_TNetwork_fz xs
theorem e_TNetwork_ou (x : TNetwork) : (e_TNetwork .u x).ouB = true := by simp [e_TNetwork, AV.i, AV.b, AV.z, fz_sc, fz_lsto, fz_agg, fzL_nil, fzL_cons, fzL_mi, fzL_mb, fzL_mz, fzL_m8, fzL_m64, ouL_m8, ouL_m64, ou_sc, ou_lstu, ou_agg, ouL_nil, ouL_cons, ouL_mi, ouL_mb, ouL_mz, e_TFiber_fzm, e_TFiber_oum]
theorem e_TNetwork_oum (xs : List TNetwork) : ouBL (xs.map (e_TNetwork .u)) = true := ouL_of e_TNetwork_ou xs
structure TOutage where
  Unit : Int
  Down : List Int
  deriving DecidableEq
def e_TOutage (f : Fl) (x : TOutage) : AV := .agg [.i x.Unit, .lst f 1 (x.Down.map AV.i)]
theorem e_TOutage_nrm (f : Fl) (x : TOutage) : (e_TOutage f x).nrm = e_TOutage .o x := by simp [e_TOutage, nrm_sc, nrm_lst, nrm_agg, map_nrm_i]
theorem e_TOutage_nrmm (f : Fl) (xs : List TOutage) : (xs.map (e_TOutage f)).map AV.nrm = xs.map (e_TOutage .o) := by simp [e_TOutage_nrm]
theorem e_TOutage_als (f : Fl) (x : TOutage) : (e_TOutage f x).als = e_TOutage f.als x := by simp [e_TOutage, als_sc, als_lst, als_agg, map_als_i]
theorem e_TOutage_alsm (f : Fl) (xs : List TOutage) : (xs.map (e_TOutage f)).map AV.als = xs.map (e_TOutage f.als) := by simp [e_TOutage_als]
theorem e_TOutage_fix (f : Fl) (x : TOutage) : (e_TOutage f x).fix = e_TOutage f.fix x := by simp [e_TOutage, fix_sc, fix_lst, fix_agg, map_fix_i]
theorem e_TOutage_fixm (f : Fl) (xs : List TOutage) : (xs.map (e_TOutage f)).map AV.fix = xs.map (e_TOutage f.fix) := by simp [e_TOutage_fix]
theorem e_TOutage_fz (x : TOutage) : (e_TOutage .o x).fz = true := by simp [e_TOutage, AV.i, AV.b, AV.z, fz_sc, fz_lsto, fz_agg, fzL_nil, fzL_cons, fzL_mi, fzL_mb, fzL_mz, fzL_m8, fzL_m64, ouL_m8, ouL_m64, ou_sc, ou_lstu, ou_agg, ouL_nil, ouL_cons, ouL_mi, ouL_mb, ouL_mz]
theorem e_TOutage_fzm (xs : List TOutage) : fzL (xs.map (e_TOutage .o)) = true := fzL_of e_TOutage_fz xs
theorem e_TOutage_ou (x : TOutage) : (e_TOutage .u x).ouB = true := by simp [e_TOutage, AV.i, AV.b, AV.z, fz_sc, fz_lsto, fz_agg, fzL_nil, fzL_cons, fzL_mi, fzL_mb, fzL_mz, fzL_m8, fzL_m64, ouL_m8, ouL_m64, ou_sc, ou_lstu, ou_agg, ouL_nil, ouL_cons, ouL_mi, ouL_mb, ouL_mz]
theorem e_TOutage_oum (xs : List TOutage) : ouBL (xs.map (e_TOutage .u)) = true := ouL_of e_TOutage_ou xs
def e_Li (f : Fl) (xs : List Int) : AV := .lst f 1 (xs.map AV.i)
theorem e_Li_nrm (f : Fl) (x : List Int) : (e_Li f x).nrm = e_Li .o x := by simp [e_Li, nrm_sc, nrm_lst, nrm_agg, map_nrm_i]
theorem e_Li_nrmm (f : Fl) (xs : List (List Int)) : (xs.map (e_Li f)).map AV.nrm = xs.map (e_Li .o) := by simp [e_Li_nrm]
theorem e_Li_als (f : Fl) (x : List Int) : (e_Li f x).als = e_Li f.als x := by simp [e_Li, als_sc, als_lst, als_agg, map_als_i]
theorem e_Li_alsm (f : Fl) (xs : List (List Int)) : (xs.map (e_Li f)).map AV.als = xs.map (e_Li f.als) := by simp [e_Li_als]
theorem e_Li_fix (f : Fl) (x : List Int) : (e_Li f x).fix = e_Li f.fix x := by simp [e_Li, fix_sc, fix_lst, fix_agg, map_fix_i]
theorem e_Li_fixm (f : Fl) (xs : List (List Int)) : (xs.map (e_Li f)).map AV.fix = xs.map (e_Li f.fix) := by simp [e_Li_fix]
theorem e_Li_fz (x : List Int) : (e_Li .o x).fz = true := by simp [e_Li, AV.i, AV.b, AV.z, fz_sc, fz_lsto, fz_agg, fzL_nil, fzL_cons, fzL_mi, fzL_mb, fzL_mz, fzL_m8, fzL_m64, ouL_m8, ouL_m64, ou_sc, ou_lstu, ou_agg, ouL_nil, ouL_cons, ouL_mi, ouL_mb, ouL_mz]
theorem e_Li_fzm (xs : List (List Int)) : fzL (xs.map (e_Li .o)) = true := fzL_of e_Li_fz xs
theorem e_Li_ou (x : List Int) : (e_Li .u x).ouB = true := by simp [e_Li, AV.i, AV.b, AV.z, fz_sc, fz_lsto, fz_agg, fzL_nil, fzL_cons, fzL_mi, fzL_mb, fzL_mz, fzL_m8, fzL_m64, ouL_m8, ouL_m64, ou_sc, ou_lstu, ou_agg, ouL_nil, ouL_cons, ouL_mi, ouL_mb, ouL_mz]
theorem e_Li_oum (xs : List (List Int)) : ouBL (xs.map (e_Li .u)) = true := ouL_of e_Li_ou xs
def M_laws_szStringSL1 (aZ0 : List ByteArray) (sZ2 : Int × Int) : Option ((Int × Int) ⊕ (Int ⊕ Int)) :=
  cond (decide (sZ2.2 < (aZ0.length : Int))) ((geti aZ0 sZ2.2).bind fun yZ4 => cond (decide ((IntKind.wrap .i64 (sZ2.1 - (yZ4.size : Int))) < 0)) (some (.inr (.inr (-1)))) (some (.inl (IntKind.wrap .i64 (sZ2.1 - (yZ4.size : Int)), IntKind.wrap .i64 (sZ2.2 + 1))))) (some (.inr (.inl sZ2.1)))
def M_laws_szStringS (aZ0 : List ByteArray) (leftZ0 : Int) : Option Int :=
  cond (decide ((IntKind.wrap .i64 (leftZ0 - (aZ0.length : Int))) < 0)) (some (-1)) ((iter (M_laws_szStringSL1 aZ0) N0 (IntKind.wrap .i64 (leftZ0 - (aZ0.length : Int)), 0)).bind fun oZ6 => (match oZ6 with | .inl vZ7 => some vZ7 | .inr xZ8 => some xZ8))
def M_laws_szFiberS (aZ0 : List TFiber) (leftZ0 : Int) : Option Int :=
  cond (decide ((IntKind.wrap .i64 (leftZ0 - (aZ0.length : Int))) < 0)) (some (-1)) (some (IntKind.wrap .i64 (leftZ0 - (aZ0.length : Int))))
def M_laws_szNetwork (aZ0 : TNetwork) (leftZ0 : Int) : Option Int :=
  (M_laws_szStringS aZ0.Nodes leftZ0).bind fun rZ1 => cond (decide (rZ1 < 0)) (some (-1)) ((M_laws_szFiberS aZ0.Fibers rZ1).bind fun rZ3 => cond (decide (rZ3 < 0)) (some (-1)) (some rZ3))
def M_laws_szIntS (aZ0 : List Int) (leftZ0 : Int) : Option Int :=
  cond (decide ((IntKind.wrap .i64 (leftZ0 - (aZ0.length : Int))) < 0)) (some (-1)) (some (IntKind.wrap .i64 (leftZ0 - (aZ0.length : Int))))
def M_laws_szOutage (aZ0 : TOutage) (leftZ0 : Int) : Option Int :=
  (M_laws_szIntS aZ0.Down leftZ0).bind fun rZ1 => cond (decide (rZ1 < 0)) (some (-1)) (some rZ1)
def M_laws_toStringSL1 (aZ0 : List ByteArray) (sZ4 : Int × List ByteArray) : Option ((Int × List ByteArray) ⊕ (List ByteArray)) :=
  cond (decide (sZ4.1 < (aZ0.length : Int))) ((geti aZ0 sZ4.1).bind fun yZ6 => (grd (0 ≤ sZ4.1 ∧ sZ4.1 < (sZ4.2.length : Int))).bind fun kZ7 => (sZ4.2[(Int.toNat sZ4.1)]?).bind fun yZ8 => bnd (sZ4.2.set (Int.toNat sZ4.1) yZ6) fun lZ9 => some (.inl (IntKind.wrap .i64 (sZ4.1 + 1), lZ9))) (some (.inr sZ4.2))
def M_laws_toStringS (aZ0 : List ByteArray) : Option (List ByteArray) :=
  (grd (0 ≤ (aZ0.length : Int) ∧ (aZ0.length : Int) ≤ (aZ0.length : Int) ∧ (aZ0.length : Int) * ((16 : Nat) : Int) ≤ 140737488355328 ∧ (aZ0.length : Int) ≤ 9223372036854775807)).bind fun uZ1 => bnd (List.replicate (Int.toNat (aZ0.length : Int)) (⟨#[]⟩ : ByteArray)) fun lZ2 => (iter (M_laws_toStringSL1 aZ0) N0 (0, lZ2)).bind fun oZ11 => some oZ11
def M_laws_toFiber (aZ0 : TFiber) : Option TFiber :=
  some (⟨aZ0.A, aZ0.B, aZ0.Length, aZ0.Risk⟩ : TFiber)
def M_laws_toFiberSL1 (aZ0 : List TFiber) (sZ4 : Int × List TFiber) : Option ((Int × List TFiber) ⊕ (List TFiber)) :=
  cond (decide (sZ4.1 < (aZ0.length : Int))) ((geti aZ0 sZ4.1).bind fun yZ6 => (M_laws_toFiber yZ6).bind fun rZ7 => (grd (0 ≤ sZ4.1 ∧ sZ4.1 < (sZ4.2.length : Int))).bind fun kZ8 => (sZ4.2[(Int.toNat sZ4.1)]?).bind fun yZ9 => bnd (sZ4.2.set (Int.toNat sZ4.1) rZ7) fun lZ10 => some (.inl (IntKind.wrap .i64 (sZ4.1 + 1), lZ10))) (some (.inr sZ4.2))
def M_laws_toFiberS (aZ0 : List TFiber) : Option (List TFiber) :=
  (grd (0 ≤ (aZ0.length : Int) ∧ (aZ0.length : Int) ≤ (aZ0.length : Int) ∧ (aZ0.length : Int) * ((32 : Nat) : Int) ≤ 140737488355328 ∧ (aZ0.length : Int) ≤ 9223372036854775807)).bind fun uZ1 => bnd (List.replicate (Int.toNat (aZ0.length : Int)) (⟨0, 0, 0, 0⟩ : TFiber)) fun lZ2 => (iter (M_laws_toFiberSL1 aZ0) N0 (0, lZ2)).bind fun oZ12 => some oZ12
def M_laws_toNetwork (aZ0 : TNetwork) : Option TNetwork :=
  (M_laws_toStringS aZ0.Nodes).bind fun rZ1 => (M_laws_toFiberS aZ0.Fibers).bind fun rZ2 => some (⟨rZ1, rZ2⟩ : TNetwork)
def M_laws_toIntSL1 (aZ0 : List Int) (sZ4 : Int × List Int) : Option ((Int × List Int) ⊕ (List Int)) :=
  cond (decide (sZ4.1 < (aZ0.length : Int))) ((geti aZ0 sZ4.1).bind fun yZ6 => (grd (0 ≤ sZ4.1 ∧ sZ4.1 < (sZ4.2.length : Int))).bind fun kZ7 => (sZ4.2[(Int.toNat sZ4.1)]?).bind fun yZ8 => bnd (sZ4.2.set (Int.toNat sZ4.1) yZ6) fun lZ9 => some (.inl (IntKind.wrap .i64 (sZ4.1 + 1), lZ9))) (some (.inr sZ4.2))
def M_laws_toIntS (aZ0 : List Int) : Option (List Int) :=
  (grd (0 ≤ (aZ0.length : Int) ∧ (aZ0.length : Int) ≤ (aZ0.length : Int) ∧ (aZ0.length : Int) * ((8 : Nat) : Int) ≤ 140737488355328 ∧ (aZ0.length : Int) ≤ 9223372036854775807)).bind fun uZ1 => bnd (List.replicate (Int.toNat (aZ0.length : Int)) 0) fun lZ2 => (iter (M_laws_toIntSL1 aZ0) N0 (0, lZ2)).bind fun oZ11 => some oZ11
def M_laws_toOutage (aZ0 : TOutage) : Option TOutage :=
  (M_laws_toIntS aZ0.Down).bind fun rZ1 => some (⟨aZ0.Unit, rZ1⟩ : TOutage)
def M_spec_l1In (xZ0 : Int) (aZ0 : Int) (bZ0 : Int) : Option Bool :=
  cond (decide (aZ0 ≤ xZ0)) (some (decide (xZ0 ≤ bZ0))) (some false)
def M_spec_l2Sign (bZ0 : Int) : Option Bool :=
  cond (decide (97 ≤ bZ0)) (cond (decide (bZ0 ≤ 122)) (some true) (cond (decide (48 ≤ bZ0)) (some (decide (bZ0 ≤ 57))) (some false))) (cond (decide (48 ≤ bZ0)) (some (decide (bZ0 ≤ 57))) (some false))
def M_spec_l2NameL1 (sZ0 : ByteArray) (sZ7 : Int) : Option (Int ⊕ (Unit ⊕ Bool)) :=
  cond (decide (sZ7 < (sZ0.size : Int))) ((getz sZ0 sZ7).bind fun yZ9 => (M_spec_l2Sign (yZ9.toNat : Int)).bind fun rZ10 => cond (!rZ10) (some (.inr (.inr false))) (some (.inl (IntKind.wrap .i64 (sZ7 + 1))))) (some (.inr (.inl ())))
def M_spec_l2Name (sZ0 : ByteArray) : Option Bool :=
  ((M_spec_l1In (sZ0.size : Int) 1 8).bind fun rZ1 => cond (!rZ1) (some true) ((getz sZ0 0).bind fun yZ3 => cond (decide ((yZ3.toNat : Int) < 97)) (some true) (some (decide (122 < (yZ3.toNat : Int))))) : Option Bool).bind fun oZ5 => cond (oZ5) (some false) ((iter (M_spec_l2NameL1 sZ0) N0 0).bind fun oZ12 => (match oZ12 with | .inl vZ13 => some true | .inr xZ14 => some xZ14))
def M_spec_l2FindL1 (listZ0 : List ByteArray) (nameZ0 : ByteArray) (sZ1 : Int) : Option (Int ⊕ (Unit ⊕ Int)) :=
  cond (decide (sZ1 < (listZ0.length : Int))) ((geti listZ0 sZ1).bind fun yZ3 => cond (yZ3.toList == nameZ0.toList) (some (.inr (.inr sZ1))) (some (.inl (IntKind.wrap .i64 (sZ1 + 1))))) (some (.inr (.inl ())))
def M_spec_l2Find (listZ0 : List ByteArray) (nameZ0 : ByteArray) : Option Int :=
  (iter (M_spec_l2FindL1 listZ0 nameZ0) N0 0).bind fun oZ5 => (match oZ5 with | .inl vZ6 => some (-1) | .inr xZ7 => some xZ7)
def M_spec_l2Fiber (fZ0 : TFiber) (nodesZ0 : Int) : Option Bool :=
  (M_spec_l1In fZ0.A 0 (IntKind.wrap .i64 (nodesZ0 - 1))).bind fun rZ1 => cond (rZ1) ((M_spec_l1In fZ0.B (IntKind.wrap .i64 (fZ0.A + 1)) (IntKind.wrap .i64 (nodesZ0 - 1))).bind fun rZ3 => cond (rZ3) ((M_spec_l1In fZ0.Length 1 5000).bind fun rZ5 => cond (rZ5) ((M_spec_l1In fZ0.Risk 0 9).bind fun rZ7 => some rZ7) (some false)) (some false)) (some false)
def M_spec_l2Before (fZ0 : TFiber) (gZ0 : TFiber) : Option Int :=
  cond (fZ0.A != gZ0.A) (some (IntKind.wrap .i64 (fZ0.A - gZ0.A))) (cond (fZ0.B != gZ0.B) (some (IntKind.wrap .i64 (fZ0.B - gZ0.B))) (cond (fZ0.Length != gZ0.Length) (some (IntKind.wrap .i64 (fZ0.Length - gZ0.Length))) (some (IntKind.wrap .i64 (fZ0.Risk - gZ0.Risk)))))
def M_spec_l2GoodL1 (nZ0 : TNetwork) (sZ5 : Int) : Option (Int ⊕ (Unit ⊕ Bool)) :=
  cond (decide (sZ5 < (nZ0.Nodes.length : Int))) (((geti nZ0.Nodes sZ5).bind fun yZ7 => (M_spec_l2Name yZ7).bind fun rZ8 => cond (!rZ8) (some true) ((M_spec_l2Find nZ0.Nodes yZ7).bind fun rZ10 => some (rZ10 != sZ5)) : Option Bool).bind fun oZ11 => cond (oZ11) (some (.inr (.inr false))) (some (.inl (IntKind.wrap .i64 (sZ5 + 1))))) (some (.inr (.inl ())))
def M_spec_l2GoodL2 (nZ0 : TNetwork) (sZ16 : Int) : Option (Int ⊕ (Unit ⊕ Bool)) :=
  cond (decide (sZ16 < (nZ0.Fibers.length : Int))) (((geti nZ0.Fibers sZ16).bind fun yZ18 => (M_spec_l2Fiber yZ18 (nZ0.Nodes.length : Int)).bind fun rZ19 => cond (!rZ19) (some true) (cond (decide (0 < sZ16)) ((geti nZ0.Fibers (IntKind.wrap .i64 (sZ16 - 1))).bind fun yZ22 => (M_spec_l2Before yZ22 yZ18).bind fun rZ23 => some (decide (0 < rZ23))) (some false)) : Option Bool).bind fun oZ24 => cond (oZ24) (some (.inr (.inr false))) (some (.inl (IntKind.wrap .i64 (sZ16 + 1))))) (some (.inr (.inl ())))
def M_spec_l2Good (nZ0 : TNetwork) : Option Bool :=
  ((M_spec_l1In (nZ0.Nodes.length : Int) 2 8).bind fun rZ1 => cond (!rZ1) (some true) (some (decide (14 < (nZ0.Fibers.length : Int)))) : Option Bool).bind fun oZ3 => cond (oZ3) (some false) ((iter (M_spec_l2GoodL1 nZ0) N0 0).bind fun oZ13 => (match oZ13 with | .inl vZ14 => (iter (M_spec_l2GoodL2 nZ0) N0 0).bind fun oZ26 => (match oZ26 with | .inl vZ27 => some true | .inr xZ28 => some xZ28) | .inr xZ15 => some xZ15))
def M_spec_l2GroupL1 (nZ0 : TNetwork) (fiberZ0 : Int) (sZ7 : Int × List Int) : Option ((Int × List Int) ⊕ (List Int)) :=
  cond (decide (sZ7.1 < (nZ0.Fibers.length : Int))) ((geti nZ0.Fibers sZ7.1).bind fun yZ9 => (geti nZ0.Fibers fiberZ0).bind fun yZ10 => cond (yZ9.Risk == yZ10.Risk) (bnd ([sZ7.1]) fun lZ12 => (grd ((sZ7.2.length + 1) * 8 ≤ 140737488355328)).bind fun uZ15 => bnd (sZ7.2 ++ lZ12) fun lZ16 => some (.inl (IntKind.wrap .i64 (sZ7.1 + 1), lZ16))) (some (.inl (IntKind.wrap .i64 (sZ7.1 + 1), sZ7.2)))) (some (.inr sZ7.2))
def M_spec_l2Group (nZ0 : TNetwork) (fiberZ0 : Int) : Option (List Int) :=
  (geti nZ0.Fibers fiberZ0).bind fun yZ1 => cond (yZ1.Risk == 0) (bnd ([fiberZ0]) fun lZ3 => some lZ3) ((iter (M_spec_l2GroupL1 nZ0 fiberZ0) N0 (0, [])).bind fun oZ19 => some oZ19)
def M_spec_l2GroupsL2 (nZ0 : TNetwork) (sZ1 : Int × List (List Int)) (sZ3 : Int) : Option (Int ⊕ (List (List Int))) :=
  cond (decide (sZ3 < (nZ0.Fibers.length : Int))) ((geti nZ0.Fibers sZ3).bind fun yZ5 => cond (yZ5.Risk == sZ1.1) ((M_spec_l2Group nZ0 sZ3).bind fun rZ7 => bnd ([rZ7]) fun lZ8 => (grd ((sZ1.2.length + 1) * 24 ≤ 140737488355328)).bind fun uZ11 => bnd (sZ1.2 ++ lZ8) fun lZ12 => some (.inr lZ12)) (some (.inl (IntKind.wrap .i64 (sZ3 + 1))))) (some (.inr sZ1.2))
def M_spec_l2GroupsL1 (nZ0 : TNetwork) (sZ1 : Int × List (List Int)) : Option ((Int × List (List Int)) ⊕ (List (List Int))) :=
  cond (decide (sZ1.1 ≤ 9)) (((iter (M_spec_l2GroupsL2 nZ0 sZ1) N0 0).bind fun oZ15 => some oZ15 : Option (List (List Int))).bind fun oZ17 => some (.inl (IntKind.wrap .i64 (sZ1.1 + 1), oZ17))) (some (.inr sZ1.2))
def M_spec_l2GroupsL3 (nZ0 : TNetwork) (sZ19 : Int × List (List Int)) : Option ((Int × List (List Int)) ⊕ (List (List Int))) :=
  cond (decide (sZ19.1 < (nZ0.Fibers.length : Int))) ((geti nZ0.Fibers sZ19.1).bind fun yZ21 => cond (yZ21.Risk == 0) (bnd ([sZ19.1]) fun lZ23 => bnd ([lZ23]) fun lZ27 => (grd ((sZ19.2.length + 1) * 24 ≤ 140737488355328)).bind fun uZ30 => bnd (sZ19.2 ++ lZ27) fun lZ31 => some (.inl (IntKind.wrap .i64 (sZ19.1 + 1), lZ31))) (some (.inl (IntKind.wrap .i64 (sZ19.1 + 1), sZ19.2)))) (some (.inr sZ19.2))
def M_spec_l2Groups (nZ0 : TNetwork) : Option (List (List Int)) :=
  (iter (M_spec_l2GroupsL1 nZ0) N0 (1, [])).bind fun oZ18 => (iter (M_spec_l2GroupsL3 nZ0) N0 (0, oZ18)).bind fun oZ34 => some oZ34
def M_spec_l16GoodL1 (oZ0 : TOutage) (sZ8 : Int) : Option (Int ⊕ (Unit ⊕ Bool)) :=
  cond (decide (sZ8 < (oZ0.Down.length : Int))) ((geti oZ0.Down sZ8).bind fun yZ10 => (M_spec_l1In yZ10 0 oZ0.Unit).bind fun rZ11 => cond (!rZ11) (some (.inr (.inr false))) (some (.inl (IntKind.wrap .i64 (sZ8 + 1))))) (some (.inr (.inl ())))
def M_spec_l16Good (nZ0 : TNetwork) (oZ0 : TOutage) : Option Bool :=
  ((M_spec_l2Good nZ0).bind fun rZ1 => cond (!rZ1) (some true) ((M_spec_l1In oZ0.Unit 2 20).bind fun rZ3 => cond (!rZ3) (some true) ((M_spec_l2Groups nZ0).bind fun rZ5 => some ((oZ0.Down.length : Int) != (rZ5.length : Int)))) : Option Bool).bind fun oZ6 => cond (oZ6) (some false) ((iter (M_spec_l16GoodL1 oZ0) N0 0).bind fun oZ13 => (match oZ13 with | .inl vZ14 => some true | .inr xZ15 => some xZ15))
def M_spec_l6Ends (nZ0 : TNetwork) (fromZ0 : Int) (toZ0 : Int) : Option Bool :=
  (M_spec_l2Good nZ0).bind fun rZ1 => cond (rZ1) ((M_spec_l1In fromZ0 0 (IntKind.wrap .i64 ((nZ0.Nodes.length : Int) - 1))).bind fun rZ3 => cond (rZ3) ((M_spec_l1In toZ0 0 (IntKind.wrap .i64 ((nZ0.Nodes.length : Int) - 1))).bind fun rZ5 => cond (rZ5) (some (fromZ0 != toZ0)) (some false)) (some false)) (some false)
def M_spec_l1Own (lZ0 : List Int) : Option (List Int) :=
  (grd (lZ0.length * 8 ≤ 140737488355328)).bind fun uZ1 => some lZ0
def M_spec_l16With (oZ0 : TOutage) (groupZ0 : Int) (downZ0 : Int) : Option TOutage :=
  (M_spec_l1Own oZ0.Down).bind fun rZ1 => (grd (0 ≤ groupZ0 ∧ groupZ0 < (rZ1.length : Int))).bind fun kZ2 => (rZ1[(Int.toNat groupZ0)]?).bind fun yZ3 => bnd (rZ1.set (Int.toNat groupZ0) downZ0) fun lZ4 => some (⟨oZ0.Unit, lZ4⟩ : TOutage)
def M_spec_l6MaskL1 (listZ0 : List Int) (sZ1 : Int × Int) : Option ((Int × Int) ⊕ Int) :=
  cond (decide (sZ1.2 < (listZ0.length : Int))) ((geti listZ0 sZ1.2).bind fun yZ3 => (grd (0 ≤ (IntKind.wrap .u64 yZ3))).bind fun uZ4 => some (.inl (bits .or .i64 sZ1.1 (IntKind.wrap .i64 (1 * 2 ^ (min (Int.toNat (IntKind.wrap .u64 yZ3)) (IntKind.bits .i64)))), IntKind.wrap .i64 (sZ1.2 + 1)))) (some (.inr sZ1.1))
def M_spec_l6Mask (listZ0 : List Int) : Option Int :=
  (iter (M_spec_l6MaskL1 listZ0) N0 (0, 0)).bind fun oZ5 => some oZ5
def M_spec_l16GoneL1 (groupsZ0 : List (List Int)) (maskZ0 : Int) (sZ1 : Int × Int) : Option ((Int × Int) ⊕ Int) :=
  cond (decide (sZ1.2 < (groupsZ0.length : Int))) ((grd (0 ≤ (IntKind.wrap .u64 sZ1.2))).bind fun uZ3 => cond ((bits .and .i64 (Int.fdiv maskZ0 (2 ^ (min (Int.toNat (IntKind.wrap .u64 sZ1.2)) (IntKind.bits .i64)))) 1) == 1) ((geti groupsZ0 sZ1.2).bind fun yZ5 => (M_spec_l6Mask yZ5).bind fun rZ6 => some (.inl (bits .or .i64 sZ1.1 rZ6, IntKind.wrap .i64 (sZ1.2 + 1)))) (some (.inl (sZ1.1, IntKind.wrap .i64 (sZ1.2 + 1))))) (some (.inr sZ1.1))
def M_spec_l16Gone (groupsZ0 : List (List Int)) (maskZ0 : Int) : Option Int :=
  (iter (M_spec_l16GoneL1 groupsZ0 maskZ0) N0 (0, 0)).bind fun oZ7 => some oZ7
def M_spec_l1Least (aZ0 : Int) (bZ0 : Int) : Option Int :=
  cond (decide (aZ0 < bZ0)) (some aZ0) (some bZ0)
def M_spec_l6LabelsL1 (nZ0 : TNetwork) (sZ1 : Int × List Int) : Option ((Int × List Int) ⊕ (List Int)) :=
  cond (decide (sZ1.1 < (nZ0.Nodes.length : Int))) (bnd ([sZ1.1]) fun lZ3 => (grd ((sZ1.2.length + 1) * 8 ≤ 140737488355328)).bind fun uZ6 => bnd (sZ1.2 ++ lZ3) fun lZ7 => some (.inl (IntKind.wrap .i64 (sZ1.1 + 1), lZ7))) (some (.inr sZ1.2))
def M_spec_l6LabelsL3 (nZ0 : TNetwork) (goneZ0 : Int) (sZ13 : Bool × Int × List Int) : Option ((Bool × Int × List Int) ⊕ (Bool × List Int)) :=
  cond (decide (sZ13.2.1 < (nZ0.Fibers.length : Int))) ((geti nZ0.Fibers sZ13.2.1).bind fun yZ15 => ((grd (0 ≤ (IntKind.wrap .u64 sZ13.2.1))).bind fun uZ16 => cond ((bits .and .i64 (Int.fdiv goneZ0 (2 ^ (min (Int.toNat (IntKind.wrap .u64 sZ13.2.1)) (IntKind.bits .i64)))) 1) == 1) (some true) ((grd (0 ≤ yZ15.A ∧ yZ15.A < (sZ13.2.2.length : Int))).bind fun kZ18 => (sZ13.2.2[(Int.toNat yZ15.A)]?).bind fun yZ19 => (grd (0 ≤ yZ15.B ∧ yZ15.B < (sZ13.2.2.length : Int))).bind fun kZ20 => (sZ13.2.2[(Int.toNat yZ15.B)]?).bind fun yZ21 => some (yZ19 == yZ21)) : Option Bool).bind fun oZ22 => cond (oZ22) (some (.inl (sZ13.1, IntKind.wrap .i64 (sZ13.2.1 + 1), sZ13.2.2))) ((grd (0 ≤ yZ15.A ∧ yZ15.A < (sZ13.2.2.length : Int))).bind fun kZ24 => (sZ13.2.2[(Int.toNat yZ15.A)]?).bind fun yZ25 => (grd (0 ≤ yZ15.B ∧ yZ15.B < (sZ13.2.2.length : Int))).bind fun kZ26 => (sZ13.2.2[(Int.toNat yZ15.B)]?).bind fun yZ27 => (M_spec_l1Least yZ25 yZ27).bind fun rZ28 => bnd (sZ13.2.2.set (Int.toNat yZ15.A) rZ28) fun lZ29 => (lZ29[(Int.toNat yZ15.B)]?).bind fun yZ31 => bnd (lZ29.set (Int.toNat yZ15.B) rZ28) fun lZ32 => some (.inl (true, IntKind.wrap .i64 (sZ13.2.1 + 1), lZ32)))) (some (.inr (sZ13.1, sZ13.2.2)))
def M_spec_l6LabelsL2 (nZ0 : TNetwork) (goneZ0 : Int) (sZ11 : Bool × List Int) : Option ((Bool × List Int) ⊕ (List Int)) :=
  cond (sZ11.1) ((iter (M_spec_l6LabelsL3 nZ0 goneZ0) N0 (false, 0, sZ11.2)).bind fun oZ34 => some (.inl (oZ34.1, oZ34.2))) (some (.inr sZ11.2))
def M_spec_l6Labels (nZ0 : TNetwork) (goneZ0 : Int) : Option (List Int) :=
  (iter (M_spec_l6LabelsL1 nZ0) N0 (0, [])).bind fun oZ10 => (iter (M_spec_l6LabelsL2 nZ0 goneZ0) N0 (true, oZ10)).bind fun oZ36 => some oZ36
def M_spec_l16WeightL1 (oZ0 : TOutage) (maskZ0 : Int) (sZ1 : Int × Int) : Option ((Int × Int) ⊕ Int) :=
  cond (decide (sZ1.2 < (oZ0.Down.length : Int))) ((grd (0 ≤ (IntKind.wrap .u64 sZ1.2))).bind fun uZ3 => cond ((bits .and .i64 (Int.fdiv maskZ0 (2 ^ (min (Int.toNat (IntKind.wrap .u64 sZ1.2)) (IntKind.bits .i64)))) 1) == 1) ((geti oZ0.Down sZ1.2).bind fun yZ5 => some (.inl (IntKind.wrap .i64 (sZ1.1 * yZ5), IntKind.wrap .i64 (sZ1.2 + 1)))) ((geti oZ0.Down sZ1.2).bind fun yZ6 => some (.inl (IntKind.wrap .i64 (sZ1.1 * (IntKind.wrap .i64 (oZ0.Unit - yZ6))), IntKind.wrap .i64 (sZ1.2 + 1))))) (some (.inr sZ1.1))
def M_spec_l16Weight (oZ0 : TOutage) (maskZ0 : Int) : Option Int :=
  (iter (M_spec_l16WeightL1 oZ0 maskZ0) N0 (1, 0)).bind fun oZ7 => some oZ7
def M_spec_l16ConnectedL2 (rZ6 : List Int) (sZ14 : Bool × Int) : Option ((Bool × Int) ⊕ Bool) :=
  cond (decide (sZ14.2 < (rZ6.length : Int))) (cond (sZ14.1) ((grd (0 ≤ sZ14.2 ∧ sZ14.2 < (rZ6.length : Int))).bind fun kZ17 => (rZ6[(Int.toNat sZ14.2)]?).bind fun yZ18 => some (.inl (yZ18 == 0, IntKind.wrap .i64 (sZ14.2 + 1)))) (some (.inl (false, IntKind.wrap .i64 (sZ14.2 + 1))))) (some (.inr sZ14.1))
def M_spec_l16ConnectedL1 (nZ0 : TNetwork) (oZ0 : TOutage) (fromZ0 : Int) (toZ0 : Int) (rZ1 : List (List Int)) (sZ2 : Int × Int) : Option ((Int × Int) ⊕ Int) :=
  (grd (0 ≤ (IntKind.wrap .u64 (rZ1.length : Int)))).bind fun uZ3 => cond (decide (sZ2.2 < (IntKind.wrap .i64 (1 * 2 ^ (min (Int.toNat (IntKind.wrap .u64 (rZ1.length : Int))) (IntKind.bits .i64)))))) ((M_spec_l16Gone rZ1 sZ2.2).bind fun rZ5 => (M_spec_l6Labels nZ0 rZ5).bind fun rZ6 => (cond (decide (0 ≤ fromZ0)) ((grd (0 ≤ fromZ0 ∧ fromZ0 < (rZ6.length : Int))).bind fun kZ8 => (rZ6[(Int.toNat fromZ0)]?).bind fun yZ9 => (grd (0 ≤ toZ0 ∧ toZ0 < (rZ6.length : Int))).bind fun kZ10 => (rZ6[(Int.toNat toZ0)]?).bind fun yZ11 => some (yZ9 == yZ11)) (some false) : Option Bool).bind fun oZ12 => (cond (decide (fromZ0 < 0)) ((iter (M_spec_l16ConnectedL2 rZ6) N0 (true, 0)).bind fun oZ19 => some oZ19) (some oZ12) : Option Bool).bind fun oZ21 => cond (oZ21) ((M_spec_l16Weight oZ0 sZ2.2).bind fun rZ23 => some (.inl (IntKind.wrap .i64 (sZ2.1 + rZ23), IntKind.wrap .i64 (sZ2.2 + 1)))) (some (.inl (sZ2.1, IntKind.wrap .i64 (sZ2.2 + 1))))) (some (.inr sZ2.1))
def M_spec_l16Connected (nZ0 : TNetwork) (oZ0 : TOutage) (fromZ0 : Int) (toZ0 : Int) : Option Int :=
  (M_spec_l2Groups nZ0).bind fun rZ1 => (iter (M_spec_l16ConnectedL1 nZ0 oZ0 fromZ0 toZ0 rZ1) N0 (0, 0)).bind fun oZ24 => some oZ24
def M_spec_GroupImportance (nZ0 : TNetwork) (oZ0 : TOutage) (fromZ0 : Int) (toZ0 : Int) (groupZ0 : Int) : Option (Int × Bool) :=
  ((M_spec_l16Good nZ0 oZ0).bind fun rZ1 => cond (!rZ1) (some true) ((M_spec_l6Ends nZ0 fromZ0 toZ0).bind fun rZ3 => cond (!rZ3) (some true) ((M_spec_l1In groupZ0 0 (IntKind.wrap .i64 ((oZ0.Down.length : Int) - 1))).bind fun rZ5 => some (!rZ5))) : Option Bool).bind fun oZ6 => cond (oZ6) (some (0, false)) ((M_spec_l16With oZ0 groupZ0 0).bind fun rZ8 => (M_spec_l16Connected nZ0 (⟨rZ8.Unit, rZ8.Down⟩ : TOutage) fromZ0 toZ0).bind fun rZ9 => (M_spec_l16With oZ0 groupZ0 oZ0.Unit).bind fun rZ10 => (M_spec_l16Connected nZ0 (⟨rZ10.Unit, rZ10.Down⟩ : TOutage) fromZ0 toZ0).bind fun rZ11 => some ((IntKind.wrap .i64 (rZ9 - rZ11)), true))
def M_impl_within (nZ0 : Int) (lowZ0 : Int) (highZ0 : Int) : Option Bool :=
  cond (decide (lowZ0 ≤ nZ0)) (some (decide (nZ0 ≤ highZ0))) (some false)
def M_impl_isNameL1 (sZ0 : ByteArray) (sZ1 : Int) : Option (Int ⊕ (Unit ⊕ Bool)) :=
  cond (decide (sZ1 < (sZ0.size : Int))) (((getz sZ0 sZ1).bind fun yZ3 => cond (decide (97 ≤ (yZ3.toNat : Int))) (cond (decide (48 ≤ (yZ3.toNat : Int))) (some (decide ((yZ3.toNat : Int) ≤ 122), decide ((yZ3.toNat : Int) ≤ 57))) (some (decide ((yZ3.toNat : Int) ≤ 122), false))) (cond (decide (48 ≤ (yZ3.toNat : Int))) (some (false, decide ((yZ3.toNat : Int) ≤ 57))) (some (false, false))) : Option (Bool × Bool)).bind fun oZ7 => cond (!oZ7.1) (cond (!oZ7.2) (some (.inr (.inr false))) (cond (sZ1 == 0) (some (.inr (.inr false))) (some (.inl (IntKind.wrap .i64 (sZ1 + 1)))))) (some (.inl (IntKind.wrap .i64 (sZ1 + 1))))) (some (.inr (.inl ())))
def M_impl_isName (sZ0 : ByteArray) : Option Bool :=
  (iter (M_impl_isNameL1 sZ0) N0 0).bind fun oZ11 => (match oZ11 with | .inl vZ12 => (M_impl_within (sZ0.size : Int) 1 8).bind fun rZ14 => some rZ14 | .inr xZ13 => some xZ13)
def M_slices_Index_Lstring_stringL1 (sZ0 : List ByteArray) (vZ0 : ByteArray) (sZ1 : Int) : Option (Int ⊕ (Unit ⊕ Int)) :=
  cond (decide (sZ1 < (sZ0.length : Int))) ((geti sZ0 sZ1).bind fun yZ3 => cond (vZ0.toList == yZ3.toList) (some (.inr (.inr sZ1))) (some (.inl (IntKind.wrap .i64 (sZ1 + 1))))) (some (.inr (.inl ())))
def M_slices_Index_Lstring_string (sZ0 : List ByteArray) (vZ0 : ByteArray) : Option Int :=
  (iter (M_slices_Index_Lstring_stringL1 sZ0 vZ0) N0 0).bind fun oZ5 => (match oZ5 with | .inl vZ6 => some (-1) | .inr xZ7 => some xZ7)
def M_slices_Contains_Lstring_string (sZ0 : List ByteArray) (vZ0 : ByteArray) : Option Bool :=
  (M_slices_Index_Lstring_string sZ0 vZ0).bind fun rZ1 => some (decide (0 ≤ rZ1))
def M_cmp_isNaN_int (xZ0 : Int) : Option Bool :=
  some (xZ0 != xZ0)
def M_cmp_Compare_int (xZ0 : Int) (yZ0 : Int) : Option Int :=
  (M_cmp_isNaN_int xZ0).bind fun rZ1 => (M_cmp_isNaN_int yZ0).bind fun rZ2 => cond (rZ1) (cond (rZ2) (some 0) (some (-1))) (cond (rZ2) (some 1) (cond (decide (xZ0 < yZ0)) (some (-1)) (cond (decide (yZ0 < xZ0)) (some 1) (some 0))))
def M_cmp_Or_intL1 (valsZ0 : List Int) (sZ1 : Int) : Option (Int ⊕ (Unit ⊕ Int)) :=
  cond (decide (sZ1 < (valsZ0.length : Int))) ((geti valsZ0 sZ1).bind fun yZ3 => cond (yZ3 != 0) (some (.inr (.inr yZ3))) (some (.inl (IntKind.wrap .i64 (sZ1 + 1))))) (some (.inr (.inl ())))
def M_cmp_Or_int (valsZ0 : List Int) : Option Int :=
  (iter (M_cmp_Or_intL1 valsZ0) N0 0).bind fun oZ5 => (match oZ5 with | .inl vZ6 => some 0 | .inr xZ7 => some xZ7)
def M_impl_compareFibers (aZ0 : TFiber) (bZ0 : TFiber) : Option Int :=
  (M_cmp_Compare_int aZ0.A bZ0.A).bind fun rZ1 => (M_cmp_Compare_int aZ0.B bZ0.B).bind fun rZ2 => (M_cmp_Compare_int aZ0.Length bZ0.Length).bind fun rZ3 => (M_cmp_Compare_int aZ0.Risk bZ0.Risk).bind fun rZ4 => bnd ([rZ1, rZ2, rZ3, rZ4]) fun lZ5 => (M_cmp_Or_int lZ5).bind fun rZ9 => some rZ9
def M_impl_IsValidNetworkL1 (nZ0 : TNetwork) (sZ1 : Int) : Option (Int ⊕ (Unit ⊕ Bool)) :=
  cond (decide (sZ1 < (nZ0.Nodes.length : Int))) ((geti nZ0.Nodes sZ1).bind fun yZ3 => (M_impl_isName yZ3).bind fun rZ4 => cond (!rZ4) (some (.inr (.inr false))) ((slT nZ0.Nodes sZ1).bind fun lZ6 => (M_slices_Contains_Lstring_string lZ6 yZ3).bind fun rZ7 => cond (rZ7) (some (.inr (.inr false))) (some (.inl (IntKind.wrap .i64 (sZ1 + 1)))))) (some (.inr (.inl ())))
def M_impl_IsValidNetworkL2 (nZ0 : TNetwork) (sZ12 : Int) : Option (Int ⊕ (Unit ⊕ Bool)) :=
  cond (decide (sZ12 < (nZ0.Fibers.length : Int))) ((geti nZ0.Fibers sZ12).bind fun yZ14 => cond (decide (yZ14.A < 0)) (some (.inr (.inr false))) (cond (decide (yZ14.B ≤ yZ14.A)) (some (.inr (.inr false))) (cond (decide ((nZ0.Nodes.length : Int) ≤ yZ14.B)) (some (.inr (.inr false))) ((M_impl_within yZ14.Length 1 5000).bind fun rZ18 => cond (!rZ18) (some (.inr (.inr false))) ((M_impl_within yZ14.Risk 0 9).bind fun rZ20 => cond (!rZ20) (some (.inr (.inr false))) (cond (decide (0 < sZ12)) ((geti nZ0.Fibers (IntKind.wrap .i64 (sZ12 - 1))).bind fun yZ23 => (M_impl_compareFibers yZ23 yZ14).bind fun rZ24 => cond (decide (0 < rZ24)) (some (.inr (.inr false))) (some (.inl (IntKind.wrap .i64 (sZ12 + 1))))) (some (.inl (IntKind.wrap .i64 (sZ12 + 1)))))))))) (some (.inr (.inl ())))
def M_impl_IsValidNetwork (nZ0 : TNetwork) : Option Bool :=
  (iter (M_impl_IsValidNetworkL1 nZ0) N0 0).bind fun oZ9 => (match oZ9 with | .inl vZ10 => (iter (M_impl_IsValidNetworkL2 nZ0) N0 0).bind fun oZ26 => (match oZ26 with | .inl vZ27 => (M_impl_within (nZ0.Nodes.length : Int) 2 8).bind fun rZ29 => cond (rZ29) (some (decide ((nZ0.Fibers.length : Int) ≤ 14))) (some false) | .inr xZ28 => some xZ28) | .inr xZ11 => some xZ11)
def M_impl_groupsL2 (nZ0 : TNetwork) (sZ1 : Int × List (List Int)) (sZ3 : Int × List Int) : Option ((Int × List Int) ⊕ (List Int)) :=
  cond (decide (sZ3.1 < (nZ0.Fibers.length : Int))) ((geti nZ0.Fibers sZ3.1).bind fun yZ5 => cond (yZ5.Risk == sZ1.1) (bnd ([sZ3.1]) fun lZ7 => (grd ((sZ3.2.length + 1) * 8 ≤ 140737488355328)).bind fun uZ10 => bnd (sZ3.2 ++ lZ7) fun lZ11 => some (.inl (IntKind.wrap .i64 (sZ3.1 + 1), lZ11))) (some (.inl (IntKind.wrap .i64 (sZ3.1 + 1), sZ3.2)))) (some (.inr sZ3.2))
def M_impl_groupsL1 (nZ0 : TNetwork) (sZ1 : Int × List (List Int)) : Option ((Int × List (List Int)) ⊕ (List (List Int))) :=
  cond (decide (sZ1.1 ≤ 9)) ((iter (M_impl_groupsL2 nZ0 sZ1) N0 (0, [])).bind fun oZ14 => cond (decide (0 < (oZ14.length : Int))) (bnd ([oZ14]) fun lZ16 => (grd ((sZ1.2.length + 1) * 24 ≤ 140737488355328)).bind fun uZ19 => bnd (sZ1.2 ++ lZ16) fun lZ20 => some (.inl (IntKind.wrap .i64 (sZ1.1 + 1), lZ20))) (some (.inl (IntKind.wrap .i64 (sZ1.1 + 1), sZ1.2)))) (some (.inr sZ1.2))
def M_impl_groupsL3 (nZ0 : TNetwork) (sZ24 : Int × List (List Int)) : Option ((Int × List (List Int)) ⊕ (List (List Int))) :=
  cond (decide (sZ24.1 < (nZ0.Fibers.length : Int))) ((geti nZ0.Fibers sZ24.1).bind fun yZ26 => cond (yZ26.Risk == 0) (bnd ([sZ24.1]) fun lZ28 => bnd ([lZ28]) fun lZ32 => (grd ((sZ24.2.length + 1) * 24 ≤ 140737488355328)).bind fun uZ35 => bnd (sZ24.2 ++ lZ32) fun lZ36 => some (.inl (IntKind.wrap .i64 (sZ24.1 + 1), lZ36))) (some (.inl (IntKind.wrap .i64 (sZ24.1 + 1), sZ24.2)))) (some (.inr sZ24.2))
def M_impl_groups (nZ0 : TNetwork) : Option (List (List Int)) :=
  (iter (M_impl_groupsL1 nZ0) N0 (1, [])).bind fun oZ23 => (iter (M_impl_groupsL3 nZ0) N0 (0, oZ23)).bind fun oZ39 => some oZ39
def M_impl_IsValidOutage_c1 (dZ0 : Int) (p1Z0 : TOutage) : Option Bool :=
  (M_impl_within dZ0 0 p1Z0.Unit).bind fun rZ1 => some (!rZ1)
def M_slices_IndexFunc_Lint_intL1 (sZ0 : List Int) (fZ0 : Int → Option Bool) (sZ1 : Int) : Option (Int ⊕ (Unit ⊕ Int)) :=
  cond (decide (sZ1 < (sZ0.length : Int))) ((geti sZ0 sZ1).bind fun yZ3 => (fZ0 yZ3).bind fun rZ4 => cond (rZ4) (some (.inr (.inr sZ1))) (some (.inl (IntKind.wrap .i64 (sZ1 + 1))))) (some (.inr (.inl ())))
def M_slices_IndexFunc_Lint_int (sZ0 : List Int) (fZ0 : Int → Option Bool) : Option Int :=
  (iter (M_slices_IndexFunc_Lint_intL1 sZ0 fZ0) N0 0).bind fun oZ6 => (match oZ6 with | .inl vZ7 => some (-1) | .inr xZ8 => some xZ8)
def M_slices_ContainsFunc_Lint_int (sZ0 : List Int) (fZ0 : Int → Option Bool) : Option Bool :=
  (M_slices_IndexFunc_Lint_int sZ0 fZ0).bind fun rZ1 => some (decide (0 ≤ rZ1))
def M_impl_IsValidOutage (nZ0 : TNetwork) (oZ0 : TOutage) : Option Bool :=
  (M_impl_IsValidNetwork nZ0).bind fun rZ1 => cond (rZ1) ((M_impl_within oZ0.Unit 2 20).bind fun rZ3 => cond (rZ3) ((M_impl_groups nZ0).bind fun rZ5 => cond ((oZ0.Down.length : Int) == (rZ5.length : Int)) ((M_slices_ContainsFunc_Lint_int oZ0.Down (fun x0 => M_impl_IsValidOutage_c1 x0 oZ0)).bind fun rZ7 => some (!rZ7)) (some false)) (some false)) (some false)
def M_impl_isNode_c1 (vZ0 : Int) (p1Z0 : TNetwork) : Option Bool :=
  (M_impl_within vZ0 0 (IntKind.wrap .i64 ((p1Z0.Nodes.length : Int) - 1))).bind fun rZ1 => some (!rZ1)
def M_impl_isNode (nZ0 : TNetwork) (nodesZ0 : List Int) : Option Bool :=
  (M_impl_IsValidNetwork nZ0).bind fun rZ1 => cond (rZ1) ((M_slices_ContainsFunc_Lint_int nodesZ0 (fun x0 => M_impl_isNode_c1 x0 nZ0)).bind fun rZ3 => some (!rZ3)) (some false)
def M_impl_isConnection (nZ0 : TNetwork) (oZ0 : TOutage) (fromZ0 : Int) (toZ0 : Int) : Option Bool :=
  (M_impl_IsValidOutage nZ0 oZ0).bind fun rZ1 => cond (rZ1) (bnd ([fromZ0, toZ0]) fun lZ3 => (M_impl_isNode nZ0 lZ3).bind fun rZ7 => cond (rZ7) (some (fromZ0 != toZ0)) (some false)) (some false)
def M_impl_copyInts (lZ0 : List Int) : Option (List Int) :=
  (grd (lZ0.length * 8 ≤ 140737488355328)).bind fun uZ1 => some lZ0
def M_slices_Index_Lint_intL1 (sZ0 : List Int) (vZ0 : Int) (sZ1 : Int) : Option (Int ⊕ (Unit ⊕ Int)) :=
  cond (decide (sZ1 < (sZ0.length : Int))) ((geti sZ0 sZ1).bind fun yZ3 => cond (vZ0 == yZ3) (some (.inr (.inr sZ1))) (some (.inl (IntKind.wrap .i64 (sZ1 + 1))))) (some (.inr (.inl ())))
def M_slices_Index_Lint_int (sZ0 : List Int) (vZ0 : Int) : Option Int :=
  (iter (M_slices_Index_Lint_intL1 sZ0 vZ0) N0 0).bind fun oZ5 => (match oZ5 with | .inl vZ6 => some (-1) | .inr xZ7 => some xZ7)
def M_slices_Contains_Lint_int (sZ0 : List Int) (vZ0 : Int) : Option Bool :=
  (M_slices_Index_Lint_int sZ0 vZ0).bind fun rZ1 => some (decide (0 ≤ rZ1))
def M_impl_componentsL1 (nZ0 : TNetwork) (sZ1 : Int × List Int) : Option ((Int × List Int) ⊕ (List Int)) :=
  cond (decide (sZ1.1 < (nZ0.Nodes.length : Int))) (bnd ([sZ1.1]) fun lZ3 => (grd ((sZ1.2.length + 1) * 8 ≤ 140737488355328)).bind fun uZ6 => bnd (sZ1.2 ++ lZ3) fun lZ7 => some (.inl (IntKind.wrap .i64 (sZ1.1 + 1), lZ7))) (some (.inr sZ1.2))
def M_impl_componentsL3 (nZ0 : TNetwork) (goneZ0 : List Int) (sZ13 : Int × List Int) : Option ((Int × List Int) ⊕ (List Int)) :=
  cond (decide (sZ13.1 < (nZ0.Fibers.length : Int))) ((geti nZ0.Fibers sZ13.1).bind fun yZ15 => (M_slices_Contains_Lint_int goneZ0 sZ13.1).bind fun rZ16 => cond (!rZ16) ((grd (0 ≤ yZ15.A ∧ yZ15.A < (sZ13.2.length : Int))).bind fun kZ18 => (sZ13.2[(Int.toNat yZ15.A)]?).bind fun yZ19 => (grd (0 ≤ yZ15.B ∧ yZ15.B < (sZ13.2.length : Int))).bind fun kZ20 => (sZ13.2[(Int.toNat yZ15.B)]?).bind fun yZ21 => bnd (sZ13.2.set (Int.toNat yZ15.A) (if yZ21 < yZ19 then yZ21 else yZ19)) fun lZ22 => (lZ22[(Int.toNat yZ15.B)]?).bind fun yZ24 => bnd (lZ22.set (Int.toNat yZ15.B) (if yZ21 < yZ19 then yZ21 else yZ19)) fun lZ25 => some (.inl (IntKind.wrap .i64 (sZ13.1 + 1), lZ25))) (some (.inl (IntKind.wrap .i64 (sZ13.1 + 1), sZ13.2)))) (some (.inr sZ13.2))
def M_impl_componentsL2 (nZ0 : TNetwork) (goneZ0 : List Int) (sZ11 : Int × List Int) : Option ((Int × List Int) ⊕ (List Int)) :=
  cond (decide (sZ11.1 < (nZ0.Nodes.length : Int))) (((iter (M_impl_componentsL3 nZ0 goneZ0) N0 (0, sZ11.2)).bind fun oZ27 => some oZ27 : Option (List Int)).bind fun oZ29 => some (.inl (IntKind.wrap .i64 (sZ11.1 + 1), oZ29))) (some (.inr sZ11.2))
def M_impl_components (nZ0 : TNetwork) (goneZ0 : List Int) : Option (List Int) :=
  (iter (M_impl_componentsL1 nZ0) N0 (0, [])).bind fun oZ10 => (iter (M_impl_componentsL2 nZ0 goneZ0) N0 (0, oZ10)).bind fun oZ30 => some oZ30
def M_impl_Outage_connection_c1 (goneZ0 : List Int) (p1Z0 : TNetwork) (p2Z0 : Int) (p3Z0 : Int) : Option Bool :=
  (M_impl_components p1Z0 goneZ0).bind fun rZ1 => (grd (0 ≤ p2Z0 ∧ p2Z0 < (rZ1.length : Int))).bind fun kZ2 => (rZ1[(Int.toNat p2Z0)]?).bind fun yZ3 => (grd (0 ≤ p3Z0 ∧ p3Z0 < (rZ1.length : Int))).bind fun kZ4 => (rZ1[(Int.toNat p3Z0)]?).bind fun yZ5 => some (yZ3 == yZ5)
def M_impl_Outage_weightL1 (oZ0 : TOutage) (setZ0 : Int) (sZ1 : Int × Int) : Option ((Int × Int) ⊕ Int) :=
  cond (decide (sZ1.2 < (oZ0.Down.length : Int))) ((geti oZ0.Down sZ1.2).bind fun yZ3 => (grd (0 ≤ sZ1.2)).bind fun uZ4 => cond ((bits .and .i64 (Int.fdiv setZ0 (2 ^ (min (Int.toNat sZ1.2) (IntKind.bits .i64)))) 1) == 1) (some (.inl (IntKind.wrap .i64 (sZ1.1 * yZ3), IntKind.wrap .i64 (sZ1.2 + 1)))) (some (.inl (IntKind.wrap .i64 (sZ1.1 * (IntKind.wrap .i64 (oZ0.Unit - yZ3))), IntKind.wrap .i64 (sZ1.2 + 1))))) (some (.inr sZ1.1))
def M_impl_Outage_weight (oZ0 : TOutage) (setZ0 : Int) : Option Int :=
  (iter (M_impl_Outage_weightL1 oZ0 setZ0) N0 (1, 0)).bind fun oZ6 => some oZ6
def M_impl_Outage_chanceL2 (rZ1 : List (List Int)) (sZ3 : Int × Int) (sZ7 : Int × List Int) : Option ((Int × List Int) ⊕ (List Int)) :=
  cond (decide (sZ7.1 < (rZ1.length : Int))) ((grd (0 ≤ sZ7.1 ∧ sZ7.1 < (rZ1.length : Int))).bind fun kZ9 => (rZ1[(Int.toNat sZ7.1)]?).bind fun yZ10 => (grd (0 ≤ sZ7.1)).bind fun uZ11 => cond ((bits .and .i64 (Int.fdiv sZ3.2 (2 ^ (min (Int.toNat sZ7.1) (IntKind.bits .i64)))) 1) == 1) ((grd ((sZ7.2.length + yZ10.length) * 8 ≤ 140737488355328)).bind fun uZ13 => bnd (sZ7.2 ++ yZ10) fun lZ14 => some (.inl (IntKind.wrap .i64 (sZ7.1 + 1), lZ14))) (some (.inl (IntKind.wrap .i64 (sZ7.1 + 1), sZ7.2)))) (some (.inr sZ7.2))
def M_impl_Outage_chanceL1 (oZ0 : TOutage) (holdsZ0 : (List Int) → Option Bool) (rZ1 : List (List Int)) (sZ3 : Int × Int) : Option ((Int × Int) ⊕ Int) :=
  cond (decide (sZ3.2 < (IntKind.wrap .i64 (1 * 2 ^ (min rZ1.length (IntKind.bits .i64)))))) ((M_impl_Outage_weight oZ0 sZ3.2).bind fun rZ5 => cond (rZ5 == 0) (some (.inl (sZ3.1, IntKind.wrap .i64 (sZ3.2 + 1)))) ((iter (M_impl_Outage_chanceL2 rZ1 sZ3) N0 (0, [])).bind fun oZ17 => (holdsZ0 oZ17).bind fun rZ18 => cond (rZ18) (some (.inl (IntKind.wrap .i64 (sZ3.1 + rZ5), IntKind.wrap .i64 (sZ3.2 + 1)))) (some (.inl (sZ3.1, IntKind.wrap .i64 (sZ3.2 + 1)))))) (some (.inr sZ3.1))
def M_impl_Outage_chance (oZ0 : TOutage) (nZ0 : TNetwork) (holdsZ0 : (List Int) → Option Bool) : Option Int :=
  (M_impl_groups nZ0).bind fun rZ1 => (grd (0 ≤ (rZ1.length : Int))).bind fun uZ2 => (iter (M_impl_Outage_chanceL1 oZ0 holdsZ0 rZ1) N0 (0, 0)).bind fun oZ20 => some oZ20
def M_impl_Outage_connection (oZ0 : TOutage) (nZ0 : TNetwork) (fromZ0 : Int) (toZ0 : Int) : Option Int :=
  (M_impl_Outage_chance oZ0 nZ0 (fun x0 => M_impl_Outage_connection_c1 x0 nZ0 fromZ0 toZ0)).bind fun rZ1 => some rZ1
def M_impl_GroupImportance (nZ0 : TNetwork) (oZ0 : TOutage) (fromZ0 : Int) (toZ0 : Int) (groupZ0 : Int) : Option (Int × Bool) :=
  ((M_impl_isConnection nZ0 oZ0 fromZ0 toZ0).bind fun rZ1 => cond (!rZ1) (some true) ((M_impl_within groupZ0 0 (IntKind.wrap .i64 ((oZ0.Down.length : Int) - 1))).bind fun rZ3 => some (!rZ3)) : Option Bool).bind fun oZ4 => cond (oZ4) (some (0, false)) ((M_impl_copyInts oZ0.Down).bind fun rZ6 => (M_impl_copyInts oZ0.Down).bind fun rZ7 => (grd (0 ≤ groupZ0 ∧ groupZ0 < (rZ6.length : Int))).bind fun kZ8 => (rZ6[(Int.toNat groupZ0)]?).bind fun yZ9 => bnd (rZ6.set (Int.toNat groupZ0) 0) fun lZ10 => (grd (0 ≤ groupZ0 ∧ groupZ0 < (rZ7.length : Int))).bind fun kZ12 => (rZ7[(Int.toNat groupZ0)]?).bind fun yZ13 => bnd (rZ7.set (Int.toNat groupZ0) oZ0.Unit) fun lZ14 => (M_impl_Outage_connection (⟨oZ0.Unit, lZ10⟩ : TOutage) nZ0 fromZ0 toZ0).bind fun rZ17 => (M_impl_Outage_connection (⟨oZ0.Unit, lZ14⟩ : TOutage) nZ0 fromZ0 toZ0).bind fun rZ19 => some ((IntKind.wrap .i64 (rZ17 - rZ19)), true))
def M_laws_eqStringSL1 (aZ0 : List ByteArray) (bZ0 : List ByteArray) (sZ2 : Int) : Option (Int ⊕ (Unit ⊕ Bool)) :=
  cond (decide (sZ2 < (aZ0.length : Int))) ((geti aZ0 sZ2).bind fun yZ4 => (geti bZ0 sZ2).bind fun yZ5 => cond (!(yZ4.toList == yZ5.toList)) (some (.inr (.inr false))) (some (.inl (IntKind.wrap .i64 (sZ2 + 1))))) (some (.inr (.inl ())))
def M_laws_eqStringS (aZ0 : List ByteArray) (bZ0 : List ByteArray) : Option Bool :=
  cond ((aZ0.length : Int) != (bZ0.length : Int)) (some false) ((iter (M_laws_eqStringSL1 aZ0 bZ0) N0 0).bind fun oZ7 => (match oZ7 with | .inl vZ8 => some true | .inr xZ9 => some xZ9))
def M_laws_eqFiber (aZ0 : TFiber) (bZ0 : TFiber) : Option Bool :=
  cond (aZ0.A != bZ0.A) (some false) (cond (aZ0.B != bZ0.B) (some false) (cond (aZ0.Length != bZ0.Length) (some false) (cond (aZ0.Risk != bZ0.Risk) (some false) (some true))))
def M_laws_eqFiberSL1 (aZ0 : List TFiber) (bZ0 : List TFiber) (sZ2 : Int) : Option (Int ⊕ (Unit ⊕ Bool)) :=
  cond (decide (sZ2 < (aZ0.length : Int))) ((geti aZ0 sZ2).bind fun yZ4 => (geti bZ0 sZ2).bind fun yZ5 => (M_laws_eqFiber yZ4 yZ5).bind fun rZ6 => cond (!rZ6) (some (.inr (.inr false))) (some (.inl (IntKind.wrap .i64 (sZ2 + 1))))) (some (.inr (.inl ())))
def M_laws_eqFiberS (aZ0 : List TFiber) (bZ0 : List TFiber) : Option Bool :=
  cond ((aZ0.length : Int) != (bZ0.length : Int)) (some false) ((iter (M_laws_eqFiberSL1 aZ0 bZ0) N0 0).bind fun oZ8 => (match oZ8 with | .inl vZ9 => some true | .inr xZ10 => some xZ10))
def M_laws_eqNetwork (aZ0 : TNetwork) (bZ0 : TNetwork) : Option Bool :=
  (M_laws_eqStringS aZ0.Nodes bZ0.Nodes).bind fun rZ1 => cond (!rZ1) (some false) ((M_laws_eqFiberS aZ0.Fibers bZ0.Fibers).bind fun rZ3 => cond (!rZ3) (some false) (some true))
def M_laws_eqIntSL1 (aZ0 : List Int) (bZ0 : List Int) (sZ2 : Int) : Option (Int ⊕ (Unit ⊕ Bool)) :=
  cond (decide (sZ2 < (aZ0.length : Int))) ((geti aZ0 sZ2).bind fun yZ4 => (geti bZ0 sZ2).bind fun yZ5 => cond (yZ4 != yZ5) (some (.inr (.inr false))) (some (.inl (IntKind.wrap .i64 (sZ2 + 1))))) (some (.inr (.inl ())))
def M_laws_eqIntS (aZ0 : List Int) (bZ0 : List Int) : Option Bool :=
  cond ((aZ0.length : Int) != (bZ0.length : Int)) (some false) ((iter (M_laws_eqIntSL1 aZ0 bZ0) N0 0).bind fun oZ7 => (match oZ7 with | .inl vZ8 => some true | .inr xZ9 => some xZ9))
def M_laws_eqOutage (aZ0 : TOutage) (bZ0 : TOutage) : Option Bool :=
  cond (aZ0.Unit != bZ0.Unit) (some false) ((M_laws_eqIntS aZ0.Down bZ0.Down).bind fun rZ2 => cond (!rZ2) (some false) (some true))
def M_laws_FnExactGroupImportance (aNZ0 : TNetwork) (aOZ0 : TOutage) (aFromZ0 : Int) (aToZ0 : Int) (aGroupZ0 : Int) : Option Bool :=
  (M_laws_szNetwork aNZ0 1048576).bind fun rZ1 => cond (decide (rZ1 < 0)) (some true) ((M_laws_szOutage aOZ0 rZ1).bind fun rZ3 => cond (decide (rZ3 < 0)) (some true) ((M_laws_toNetwork aNZ0).bind fun rZ5 => (M_laws_toOutage aOZ0).bind fun rZ6 => (M_spec_GroupImportance (⟨rZ5.Nodes, rZ5.Fibers⟩ : TNetwork) (⟨rZ6.Unit, rZ6.Down⟩ : TOutage) aFromZ0 aToZ0 aGroupZ0).bind fun rZ7 => (M_laws_toNetwork aNZ0).bind fun rZ8 => (M_laws_toOutage aOZ0).bind fun rZ9 => (M_impl_GroupImportance (⟨rZ8.Nodes, rZ8.Fibers⟩ : TNetwork) (⟨rZ9.Unit, rZ9.Down⟩ : TOutage) aFromZ0 aToZ0 aGroupZ0).bind fun rZ10 => (cond (rZ10.1 != rZ7.1) (some true) (some (!(rZ10.2 == rZ7.2))) : Option Bool).bind fun oZ12 => cond (oZ12) (some false) ((M_laws_toNetwork aNZ0).bind fun rZ14 => (M_laws_eqNetwork (⟨rZ8.Nodes, rZ8.Fibers⟩ : TNetwork) (⟨rZ14.Nodes, rZ14.Fibers⟩ : TNetwork)).bind fun rZ15 => cond (!rZ15) (some false) ((M_laws_toOutage aOZ0).bind fun rZ17 => (M_laws_eqOutage (⟨rZ9.Unit, rZ9.Down⟩ : TOutage) (⟨rZ17.Unit, rZ17.Down⟩ : TOutage)).bind fun rZ18 => cond (!rZ18) (some false) (some true)))))
end Vs

namespace Vs
open Go Go.Proofs
theorem hmix : Try.prog.follows .mixedOrders = true := Try.checked.mixed
def A59L1 : ACode := (.seq (.seq (.reg [Zm 12 5,Zm 13 0,Zk 14 13,Zb 15 .lss 12 14] []) (.cond (Zt 15) .skip (.exit 0))) (.seq (.blk 1 (.seq (.reg [Zm 18 1,Zm 19 0,Zm 20 5,Zx 21 1 19 20,Zl 22 21,Zo 23 (.lenz (Zt 22)),Zb 24 .sub 18 23,Zm 1 24] []) (.seq (.reg [Zm 25 1,Zd 26 .lss 25 0] []) (.cond (Zt 26) (.seq (.reg [Zn 4 (-1)] []) .ret) .skip)))) (.reg [Zm 16 5,Zd 17 .add 16 1,Zm 5 17] [])))
def A59R2 : ACode := (.seq (.reg [Zm 27 1,Zm 4 27] []) .ret)
def A59 : ACode := (.seq (.reg [Zn 4 0] []) (.seq (.reg [Zm 6 1,Zm 7 0,Zk 8 7,Zb 9 .sub 6 8,Zm 1 9] []) (.seq (.seq (.reg [Zm 10 1,Zd 11 .lss 10 0] []) (.cond (Zt 11) (.seq (.reg [Zn 4 (-1)] []) .ret) .skip)) (.seqa (.reg [Zn 5 0] []) (.blk 0 (.loop A59L1)) [1] [] A59R2))))
def V59 : List RV := [.t 4]
theorem m59 : mtcF Try.prog 59 2 A59 V59 = true := by kernel_rfl
def A60 : ACode := (.seq (.reg [Zn 4 0] []) (.seq (.reg [Zm 5 1,Zm 6 0,Zk 7 6,Zb 8 .sub 5 7,Zm 1 8] []) (.seq (.seq (.reg [Zm 9 1,Zd 10 .lss 9 0] []) (.cond (Zt 10) (.seq (.reg [Zn 4 (-1)] []) .ret) .skip)) (.seq (.reg [Zm 11 1,Zm 4 11] []) .ret))))
def V60 : List RV := [.t 4]
theorem m60 : mtcF Try.prog 60 2 A60 V60 = true := by kernel_rfl
def A15 : ACode := (.seq (.reg [Zo 2 (.box 2 (Zt 0)),Zn 4 0] []) (.seq (.reg [Za 5 0 2,Zl 6 5,Zm 7 1,Zo 8 (.call 59 [(Zt 6), (Zt 7)]),Zm 1 8] []) (.seq (.seq (.reg [Zm 9 1,Zd 10 .lss 9 0] []) (.cond (Zt 10) (.seq (.reg [Zn 4 (-1)] []) .ret) .skip)) (.seq (.reg [Za 11 1 2,Zl 12 11,Zm 13 1,Zo 14 (.call 60 [(Zt 12), (Zt 13)]),Zm 1 14] []) (.seq (.seq (.reg [Zm 15 1,Zd 16 .lss 15 0] []) (.cond (Zt 16) (.seq (.reg [Zn 4 (-1)] []) .ret) .skip)) (.seq (.reg [Zm 17 1,Zm 4 17] []) .ret))))))
def V15 : List RV := [.t 4]
theorem m15 : mtcF Try.prog 15 2 A15 V15 = true := by kernel_rfl
def A61 : ACode := (.seq (.reg [Zn 4 0] []) (.seq (.reg [Zm 5 1,Zm 6 0,Zk 7 6,Zb 8 .sub 5 7,Zm 1 8] []) (.seq (.seq (.reg [Zm 9 1,Zd 10 .lss 9 0] []) (.cond (Zt 10) (.seq (.reg [Zn 4 (-1)] []) .ret) .skip)) (.seq (.reg [Zm 11 1,Zm 4 11] []) .ret))))
def V61 : List RV := [.t 4]
theorem m61 : mtcF Try.prog 61 2 A61 V61 = true := by kernel_rfl
def A16 : ACode := (.seq (.reg [Zo 2 (.box 2 (Zt 0)),Zn 4 0] []) (.seq (.reg [Za 5 1 2,Zl 6 5,Zm 7 1,Zo 8 (.call 61 [(Zt 6), (Zt 7)]),Zm 1 8] []) (.seq (.seq (.reg [Zm 9 1,Zd 10 .lss 9 0] []) (.cond (Zt 10) (.seq (.reg [Zn 4 (-1)] []) .ret) .skip)) (.seq (.reg [Zm 11 1,Zm 4 11] []) .ret))))
def V16 : List RV := [.t 4]
theorem m16 : mtcF Try.prog 16 2 A16 V16 = true := by kernel_rfl
def A63L1 : ACode := (.seq (.seq (.reg [Zm 8 4,Zm 9 0,Zk 10 9,Zb 11 .lss 8 10] []) (.cond (Zt 11) .skip (.exit 0))) (.seq (.blk 1 (.reg [Zm 14 3,Zm 15 4,Zm 16 0,Zm 17 4,Zx 18 1 16 17,Zl 19 18,Zx 20 1 14 15,⟨none, .store 1 (Zt 20) (Zt 19), none⟩] [])) (.reg [Zm 12 4,Zd 13 .add 12 1,Zm 4 13] [])))
def A63R2 : ACode := (.seq (.reg [Zm 21 3,Zm 2 21] [.s 2]) .ret)
def A63 : ACode := (.seq (.reg [Zo 2 (.mv (.c (.lst .u 1 [])))] [.s 2]) (.seq (.reg [Zm 5 0,Zk 6 5,Zo 7 (.mks 1 (.z ⟨#[]⟩) 16 (Zt 6) (Zt 6)),Zm 3 7] [.s 3]) (.seqa (.reg [Zn 4 0] []) (.blk 0 (.loop A63L1)) [3] [3] A63R2)))
def V63 : List RV := [.t 2]
theorem m63 : mtcF Try.prog 63 1 A63 V63 = true := by kernel_rfl
def A112 : ACode := (.seq (.reg [Zo 1 (.box 4 (Zt 0)),Zo 2 (.alloc (.agg [.i 0, .i 0, .i 0, .i 0]))] []) (.seq (.reg [Zo 3 (.alloc (.agg [.i 0, .i 0, .i 0, .i 0]))] []) (.seq (.reg [Za 4 0 1,Zl 5 4,Za 6 0 3,⟨none, .store 1 (Zt 6) (Zt 5), none⟩] []) (.seq (.reg [Za 7 1 1,Zl 8 7,Za 9 1 3,⟨none, .store 1 (Zt 9) (Zt 8), none⟩] []) (.seq (.reg [Za 10 2 1,Zl 11 10,Za 12 2 3,⟨none, .store 1 (Zt 12) (Zt 11), none⟩] []) (.seq (.reg [Za 13 3 1,Zl 14 13,Za 15 3 3,⟨none, .store 1 (Zt 15) (Zt 14), none⟩] []) (.seq (.reg [Zo 16 (.load 4 true (Zt 3)),⟨none, .store 4 (Zt 2) (Zt 16), none⟩] []) .ret)))))))
def V112 : List RV := [.c 2 4 true]
theorem m112 : mtcF Try.prog 112 1 A112 V112 = true := by kernel_rfl
def A64L1 : ACode := (.seq (.seq (.reg [Zm 8 4,Zm 9 0,Zk 10 9,Zb 11 .lss 8 10] []) (.cond (Zt 11) .skip (.exit 0))) (.seq (.blk 1 (.reg [Zm 14 3,Zm 15 4,Zm 16 0,Zm 17 4,Zx 18 4 16 17,Zo 19 (.load 4 true (Zt 18)),Zo 20 (.call 112 [(Zt 19)]),Zx 21 4 14 15,⟨none, .store 4 (Zt 21) (Zt 20), none⟩] [])) (.reg [Zm 12 4,Zd 13 .add 12 1,Zm 4 13] [])))
def A64R2 : ACode := (.seq (.reg [Zm 22 3,Zm 2 22] [.s 2]) .ret)
def A64 : ACode := (.seq (.reg [Zo 2 (.mv (.c (.lst .u 4 [])))] [.s 2]) (.seq (.reg [Zm 5 0,Zk 6 5,Zo 7 (.mks 4 (.agg [.i 0, .i 0, .i 0, .i 0]) 32 (Zt 6) (Zt 6)),Zm 3 7] [.s 3]) (.seqa (.reg [Zn 4 0] []) (.blk 0 (.loop A64L1)) [3] [3] A64R2)))
def V64 : List RV := [.t 2]
theorem m64 : mtcF Try.prog 64 1 A64 V64 = true := by kernel_rfl
def A18 : ACode := (.seq (.reg [Zo 1 (.box 2 (Zt 0)),Zo 2 (.alloc (.agg [.lst .u 1 [], .lst .u 4 []]))] []) (.seq (.reg [Zo 3 (.alloc (.agg [.lst .u 1 [], .lst .u 4 []]))] []) (.seq (.reg [Za 4 0 1,Zl 5 4,Zo 6 (.call 63 [(Zt 5)]),Za 7 0 3,⟨none, .store 1 (Zt 7) (Zt 6), none⟩] []) (.seq (.reg [Za 8 1 1,Zl 9 8,Zo 10 (.call 64 [(Zt 9)]),Za 11 1 3,⟨none, .store 1 (Zt 11) (Zt 10), none⟩] []) (.seq (.reg [Zo 12 (.load 2 true (Zt 3)),⟨none, .store 2 (Zt 2) (Zt 12), none⟩] []) .ret)))))
def V18 : List RV := [.c 2 2 true]
theorem m18 : mtcF Try.prog 18 1 A18 V18 = true := by kernel_rfl
def A26L1 : ACode := (.seq (.seq (.reg [Zm 8 4,Zm 9 0,Zk 10 9,Zb 11 .lss 8 10] []) (.cond (Zt 11) .skip (.exit 0))) (.seq (.blk 1 (.reg [Zm 14 3,Zm 15 4,Zm 16 0,Zm 17 4,Zx 18 1 16 17,Zl 19 18,Zx 20 1 14 15,⟨none, .store 1 (Zt 20) (Zt 19), none⟩] [])) (.reg [Zm 12 4,Zd 13 .add 12 1,Zm 4 13] [])))
def A26R2 : ACode := (.seq (.reg [Zm 21 3,Zm 2 21] [.s 2]) .ret)
def A26 : ACode := (.seq (.reg [Zo 2 (.mv (.c (.lst .u 1 [])))] [.s 2]) (.seq (.reg [Zm 5 0,Zk 6 5,Zo 7 (.mks 1 (.i 0) 8 (Zt 6) (Zt 6)),Zm 3 7] [.s 3]) (.seqa (.reg [Zn 4 0] []) (.blk 0 (.loop A26L1)) [3] [3] A26R2)))
def V26 : List RV := [.t 2]
theorem m26 : mtcF Try.prog 26 1 A26 V26 = true := by kernel_rfl
def A19 : ACode := (.seq (.reg [Zo 1 (.box 2 (Zt 0)),Zo 2 (.alloc (.agg [.i 0, .lst .u 1 []]))] []) (.seq (.reg [Zo 3 (.alloc (.agg [.i 0, .lst .u 1 []]))] []) (.seq (.reg [Za 4 0 1,Zl 5 4,Za 6 0 3,⟨none, .store 1 (Zt 6) (Zt 5), none⟩] []) (.seq (.reg [Za 7 1 1,Zl 8 7,Zo 9 (.call 26 [(Zt 8)]),Za 10 1 3,⟨none, .store 1 (Zt 10) (Zt 9), none⟩] []) (.seq (.reg [Zo 11 (.load 2 true (Zt 3)),⟨none, .store 2 (Zt 2) (Zt 11), none⟩] []) .ret)))))
def V19 : List RV := [.c 2 2 true]
theorem m19 : mtcF Try.prog 19 1 A19 V19 = true := by kernel_rfl
def A72 : ACode := (.seq (.reg [Zo 6 (.mv (.c (.b false)))] []) (.seq (.reg [Zm 7 0,Zm 8 1,Zb 9 .geq 7 8,Zm 10 9,⟨(some 11), .mv (Zt 0), (some (10, true))⟩,⟨(some 12), .mv (Zt 2), (some (10, true))⟩,⟨(some 13), .bin .leq (Zt 11) (Zt 12), (some (10, true))⟩,Zo 14 (.pick (Zt 10) (Zt 13) (.c (.b false))),Zm 6 14] []) .ret))
def V72 : List RV := [.t 6]
theorem m72 : mtcF Try.prog 72 3 A72 V72 = true := by kernel_rfl
def A144 : ACode := (.seq (.reg [Zo 2 (.mv (.c (.b false)))] []) (.seq (.reg [Zm 3 0,Zo 4 (.bin .geq (Zt 3) (.c (.sc (.int .u8 97)))),Zm 5 4,⟨(some 6), .mv (Zt 0), (some (5, true))⟩,⟨(some 7), .bin .leq (Zt 6) (.c (.sc (.int .u8 122))), (some (5, true))⟩,Zo 8 (.pick (Zt 5) (Zt 7) (.c (.b false))),Zm 9 8,⟨(some 10), .mv (Zt 0), (some (9, false))⟩,⟨(some 11), .bin .geq (Zt 10) (.c (.sc (.int .u8 48))), (some (9, false))⟩,⟨(some 12), .mv (Zt 11), (some (9, false))⟩,⟨(some 13), .mv (Zt 0), (some (12, true))⟩,⟨(some 14), .bin .leq (Zt 13) (.c (.sc (.int .u8 57))), (some (12, true))⟩,⟨(some 15), .pick (Zt 12) (Zt 14) (.c (.b false)), (some (9, false))⟩,Zo 16 (.pick (Zt 9) (.c (.b true)) (Zt 15)),Zm 2 16] []) .ret))
def V144 : List RV := [.t 2]
theorem m144 : mtcF Try.prog 144 1 A144 V144 = true := by kernel_rfl
def A127R1 : ACode := (.cond (Zt 17) (.seq (.reg [Zo 2 (.mv (.c (.b false)))] []) .ret) .skip)
def A127L2 : ACode := (.seq (.seq (.reg [Zm 18 3,Zm 19 0,Zo 20 (.lenz (Zt 19)),Zb 21 .lss 18 20] []) (.cond (Zt 21) .skip (.exit 0))) (.seq (.blk 1 (.seq (.reg [Zm 24 0,Zm 25 3,Zo 26 (.stri (Zt 24) (Zt 25)),Zo 27 (.call 144 [(Zt 26)]),Zo 28 (.un .not (Zt 27))] []) (.cond (Zt 28) (.seq (.reg [Zo 2 (.mv (.c (.b false)))] []) .ret) .skip))) (.reg [Zm 22 3,Zd 23 .add 22 1,Zm 3 23] [])))
def A127R3 : ACode := (.seq (.reg [Zo 2 (.mv (.c (.b true)))] []) .ret)
def A127 : ACode := (.seq (.reg [Zo 2 (.mv (.c (.b false)))] []) (.seq (.seqr (.reg [Zm 4 0,Zo 5 (.lenz (Zt 4)),Zo 6 (.call 72 [(Zt 5), (.c (.i 1)), (.c (.i 8))]),Zo 7 (.un .not (Zt 6)),Zm 8 7,⟨(some 9), .mv (Zt 0), (some (8, false))⟩,⟨(some 10), .stri (Zt 9) (.c (.i 0)), (some (8, false))⟩,⟨(some 11), .bin .lss (Zt 10) (.c (.sc (.int .u8 97))), (some (8, false))⟩,Zo 12 (.pick (Zt 8) (.c (.b true)) (Zt 11)),Zm 13 12,⟨(some 14), .mv (Zt 0), (some (13, false))⟩,⟨(some 15), .stri (Zt 14) (.c (.i 0)), (some (13, false))⟩,⟨(some 16), .bin .gtr (Zt 15) (.c (.sc (.int .u8 122))), (some (13, false))⟩,Zo 17 (.pick (Zt 13) (.c (.b true)) (Zt 16))] []) [0, 17] [] A127R1) (.seqa (.reg [Zn 3 0] []) (.blk 0 (.loop A127L2)) [] [] A127R3)))
def V127 : List RV := [.t 2]
theorem m127 : mtcF Try.prog 127 1 A127 V127 = true := by kernel_rfl
def A128L1 : ACode := (.seq (.seq (.reg [Zm 6 5,Zm 7 0,Zk 8 7,Zb 9 .lss 6 8] []) (.cond (Zt 9) .skip (.exit 0))) (.seq (.blk 1 (.seq (.reg [Zm 12 0,Zm 13 5,Zx 14 1 12 13,Zl 15 14,Zm 16 1,Zb 17 .eql 15 16] []) (.cond (Zt 17) (.seq (.reg [Zm 18 5,Zm 4 18] []) .ret) .skip))) (.reg [Zm 10 5,Zd 11 .add 10 1,Zm 5 11] [])))
def A128R2 : ACode := (.seq (.reg [Zn 4 (-1)] []) .ret)
def A128 : ACode := (.seq (.reg [Zn 4 0] []) (.seqa (.reg [Zn 5 0] []) (.blk 0 (.loop A128L1)) [] [] A128R2))
def V128 : List RV := [.t 4]
theorem m128 : mtcF Try.prog 128 2 A128 V128 = true := by kernel_rfl
def A129 : ACode := (.seq (.reg [Zo 2 (.box 4 (Zt 0)),Zo 4 (.mv (.c (.b false)))] []) (.seq (.reg [Za 5 0 2,Zl 6 5,Zm 7 1,Zd 8 .sub 7 1,Zo 9 (.call 72 [(Zt 6), (.c (.i 0)), (Zt 8)]),Zm 10 9,⟨(some 11), .fad 1 (Zt 2), (some (10, true))⟩,⟨(some 12), .load 1 false (Zt 11), (some (10, true))⟩,⟨(some 13), .fad 0 (Zt 2), (some (10, true))⟩,⟨(some 14), .load 1 false (Zt 13), (some (10, true))⟩,⟨(some 15), .bin .add (Zt 14) (.c (.i 1)), (some (10, true))⟩,⟨(some 16), .mv (Zt 1), (some (10, true))⟩,⟨(some 17), .bin .sub (Zt 16) (.c (.i 1)), (some (10, true))⟩,⟨(some 18), .call 72 [(Zt 12), (Zt 15), (Zt 17)], (some (10, true))⟩,Zo 19 (.pick (Zt 10) (Zt 18) (.c (.b false))),Zm 20 19,⟨(some 21), .fad 2 (Zt 2), (some (20, true))⟩,⟨(some 22), .load 1 false (Zt 21), (some (20, true))⟩,⟨(some 23), .call 72 [(Zt 22), (.c (.i 1)), (.c (.i 5000))], (some (20, true))⟩,Zo 24 (.pick (Zt 20) (Zt 23) (.c (.b false))),Zm 25 24,⟨(some 26), .fad 3 (Zt 2), (some (25, true))⟩,⟨(some 27), .load 1 false (Zt 26), (some (25, true))⟩,⟨(some 28), .call 72 [(Zt 27), (.c (.i 0)), (.c (.i 9))], (some (25, true))⟩,Zo 29 (.pick (Zt 25) (Zt 28) (.c (.b false))),Zm 4 29] []) .ret))
def V129 : List RV := [.t 4]
theorem m129 : mtcF Try.prog 129 2 A129 V129 = true := by kernel_rfl
def A130 : ACode := (.seq (.reg [Zo 2 (.box 4 (Zt 0)),Zo 3 (.box 4 (Zt 1)),Zn 4 0] []) (.seq (.blk 0 (.seq (.reg [Za 6 0 2,Zl 7 6,Za 8 0 3,Zl 9 8,Zb 10 .neq 7 9,Zm 5 10] []) (.cond (Zt 5) (.seq (.reg [Za 11 0 2,Zl 12 11,Za 13 0 3,Zl 14 13,Zb 15 .sub 12 14,Zm 4 15] []) .ret) (.seq (.reg [Za 17 1 2,Zl 18 17,Za 19 1 3,Zl 20 19,Zb 21 .neq 18 20,Zm 16 21] []) (.cond (Zt 16) (.seq (.reg [Za 22 1 2,Zl 23 22,Za 24 1 3,Zl 25 24,Zb 26 .sub 23 25,Zm 4 26] []) .ret) (.seq (.reg [Za 28 2 2,Zl 29 28,Za 30 2 3,Zl 31 30,Zb 32 .neq 29 31,Zm 27 32] []) (.cond (Zt 27) (.seq (.reg [Za 33 2 2,Zl 34 33,Za 35 2 3,Zl 36 35,Zb 37 .sub 34 36,Zm 4 37] []) .ret) .skip))))))) (.seq (.reg [Za 38 3 2,Zl 39 38,Za 40 3 3,Zl 41 40,Zb 42 .sub 39 41,Zm 4 42] []) .ret)))
def V130 : List RV := [.t 4]
theorem m130 : mtcF Try.prog 130 2 A130 V130 = true := by kernel_rfl
def A98R1 : ACode := (.cond (Zt 15) (.seq (.reg [Zo 2 (.mv (.c (.b false)))] []) .ret) .skip)
def A98R2 : ACode := (.cond (Zt 41) (.seq (.reg [Zo 2 (.mv (.c (.b false)))] []) .ret) .skip)
def A98L3 : ACode := (.seq (.seq (.reg [Zm 16 3,Za 17 0 1,Zl 18 17,Zk 19 18,Zb 20 .lss 16 19] []) (.cond (Zt 20) .skip (.exit 0))) (.seq (.blk 1 (.seqr (.drw [Za 23 0 1,Zl 24 23,Zm 25 3,Zx 26 1 24 25,Zl 27 26,Zo 28 (.call 127 [(Zt 27)]),Zo 29 (.un .not (Zt 28)),Zm 30 29,⟨(some 31), .fad 0 (Zt 1), (some (30, false))⟩,⟨(some 32), .load 1 false (Zt 31), (some (30, false))⟩,⟨(some 33), .fad 0 (Zt 1), (some (30, false))⟩,⟨(some 34), .load 1 false (Zt 33), (some (30, false))⟩,⟨(some 35), .mv (Zt 3), (some (30, false))⟩,⟨(some 36), .idx 1 (Zt 34) (Zt 35), (some (30, false))⟩,⟨(some 37), .load 1 false (Zt 36), (some (30, false))⟩,⟨(some 38), .call 128 [(Zt 32), (Zt 37)], (some (30, false))⟩,⟨(some 39), .mv (Zt 3), (some (30, false))⟩,⟨(some 40), .bin .neq (Zt 38) (Zt 39), (some (30, false))⟩,Zo 41 (.pick (Zt 30) (.c (.b true)) (Zt 40))] []) [1, 3, 41] [1] A98R2)) (.reg [Zm 21 3,Zd 22 .add 21 1,Zm 3 22] [])))
def A98R5 : ACode := (.cond (Zt 77) (.seq (.reg [Zo 2 (.mv (.c (.b false)))] []) .ret) .skip)
def A98L6 : ACode := (.seq (.seq (.reg [Zm 42 4,Za 43 1 1,Zl 44 43,Zk 45 44,Zb 46 .lss 42 45] []) (.cond (Zt 46) .skip (.exit 2))) (.seq (.blk 3 (.seqr (.drw [Za 49 1 1,Zl 50 49,Zm 51 4,Zx 52 4 50 51,Zo 53 (.load 4 true (Zt 52)),Za 54 0 1,Zl 55 54,Zk 56 55,Zo 57 (.call 129 [(Zt 53), (Zt 56)]),Zo 58 (.un .not (Zt 57)),Zm 59 58,⟨(some 60), .mv (Zt 4), (some (59, false))⟩,⟨(some 61), .bin .gtr (Zt 60) (.c (.i 0)), (some (59, false))⟩,⟨(some 62), .mv (Zt 61), (some (59, false))⟩,⟨(some 63), .fad 1 (Zt 1), (some (62, true))⟩,⟨(some 64), .load 1 false (Zt 63), (some (62, true))⟩,⟨(some 65), .mv (Zt 4), (some (62, true))⟩,⟨(some 66), .bin .sub (Zt 65) (.c (.i 1)), (some (62, true))⟩,⟨(some 67), .idx 4 (Zt 64) (Zt 66), (some (62, true))⟩,⟨(some 68), .load 4 true (Zt 67), (some (62, true))⟩,⟨(some 69), .fad 1 (Zt 1), (some (62, true))⟩,⟨(some 70), .load 1 false (Zt 69), (some (62, true))⟩,⟨(some 71), .mv (Zt 4), (some (62, true))⟩,⟨(some 72), .idx 4 (Zt 70) (Zt 71), (some (62, true))⟩,⟨(some 73), .load 4 true (Zt 72), (some (62, true))⟩,⟨(some 74), .call 130 [(Zt 68), (Zt 73)], (some (62, true))⟩,⟨(some 75), .bin .gtr (Zt 74) (.c (.i 0)), (some (62, true))⟩,⟨(some 76), .pick (Zt 62) (Zt 75) (.c (.b false)), (some (59, false))⟩,Zo 77 (.pick (Zt 59) (.c (.b true)) (Zt 76))] []) [1, 4, 77] [1] A98R5)) (.reg [Zm 47 4,Zd 48 .add 47 1,Zm 4 48] [])))
def A98R7 : ACode := (.seq (.reg [Zo 2 (.mv (.c (.b true)))] []) .ret)
def A98R4 : ACode := (.seqa (.reg [Zn 4 0] []) (.blk 2 (.loop A98L6)) [] [] A98R7)
def A98 : ACode := (.seq (.reg [Zo 1 (.box 2 (Zt 0)),Zo 2 (.mv (.c (.b false)))] []) (.seq (.seqr (.reg [Za 5 0 1,Zl 6 5,Zk 7 6,Zo 8 (.call 72 [(Zt 7), (.c (.i 2)), (.c (.i 8))]),Zo 9 (.un .not (Zt 8)),Zm 10 9,⟨(some 11), .fad 1 (Zt 1), (some (10, false))⟩,⟨(some 12), .load 1 false (Zt 11), (some (10, false))⟩,⟨(some 13), .len (Zt 12), (some (10, false))⟩,⟨(some 14), .bin .gtr (Zt 13) (.c (.i 14)), (some (10, false))⟩,Zo 15 (.pick (Zt 10) (.c (.b true)) (Zt 14))] []) [1, 15] [1] A98R1) (.seqa (.reg [Zn 3 0] []) (.blk 0 (.loop A98L3)) [1] [1] A98R4)))
def V98 : List RV := [.t 2]
theorem m98 : mtcF Try.prog 98 1 A98 V98 = true := by kernel_rfl
def A124L1 : ACode := (.seq (.seq (.reg [Zm 17 6,Za 18 1 2,Zl 19 18,Zk 20 19,Zb 21 .lss 17 20] []) (.cond (Zt 21) .skip (.exit 0))) (.seq (.blk 1 (.seq (.drw [Za 24 1 2,Zl 25 24,Zm 26 6,Zx 27 4 25 26,Za 28 3 27,Zl 29 28,Za 30 1 2,Zl 31 30,Zm 32 1,Zx 33 4 31 32,Za 34 3 33,Zl 35 34,Zb 36 .eql 29 35] []) (.cond (Zt 36) (.reg [Zm 37 5,Zm 38 6,Zo 39 (.bsl 1 false [(Zt 38)]),Zo 40 (.app 1 8 true (Zt 37) (Zt 39)),Zm 5 40] [.s 5]) .skip))) (.reg [Zm 22 6,Zd 23 .add 22 1,Zm 6 23] [])))
def A124R2 : ACode := (.seq (.reg [Zm 41 5,Zm 4 41] [.s 4]) .ret)
def A124 : ACode := (.seq (.reg [Zo 2 (.box 2 (Zt 0)),Zo 4 (.mv (.c (.lst .u 1 [])))] [.s 4]) (.seq (.seq (.reg [Za 7 1 2,Zl 8 7,Zm 9 1,Zx 10 4 8 9,Za 11 3 10,Zl 12 11,Zd 13 .eql 12 0] []) (.cond (Zt 13) (.seq (.reg [Zm 14 1,Zo 15 (.bsl 1 false [(Zt 14)]),Zm 4 15] [.s 4]) .ret) .skip)) (.seq (.reg [Zo 16 (.bsl 1 false []),Zm 5 16] [.s 5]) (.seqa (.reg [Zn 6 0] []) (.blk 0 (.loop A124L1)) [5] [5] A124R2))))
def V124 : List RV := [.t 4]
theorem m124 : mtcF Try.prog 124 2 A124 V124 = true := by kernel_rfl
def A92L1 : ACode := (.seq (.seq (.reg [Zm 12 5,Za 13 1 1,Zl 14 13,Zk 15 14,Zb 16 .lss 12 15] []) (.cond (Zt 16) .skip (.exit 2))) (.seq (.blk 3 (.seq (.reg [Za 19 1 1,Zl 20 19,Zm 21 5,Zx 22 4 20 21,Za 23 3 22,Zl 24 23,Zm 25 4,Zb 26 .eql 24 25] []) (.cond (Zt 26) (.seq (.reg [Zm 27 3,Zo 28 (.load 2 true (Zt 1)),Zm 29 5,Zo 30 (.call 124 [(Zt 28), (Zt 29)]),Zo 31 (.bsl 1 false [(Zt 30)]),Zo 32 (.app 1 24 true (Zt 27) (Zt 31)),Zm 3 32] [.s 3]) (.exit 2)) .skip))) (.reg [Zm 17 5,Zd 18 .add 17 1,Zm 5 18] [])))
def A92R2 : ACode := (.reg [Zm 10 4,Zd 11 .add 10 1,Zm 4 11] [])
def A92L3 : ACode := (.seq (.seq (.reg [Zm 8 4,Zd 9 .leq 8 9] []) (.cond (Zt 9) .skip (.exit 0))) (.seqr (.blk 1 (.seq (.reg [Zn 5 0] []) (.blk 2 (.loop A92L1)))) [1, 3, 4] [1, 3] A92R2))
def A92L5 : ACode := (.seq (.seq (.reg [Zm 33 6,Za 34 1 1,Zl 35 34,Zk 36 35,Zb 37 .lss 33 36] []) (.cond (Zt 37) .skip (.exit 4))) (.seq (.blk 5 (.seq (.reg [Za 40 1 1,Zl 41 40,Zm 42 6,Zx 43 4 41 42,Za 44 3 43,Zl 45 44,Zd 46 .eql 45 0] []) (.cond (Zt 46) (.reg [Zm 47 3,Zm 48 6,Zo 49 (.bsl 1 false [(Zt 48)]),Zo 50 (.bsl 1 false [(Zt 49)]),Zo 51 (.app 1 24 true (Zt 47) (Zt 50)),Zm 3 51] [.s 3]) .skip))) (.reg [Zm 38 6,Zd 39 .add 38 1,Zm 6 39] [])))
def A92R6 : ACode := (.seq (.reg [Zm 52 3,Zm 2 52] [.s 2]) .ret)
def A92R4 : ACode := (.seqa (.reg [Zn 6 0] []) (.blk 4 (.loop A92L5)) [3] [3] A92R6)
def A92 : ACode := (.seq (.reg [Zo 1 (.box 2 (Zt 0)),Zo 2 (.mv (.c (.lst .u 1 [])))] [.s 2]) (.seq (.reg [Zo 7 (.bsl 1 false []),Zm 3 7] [.s 3]) (.seqa (.reg [Zn 4 1] []) (.blk 0 (.loop A92L3)) [1, 3] [1, 3] A92R4)))
def V92 : List RV := [.t 2]
theorem m92 : mtcF Try.prog 92 1 A92 V92 = true := by kernel_rfl
def A62R1 : ACode := (.cond (Zt 23) (.seq (.reg [Zo 4 (.mv (.c (.b false)))] []) .ret) .skip)
def A62L2 : ACode := (.seq (.seq (.reg [Zm 24 5,Za 25 1 3,Zl 26 25,Zk 27 26,Zb 28 .lss 24 27] []) (.cond (Zt 28) .skip (.exit 0))) (.seq (.blk 1 (.seq (.drw [Za 31 1 3,Zl 32 31,Zm 33 5,Zx 34 1 32 33,Zl 35 34,Za 36 0 3,Zl 37 36,Zo 38 (.call 72 [(Zt 35), (.c (.i 0)), (Zt 37)]),Zo 39 (.un .not (Zt 38))] []) (.cond (Zt 39) (.seq (.reg [Zo 4 (.mv (.c (.b false)))] []) .ret) .skip))) (.reg [Zm 29 5,Zd 30 .add 29 1,Zm 5 30] [])))
def A62R3 : ACode := (.seq (.reg [Zo 4 (.mv (.c (.b true)))] []) .ret)
def A62 : ACode := (.seq (.reg [Zo 2 (.box 2 (Zt 0)),Zo 3 (.box 2 (Zt 1)),Zo 4 (.mv (.c (.b false)))] []) (.seq (.seqr (.drw [Zo 6 (.load 2 true (Zt 2)),Zo 7 (.call 98 [(Zt 6)]),Zo 8 (.un .not (Zt 7)),Zm 9 8,⟨(some 10), .fad 0 (Zt 3), (some (9, false))⟩,⟨(some 11), .load 1 false (Zt 10), (some (9, false))⟩,⟨(some 12), .call 72 [(Zt 11), (.c (.i 2)), (.c (.i 20))], (some (9, false))⟩,⟨(some 13), .un .not (Zt 12), (some (9, false))⟩,Zo 14 (.pick (Zt 9) (.c (.b true)) (Zt 13)),Zm 15 14,⟨(some 16), .fad 1 (Zt 3), (some (15, false))⟩,⟨(some 17), .load 1 false (Zt 16), (some (15, false))⟩,⟨(some 18), .len (Zt 17), (some (15, false))⟩,⟨(some 19), .load 2 true (Zt 2), (some (15, false))⟩,⟨(some 20), .call 92 [(Zt 19)], (some (15, false))⟩,⟨(some 21), .len (Zt 20), (some (15, false))⟩,⟨(some 22), .bin .neq (Zt 18) (Zt 21), (some (15, false))⟩,Zo 23 (.pick (Zt 15) (.c (.b true)) (Zt 22))] []) [3, 23] [3] A62R1) (.seqa (.reg [Zn 5 0] []) (.blk 0 (.loop A62L2)) [] [] A62R3)))
def V62 : List RV := [.t 4]
theorem m62 : mtcF Try.prog 62 2 A62 V62 = true := by kernel_rfl
def A85 : ACode := (.seq (.reg [Zo 3 (.box 2 (Zt 0)),Zo 6 (.mv (.c (.b false)))] []) (.seq (.reg [Zo 7 (.load 2 true (Zt 3)),Zo 8 (.call 98 [(Zt 7)]),Zm 9 8,⟨(some 10), .mv (Zt 1), (some (9, true))⟩,⟨(some 11), .fad 0 (Zt 3), (some (9, true))⟩,⟨(some 12), .load 1 false (Zt 11), (some (9, true))⟩,⟨(some 13), .len (Zt 12), (some (9, true))⟩,⟨(some 14), .bin .sub (Zt 13) (.c (.i 1)), (some (9, true))⟩,⟨(some 15), .call 72 [(Zt 10), (.c (.i 0)), (Zt 14)], (some (9, true))⟩,Zo 16 (.pick (Zt 9) (Zt 15) (.c (.b false))),Zm 17 16,⟨(some 18), .mv (Zt 2), (some (17, true))⟩,⟨(some 19), .fad 0 (Zt 3), (some (17, true))⟩,⟨(some 20), .load 1 false (Zt 19), (some (17, true))⟩,⟨(some 21), .len (Zt 20), (some (17, true))⟩,⟨(some 22), .bin .sub (Zt 21) (.c (.i 1)), (some (17, true))⟩,⟨(some 23), .call 72 [(Zt 18), (.c (.i 0)), (Zt 22)], (some (17, true))⟩,Zo 24 (.pick (Zt 17) (Zt 23) (.c (.b false))),Zm 25 24,⟨(some 26), .mv (Zt 1), (some (25, true))⟩,⟨(some 27), .mv (Zt 2), (some (25, true))⟩,⟨(some 28), .bin .neq (Zt 26) (Zt 27), (some (25, true))⟩,Zo 29 (.pick (Zt 25) (Zt 28) (.c (.b false))),Zm 6 29] []) .ret))
def V85 : List RV := [.t 6]
theorem m85 : mtcF Try.prog 85 3 A85 V85 = true := by kernel_rfl
def A123 : ACode := (.seq (.reg [Zo 2 (.mv (.c (.lst .u 1 [])))] [.s 2]) (.seq (.reg [Zo 3 (.bsl 1 false []),Zm 4 0,Zo 5 (.app 1 8 false (Zt 3) (Zt 4)),Zm 2 5] [.s 2]) .ret))
def V123 : List RV := [.t 2]
theorem m123 : mtcF Try.prog 123 1 A123 V123 = true := by kernel_rfl
def A91 : ACode := (.seq (.reg [Zo 3 (.box 2 (Zt 0)),Zo 6 (.alloc (.agg [.i 0, .lst .u 1 []]))] []) (.seq (.reg [Za 8 1 3,Zl 9 8,Zo 10 (.call 123 [(Zt 9)]),Zm 7 10] [.s 7]) (.seq (.reg [Zm 11 7,Zm 12 1,Zm 13 2,Zx 14 1 11 12,⟨none, .store 1 (Zt 14) (Zt 13), none⟩] []) (.seq (.reg [Za 15 0 3,Zl 16 15,Zm 17 7,Zo 18 (.build [.i 0, .lst .u 1 []] [(0, 1, (Zt 16)), (1, 1, (Zt 17))]),⟨none, .store 2 (Zt 6) (Zt 18), none⟩] []) .ret))))
def V91 : List RV := [.c 6 2 true]
theorem m91 : mtcF Try.prog 91 3 A91 V91 = true := by kernel_rfl
def A77L1 : ACode := (.seq (.seq (.reg [Zm 5 4,Zm 6 0,Zk 7 6,Zb 8 .lss 5 7] []) (.cond (Zt 8) .skip (.exit 0))) (.seq (.blk 1 (.reg [Zm 11 3,Zm 12 0,Zm 13 4,Zx 14 1 12 13,Zl 15 14,Zo 16 (.conv .u64 (Zt 15)),Zo 17 (.bin .shl (.c (.i 1)) (Zt 16)),Zb 18 .or 11 17,Zm 3 18] [])) (.reg [Zm 9 4,Zd 10 .add 9 1,Zm 4 10] [])))
def A77R2 : ACode := (.seq (.reg [Zm 19 3,Zm 2 19] []) .ret)
def A77 : ACode := (.seq (.reg [Zn 2 0] []) (.seq (.reg [Zn 3 0] []) (.seqa (.reg [Zn 4 0] []) (.blk 0 (.loop A77L1)) [3] [] A77R2)))
def V77 : List RV := [.t 2]
theorem m77 : mtcF Try.prog 77 1 A77 V77 = true := by kernel_rfl
def A94L1 : ACode := (.seq (.seq (.reg [Zm 7 6,Zm 8 0,Zk 9 8,Zb 10 .lss 7 9] []) (.cond (Zt 10) .skip (.exit 0))) (.seq (.blk 1 (.seq (.reg [Zm 13 1,Zm 14 6,Zo 15 (.conv .u64 (Zt 14)),Zb 16 .shr 13 15,Zd 17 .and 16 1,Zd 18 .eql 17 1] []) (.cond (Zt 18) (.reg [Zm 19 5,Zm 20 0,Zm 21 6,Zx 22 1 20 21,Zl 23 22,Zo 24 (.call 77 [(Zt 23)]),Zb 25 .or 19 24,Zm 5 25] []) .skip))) (.reg [Zm 11 6,Zd 12 .add 11 1,Zm 6 12] [])))
def A94R2 : ACode := (.seq (.reg [Zm 26 5,Zm 4 26] []) .ret)
def A94 : ACode := (.seq (.reg [Zn 4 0] []) (.seq (.reg [Zn 5 0] []) (.seqa (.reg [Zn 6 0] []) (.blk 0 (.loop A94L1)) [5] [] A94R2)))
def V94 : List RV := [.t 4]
theorem m94 : mtcF Try.prog 94 2 A94 V94 = true := by kernel_rfl
def A125 : ACode := (.seq (.reg [Zn 4 0] []) (.seq (.seq (.reg [Zm 5 0,Zm 6 1,Zb 7 .lss 5 6] []) (.cond (Zt 7) (.seq (.reg [Zm 8 0,Zm 4 8] []) .ret) .skip)) (.seq (.reg [Zm 9 1,Zm 4 9] []) .ret)))
def V125 : List RV := [.t 4]
theorem m125 : mtcF Try.prog 125 2 A125 V125 = true := by kernel_rfl
def A93L1 : ACode := (.seq (.seq (.reg [Zm 13 6,Za 14 0 2,Zl 15 14,Zk 16 15,Zb 17 .lss 13 16] []) (.cond (Zt 17) .skip (.exit 0))) (.seq (.blk 1 (.reg [Zm 20 5,Zm 21 6,Zo 22 (.bsl 1 false [(Zt 21)]),Zo 23 (.app 1 8 true (Zt 20) (Zt 22)),Zm 5 23] [.s 5])) (.reg [Zm 18 6,Zd 19 .add 18 1,Zm 6 19] [])))
def A93R3 : ACode := (.cond (Zt 60) (.exit 5) .skip)
def A93L4 : ACode := (.seq (.seq (.reg [Zm 25 8,Za 26 1 2,Zl 27 26,Zk 28 27,Zb 29 .lss 25 28] []) (.cond (Zt 29) .skip (.exit 4))) (.seq (.blk 5 (.seq (.drw [Za 32 1 2,Zl 33 32,Zm 34 8,Zx 35 4 33 34,Za 36 0 35,Zl 37 36,Za 38 1 2,Zl 39 38,Zm 40 8,Zx 41 4 39 40,Za 42 1 41,Zl 43 42,Zm 9 37,Zm 10 43] []) (.seq (.seqr (.drw [Zm 44 1,Zm 45 8,Zo 46 (.conv .u64 (Zt 45)),Zb 47 .shr 44 46,Zd 48 .and 47 1,Zd 49 .eql 48 1,Zm 50 49,⟨(some 51), .mv (Zt 5), (some (50, false))⟩,⟨(some 52), .mv (Zt 9), (some (50, false))⟩,⟨(some 53), .idx 1 (Zt 51) (Zt 52), (some (50, false))⟩,⟨(some 54), .load 1 false (Zt 53), (some (50, false))⟩,⟨(some 55), .mv (Zt 5), (some (50, false))⟩,⟨(some 56), .mv (Zt 10), (some (50, false))⟩,⟨(some 57), .idx 1 (Zt 55) (Zt 56), (some (50, false))⟩,⟨(some 58), .load 1 false (Zt 57), (some (50, false))⟩,⟨(some 59), .bin .eql (Zt 54) (Zt 58), (some (50, false))⟩,Zo 60 (.pick (Zt 50) (.c (.b true)) (Zt 59))] []) [1, 2, 5, 7, 8, 9, 10, 60] [2, 5] A93R3) (.seq (.drw [Zm 61 5,Zm 62 9,Zx 63 1 61 62,Zl 64 63,Zm 65 5,Zm 66 10,Zx 67 1 65 66,Zl 68 67,Zo 69 (.call 125 [(Zt 64), (Zt 68)]),Zm 11 69] []) (.seq (.reg [Zm 70 5,Zm 71 9,Zm 72 11,Zx 73 1 70 71,⟨none, .store 1 (Zt 73) (Zt 72), none⟩] []) (.seq (.reg [Zm 74 5,Zm 75 10,Zm 76 11,Zx 77 1 74 75,⟨none, .store 1 (Zt 77) (Zt 76), none⟩] []) (.reg [Zo 7 (.mv (.c (.b true)))] []))))))) (.reg [Zm 30 8,Zd 31 .add 30 1,Zm 8 31] [])))
def A93L5 : ACode := (.seq (.seq (.reg [Zm 24 7] []) (.cond (Zt 24) .skip (.exit 2))) (.blk 3 (.seq (.reg [Zo 7 (.mv (.c (.b false)))] []) (.seq (.reg [Zn 8 0] []) (.blk 4 (.loop A93L4))))))
def A93R6 : ACode := (.seq (.reg [Zm 78 5,Zm 4 78] [.s 4]) .ret)
def A93R2 : ACode := (.seqa (.reg [Zo 7 (.mv (.c (.b true)))] []) (.blk 2 (.loop A93L5)) [5] [5] A93R6)
def A93 : ACode := (.seq (.reg [Zo 2 (.box 2 (Zt 0)),Zo 4 (.mv (.c (.lst .u 1 [])))] [.s 4]) (.seq (.reg [Zo 12 (.bsl 1 false []),Zm 5 12] [.s 5]) (.seqa (.reg [Zn 6 0] []) (.blk 0 (.loop A93L1)) [1, 2, 5] [2, 5] A93R2)))
def V93 : List RV := [.t 4]
theorem m93 : mtcF Try.prog 93 2 A93 V93 = true := by kernel_rfl
def A76L1 : ACode := (.seq (.seq (.reg [Zm 7 6,Za 8 1 2,Zl 9 8,Zk 10 9,Zb 11 .lss 7 10] []) (.cond (Zt 11) .skip (.exit 0))) (.seq (.blk 1 (.seq (.reg [Zm 14 1,Zm 15 6,Zo 16 (.conv .u64 (Zt 15)),Zb 17 .shr 14 16,Zd 18 .and 17 1,Zd 19 .eql 18 1] []) (.cond (Zt 19) (.reg [Zm 20 5,Za 21 1 2,Zl 22 21,Zm 23 6,Zx 24 1 22 23,Zl 25 24,Zb 26 .mul 20 25,Zm 5 26] []) (.drw [Zm 27 5,Za 28 0 2,Zl 29 28,Za 30 1 2,Zl 31 30,Zm 32 6,Zx 33 1 31 32,Zl 34 33,Zb 35 .sub 29 34,Zb 36 .mul 27 35,Zm 5 36] [])))) (.reg [Zm 12 6,Zd 13 .add 12 1,Zm 6 13] [])))
def A76R2 : ACode := (.seq (.reg [Zm 37 5,Zm 4 37] []) .ret)
def A76 : ACode := (.seq (.reg [Zo 2 (.box 2 (Zt 0)),Zn 4 0] []) (.seq (.reg [Zn 5 1] []) (.seqa (.reg [Zn 6 0] []) (.blk 0 (.loop A76L1)) [5] [] A76R2)))
def V76 : List RV := [.t 4]
theorem m76 : mtcF Try.prog 76 2 A76 V76 = true := by kernel_rfl
def A80L2 : ACode := (.seq (.seq (.reg [Zm 45 14,Zm 46 12,Zk 47 46,Zb 48 .lss 45 47] []) (.cond (Zt 48) .skip (.exit 2))) (.seq (.blk 3 (.reg [Zm 51 13,Zm 52 51,⟨(some 53), .mv (Zt 12), (some (52, true))⟩,⟨(some 54), .mv (Zt 14), (some (52, true))⟩,⟨(some 55), .idx 1 (Zt 53) (Zt 54), (some (52, true))⟩,⟨(some 56), .load 1 false (Zt 55), (some (52, true))⟩,⟨(some 57), .bin .eql (Zt 56) (.c (.i 0)), (some (52, true))⟩,Zo 58 (.pick (Zt 52) (Zt 57) (.c (.b false))),Zm 13 58] [])) (.reg [Zm 49 14,Zd 50 .add 49 1,Zm 14 50] [])))
def A80R3 : ACode := (.seq (.reg [Zm 59 13] []) (.cond (Zt 59) (.reg [Zm 60 10,Zo 61 (.load 2 true (Zt 5)),Zm 62 11,Zo 63 (.call 76 [(Zt 61), (Zt 62)]),Zb 64 .add 60 63,Zm 10 64] []) .skip))
def A80R1 : ACode := (.seqr (.seq (.reg [Zm 43 2,Zd 44 .lss 43 0] []) (.cond (Zt 44) (.seq (.reg [Zo 13 (.mv (.c (.b true)))] []) (.seq (.reg [Zn 14 0] []) (.blk 2 (.loop A80L2)))) .skip)) [2, 3, 4, 5, 9, 10, 11, 13] [4, 5, 9] A80R3)
def A80L4 : ACode := (.seq (.seq (.reg [Zm 17 11,Zm 18 9,Zk 19 18,Zo 20 (.conv .u64 (Zt 19)),Zo 21 (.bin .shl (.c (.i 1)) (Zt 20)),Zb 22 .lss 17 21] []) (.cond (Zt 22) .skip (.exit 0))) (.seq (.blk 1 (.seq (.drw [Zo 25 (.load 2 true (Zt 4)),Zm 26 9,Zm 27 11,Zo 28 (.call 94 [(Zt 26), (Zt 27)]),Zo 29 (.call 93 [(Zt 25), (Zt 28)]),Zm 12 29] [.s 12]) (.seqr (.drw [Zm 30 2,Zd 31 .geq 30 0,Zm 32 31,⟨(some 33), .mv (Zt 12), (some (32, true))⟩,⟨(some 34), .mv (Zt 2), (some (32, true))⟩,⟨(some 35), .idx 1 (Zt 33) (Zt 34), (some (32, true))⟩,⟨(some 36), .load 1 false (Zt 35), (some (32, true))⟩,⟨(some 37), .mv (Zt 12), (some (32, true))⟩,⟨(some 38), .mv (Zt 3), (some (32, true))⟩,⟨(some 39), .idx 1 (Zt 37) (Zt 38), (some (32, true))⟩,⟨(some 40), .load 1 false (Zt 39), (some (32, true))⟩,⟨(some 41), .bin .eql (Zt 36) (Zt 40), (some (32, true))⟩,Zo 42 (.pick (Zt 32) (Zt 41) (.c (.b false))),Zm 13 42] []) [2, 3, 4, 5, 9, 10, 11, 12, 13] [4, 5, 9, 12] A80R1))) (.reg [Zm 23 11,Zd 24 .add 23 1,Zm 11 24] [])))
def A80R5 : ACode := (.seq (.reg [Zm 65 10,Zm 8 65] []) .ret)
def A80 : ACode := (.seq (.reg [Zo 4 (.box 2 (Zt 0)),Zo 5 (.box 2 (Zt 1)),Zn 8 0] []) (.seq (.reg [Zo 15 (.load 2 true (Zt 4)),Zo 16 (.call 92 [(Zt 15)]),Zm 9 16] [.s 9]) (.seq (.reg [Zn 10 0] []) (.seqa (.reg [Zn 11 0] []) (.blk 0 (.loop A80L4)) [10] [] A80R5))))
def V80 : List RV := [.t 8]
theorem m80 : mtcF Try.prog 80 4 A80 V80 = true := by kernel_rfl
def A36R1 : ACode := (.cond (Zt 31) (.seq (.reg [Zn 10 0,Zo 11 (.mv (.c (.b false)))] []) .ret) .skip)
def A36 : ACode := (.seq (.reg [Zo 5 (.box 2 (Zt 0)),Zo 6 (.box 2 (Zt 1)),Zn 10 0,Zo 11 (.mv (.c (.b false)))] []) (.seq (.seqr (.reg [Zo 12 (.load 2 true (Zt 5)),Zo 13 (.load 2 true (Zt 6)),Zo 14 (.call 62 [(Zt 12), (Zt 13)]),Zo 15 (.un .not (Zt 14)),Zm 16 15,⟨(some 17), .load 2 true (Zt 5), (some (16, false))⟩,⟨(some 18), .mv (Zt 2), (some (16, false))⟩,⟨(some 19), .mv (Zt 3), (some (16, false))⟩,⟨(some 20), .call 85 [(Zt 17), (Zt 18), (Zt 19)], (some (16, false))⟩,⟨(some 21), .un .not (Zt 20), (some (16, false))⟩,Zo 22 (.pick (Zt 16) (.c (.b true)) (Zt 21)),Zm 23 22,⟨(some 24), .mv (Zt 4), (some (23, false))⟩,⟨(some 25), .fad 1 (Zt 6), (some (23, false))⟩,⟨(some 26), .load 1 false (Zt 25), (some (23, false))⟩,⟨(some 27), .len (Zt 26), (some (23, false))⟩,⟨(some 28), .bin .sub (Zt 27) (.c (.i 1)), (some (23, false))⟩,⟨(some 29), .call 72 [(Zt 24), (.c (.i 0)), (Zt 28)], (some (23, false))⟩,⟨(some 30), .un .not (Zt 29), (some (23, false))⟩,Zo 31 (.pick (Zt 23) (.c (.b true)) (Zt 30))] []) [2, 3, 4, 5, 6, 31] [5, 6] A36R1) (.seq (.drw [Zo 32 (.load 2 true (Zt 5)),Zo 33 (.load 2 true (Zt 6)),Zm 34 4,Zo 35 (.call 91 [(Zt 33), (Zt 34), (.c (.i 0))]),Zm 36 2,Zm 37 3,Zo 38 (.call 80 [(Zt 32), (Zt 35), (Zt 36), (Zt 37)]),Zo 39 (.load 2 true (Zt 5)),Zo 40 (.load 2 true (Zt 6)),Zm 41 4,Za 42 0 6,Zl 43 42,Zo 44 (.call 91 [(Zt 40), (Zt 41), (Zt 43)]),Zm 45 2,Zm 46 3,Zo 47 (.call 80 [(Zt 39), (Zt 44), (Zt 45), (Zt 46)]),Zb 48 .sub 38 47,Zm 10 48,Zo 11 (.mv (.c (.b true)))] []) .ret)))
def V36 : List RV := [.t 10, .t 11]
theorem m36 : mtcF Try.prog 36 5 A36 V36 = true := by kernel_rfl
def A66 : ACode := (.seq (.reg [Zo 6 (.mv (.c (.b false)))] []) (.seq (.reg [Zm 7 1,Zm 8 0,Zb 9 .leq 7 8,Zm 10 9,⟨(some 11), .mv (Zt 0), (some (10, true))⟩,⟨(some 12), .mv (Zt 2), (some (10, true))⟩,⟨(some 13), .bin .leq (Zt 11) (Zt 12), (some (10, true))⟩,Zo 14 (.pick (Zt 10) (Zt 13) (.c (.b false))),Zm 6 14] []) .ret))
def V66 : List RV := [.t 6]
theorem m66 : mtcF Try.prog 66 3 A66 V66 = true := by kernel_rfl
def A113R1 : ACode := (.seq (.reg [Zm 31 4,Zo 32 (.un .not (Zt 31)),Zm 33 32,⟨(some 34), .mv (Zt 5), (some (33, true))⟩,⟨(some 35), .un .not (Zt 34), (some (33, true))⟩,⟨(some 36), .mv (Zt 35), (some (33, true))⟩,⟨(some 37), .mv (Zt 3), (some (36, false))⟩,⟨(some 38), .bin .eql (Zt 37) (.c (.i 0)), (some (36, false))⟩,⟨(some 39), .pick (Zt 36) (.c (.b true)) (Zt 38), (some (33, true))⟩,Zo 40 (.pick (Zt 33) (Zt 39) (.c (.b false)))] []) (.cond (Zt 40) (.seq (.reg [Zo 2 (.mv (.c (.b false)))] []) .ret) .skip))
def A113L2 : ACode := (.seq (.reg [Zb 9 .lss 8 7] []) (.seq (.cond (Zt 9) .skip (.exit 0)) (.seq (.blk 1 (.seq (.reg [Zm 10 8,Zm 3 10] []) (.seqr (.drw [Zm 11 0,Zm 12 3,Zo 13 (.stri (Zt 11) (Zt 12)),Zo 14 (.bin .geq (Zt 13) (.c (.sc (.int .u8 97)))),Zm 15 14,⟨(some 16), .mv (Zt 0), (some (15, true))⟩,⟨(some 17), .mv (Zt 3), (some (15, true))⟩,⟨(some 18), .stri (Zt 16) (Zt 17), (some (15, true))⟩,⟨(some 19), .bin .leq (Zt 18) (.c (.sc (.int .u8 122))), (some (15, true))⟩,Zo 20 (.pick (Zt 15) (Zt 19) (.c (.b false))),Zm 21 0,Zm 22 3,Zo 23 (.stri (Zt 21) (Zt 22)),Zo 24 (.bin .geq (Zt 23) (.c (.sc (.int .u8 48)))),Zm 25 24,⟨(some 26), .mv (Zt 0), (some (25, true))⟩,⟨(some 27), .mv (Zt 3), (some (25, true))⟩,⟨(some 28), .stri (Zt 26) (Zt 27), (some (25, true))⟩,⟨(some 29), .bin .leq (Zt 28) (.c (.sc (.int .u8 57))), (some (25, true))⟩,Zo 30 (.pick (Zt 25) (Zt 29) (.c (.b false))),Zm 4 20,Zm 5 30] []) [0, 3, 4, 5, 7, 8] [] A113R1))) (.reg [Zd 41 .add 8 1,Zm 8 41] []))))
def A113R3 : ACode := (.seq (.reg [Zm 42 0,Zo 43 (.lenz (Zt 42)),Zo 44 (.call 66 [(Zt 43), (.c (.i 1)), (.c (.i 8))]),Zm 2 44] []) .ret)
def A113 : ACode := (.seq (.reg [Zo 2 (.mv (.c (.b false)))] []) (.seqa (.reg [Zm 6 0,Zo 7 (.lenz (Zt 6)),Zn 8 0] []) (.blk 0 (.loop A113L2)) [0] [] A113R3))
def V113 : List RV := [.t 2]
theorem m113 : mtcF Try.prog 113 1 A113 V113 = true := by kernel_rfl
def A139L1 : ACode := (.seq (.reg [Zb 9 .lss 8 7] []) (.seq (.cond (Zt 9) .skip (.exit 0)) (.seq (.blk 1 (.seq (.reg [Zm 10 8,Zm 5 10] []) (.seq (.reg [Zm 11 1,Zm 12 0,Zm 13 5,Zx 14 1 12 13,Zl 15 14,Zb 16 .eql 11 15] []) (.cond (Zt 16) (.seq (.reg [Zm 17 5,Zm 4 17] []) .ret) .skip)))) (.reg [Zd 18 .add 8 1,Zm 8 18] []))))
def A139R2 : ACode := (.seq (.reg [Zn 4 (-1)] []) .ret)
def A139 : ACode := (.seq (.reg [Zn 4 0] []) (.seqa (.reg [Zm 6 0,Zk 7 6,Zn 8 0] []) (.blk 0 (.loop A139L1)) [] [] A139R2))
def V139 : List RV := [.t 4]
theorem m139 : mtcF Try.prog 139 2 A139 V139 = true := by kernel_rfl
def A114 : ACode := (.seq (.reg [Zo 4 (.mv (.c (.b false)))] []) (.seq (.reg [Zm 5 0,Zm 6 1,Zo 7 (.call 139 [(Zt 5), (Zt 6)]),Zd 8 .geq 7 0,Zm 4 8] []) .ret))
def V114 : List RV := [.t 4]
theorem m114 : mtcF Try.prog 114 2 A114 V114 = true := by kernel_rfl
def A151 : ACode := (.seq (.reg [Zo 2 (.mv (.c (.b false)))] []) (.seq (.reg [Zm 3 0,Zm 4 0,Zb 5 .neq 3 4,Zm 2 5] []) .ret))
def V151 : List RV := [.t 2]
theorem m151 : mtcF Try.prog 151 1 A151 V151 = true := by kernel_rfl
def A141 : ACode := (.seq (.reg [Zn 4 0] []) (.seq (.reg [Zm 7 0,Zo 8 (.call 151 [(Zt 7)]),Zm 5 8] []) (.seq (.reg [Zm 9 1,Zo 10 (.call 151 [(Zt 9)]),Zm 6 10] []) (.seq (.seq (.reg [Zm 11 5] []) (.cond (Zt 11) (.seq (.seq (.reg [Zm 12 6] []) (.cond (Zt 12) (.seq (.reg [Zn 4 0] []) .ret) .skip)) (.seq (.reg [Zn 4 (-1)] []) .ret)) .skip)) (.seq (.seq (.reg [Zm 13 6] []) (.cond (Zt 13) (.seq (.reg [Zn 4 1] []) .ret) .skip)) (.seq (.seq (.reg [Zm 14 0,Zm 15 1,Zb 16 .lss 14 15] []) (.cond (Zt 16) (.seq (.reg [Zn 4 (-1)] []) .ret) .skip)) (.seq (.seq (.reg [Zm 17 0,Zm 18 1,Zb 19 .gtr 17 18] []) (.cond (Zt 19) (.seq (.reg [Zn 4 1] []) .ret) .skip)) (.seq (.reg [Zn 4 0] []) .ret))))))))
def V141 : List RV := [.t 4]
theorem m141 : mtcF Try.prog 141 2 A141 V141 = true := by kernel_rfl
def A140L1 : ACode := (.seq (.reg [Zb 9 .lss 8 7] []) (.seq (.cond (Zt 9) .skip (.exit 0)) (.seq (.blk 1 (.seq (.reg [Zx 10 1 6 8,Zl 11 10,Zm 5 11] []) (.seq (.reg [Zm 12 5,Zm 13 3,Zb 14 .neq 12 13] []) (.cond (Zt 14) (.seq (.reg [Zm 15 5,Zm 2 15] []) .ret) .skip)))) (.reg [Zd 16 .add 8 1,Zm 8 16] []))))
def A140R2 : ACode := (.seq (.reg [Zm 17 3,Zm 2 17] []) .ret)
def A140 : ACode := (.seq (.reg [Zn 2 0] []) (.seq (.reg [Zn 3 0] []) (.seqa (.reg [Zm 6 0,Zk 7 6,Zn 8 0] []) (.blk 0 (.loop A140L1)) [3] [] A140R2)))
def V140 : List RV := [.t 2]
theorem m140 : mtcF Try.prog 140 1 A140 V140 = true := by kernel_rfl
def A115 : ACode := (.seq (.reg [Zo 2 (.box 4 (Zt 0)),Zo 3 (.box 4 (Zt 1)),Zn 4 0] []) (.seq (.drw [Za 5 0 2,Zl 6 5,Za 7 0 3,Zl 8 7,Zo 9 (.call 141 [(Zt 6), (Zt 8)]),Za 10 1 2,Zl 11 10,Za 12 1 3,Zl 13 12,Zo 14 (.call 141 [(Zt 11), (Zt 13)]),Za 15 2 2,Zl 16 15,Za 17 2 3,Zl 18 17,Zo 19 (.call 141 [(Zt 16), (Zt 18)]),Za 20 3 2,Zl 21 20,Za 22 3 3,Zl 23 22,Zo 24 (.call 141 [(Zt 21), (Zt 23)]),Zo 25 (.bsl 1 true [(Zt 9), (Zt 14), (Zt 19), (Zt 24)]),Zo 26 (.call 140 [(Zt 25)]),Zm 4 26] []) .ret))
def V115 : List RV := [.t 4]
theorem m115 : mtcF Try.prog 115 2 A115 V115 = true := by kernel_rfl
def A65L1 : ACode := (.seq (.reg [Zb 11 .lss 10 9] []) (.seq (.cond (Zt 11) .skip (.exit 0)) (.seq (.blk 1 (.seq (.reg [Zm 12 10,Zx 13 1 8 10,Zl 14 13,Zm 3 12,Zm 4 14] []) (.seq (.reg [Zm 15 4,Zo 16 (.call 113 [(Zt 15)]),Zo 17 (.un .not (Zt 16)),Zm 18 17,⟨(some 19), .fad 0 (Zt 1), (some (18, false))⟩,⟨(some 20), .load 1 false (Zt 19), (some (18, false))⟩,⟨(some 21), .mv (Zt 3), (some (18, false))⟩,⟨(some 22), .slc 1 (Zt 20) none (some (Zt 21)) none, (some (18, false))⟩,⟨(some 23), .mv (Zt 4), (some (18, false))⟩,⟨(some 24), .call 114 [(Zt 22), (Zt 23)], (some (18, false))⟩,Zo 25 (.pick (Zt 18) (.c (.b true)) (Zt 24))] []) (.cond (Zt 25) (.seq (.reg [Zo 2 (.mv (.c (.b false)))] []) .ret) .skip)))) (.reg [Zd 26 .add 10 1,Zm 10 26] []))))
def A65L3 : ACode := (.seq (.reg [Zb 31 .lss 30 29] []) (.seq (.cond (Zt 31) .skip (.exit 2)) (.seq (.blk 3 (.seq (.reg [Zm 32 30,Zx 33 4 28 30,Zo 34 (.load 4 true (Zt 33)),Zo 6 (.alloc (.agg [.i 0, .i 0, .i 0, .i 0])),Zm 5 32,⟨none, .store 4 (Zt 6) (Zt 34), none⟩] []) (.seq (.drw [Za 35 0 6,Zl 36 35,Zd 37 .lss 36 0,Zm 38 37,⟨(some 39), .fad 0 (Zt 6), (some (38, false))⟩,⟨(some 40), .load 1 false (Zt 39), (some (38, false))⟩,⟨(some 41), .fad 1 (Zt 6), (some (38, false))⟩,⟨(some 42), .load 1 false (Zt 41), (some (38, false))⟩,⟨(some 43), .bin .geq (Zt 40) (Zt 42), (some (38, false))⟩,Zo 44 (.pick (Zt 38) (.c (.b true)) (Zt 43)),Zm 45 44,⟨(some 46), .fad 1 (Zt 6), (some (45, false))⟩,⟨(some 47), .load 1 false (Zt 46), (some (45, false))⟩,⟨(some 48), .fad 0 (Zt 1), (some (45, false))⟩,⟨(some 49), .load 1 false (Zt 48), (some (45, false))⟩,⟨(some 50), .len (Zt 49), (some (45, false))⟩,⟨(some 51), .bin .geq (Zt 47) (Zt 50), (some (45, false))⟩,Zo 52 (.pick (Zt 45) (.c (.b true)) (Zt 51)),Zm 53 52,⟨(some 54), .fad 2 (Zt 6), (some (53, false))⟩,⟨(some 55), .load 1 false (Zt 54), (some (53, false))⟩,⟨(some 56), .call 66 [(Zt 55), (.c (.i 1)), (.c (.i 5000))], (some (53, false))⟩,⟨(some 57), .un .not (Zt 56), (some (53, false))⟩,Zo 58 (.pick (Zt 53) (.c (.b true)) (Zt 57)),Zm 59 58,⟨(some 60), .fad 3 (Zt 6), (some (59, false))⟩,⟨(some 61), .load 1 false (Zt 60), (some (59, false))⟩,⟨(some 62), .call 66 [(Zt 61), (.c (.i 0)), (.c (.i 9))], (some (59, false))⟩,⟨(some 63), .un .not (Zt 62), (some (59, false))⟩,Zo 64 (.pick (Zt 59) (.c (.b true)) (Zt 63)),Zm 65 64,⟨(some 66), .mv (Zt 5), (some (65, false))⟩,⟨(some 67), .bin .gtr (Zt 66) (.c (.i 0)), (some (65, false))⟩,⟨(some 68), .mv (Zt 67), (some (65, false))⟩,⟨(some 69), .fad 1 (Zt 1), (some (68, true))⟩,⟨(some 70), .load 1 false (Zt 69), (some (68, true))⟩,⟨(some 71), .mv (Zt 5), (some (68, true))⟩,⟨(some 72), .bin .sub (Zt 71) (.c (.i 1)), (some (68, true))⟩,⟨(some 73), .idx 4 (Zt 70) (Zt 72), (some (68, true))⟩,⟨(some 74), .load 4 true (Zt 73), (some (68, true))⟩,⟨(some 75), .load 4 true (Zt 6), (some (68, true))⟩,⟨(some 76), .call 115 [(Zt 74), (Zt 75)], (some (68, true))⟩,⟨(some 77), .bin .gtr (Zt 76) (.c (.i 0)), (some (68, true))⟩,⟨(some 78), .pick (Zt 68) (Zt 77) (.c (.b false)), (some (65, false))⟩,Zo 79 (.pick (Zt 65) (.c (.b true)) (Zt 78))] []) (.cond (Zt 79) (.seq (.reg [Zo 2 (.mv (.c (.b false)))] []) .ret) .skip)))) (.reg [Zd 80 .add 30 1,Zm 30 80] []))))
def A65R4 : ACode := (.seq (.reg [Za 81 0 1,Zl 82 81,Zk 83 82,Zo 84 (.call 66 [(Zt 83), (.c (.i 2)), (.c (.i 8))]),Zm 85 84,⟨(some 86), .fad 1 (Zt 1), (some (85, true))⟩,⟨(some 87), .load 1 false (Zt 86), (some (85, true))⟩,⟨(some 88), .len (Zt 87), (some (85, true))⟩,⟨(some 89), .bin .leq (Zt 88) (.c (.i 14)), (some (85, true))⟩,Zo 90 (.pick (Zt 85) (Zt 89) (.c (.b false))),Zm 2 90] []) .ret)
def A65R2 : ACode := (.seqa (.reg [Za 27 1 1,Zl 28 27,Zk 29 28,Zn 30 0] []) (.blk 2 (.loop A65L3)) [1] [1] A65R4)
def A65 : ACode := (.seq (.reg [Zo 1 (.box 2 (Zt 0)),Zo 2 (.mv (.c (.b false)))] []) (.seqa (.reg [Za 7 0 1,Zl 8 7,Zk 9 8,Zn 10 0] []) (.blk 0 (.loop A65L1)) [1] [1] A65R2))
def V65 : List RV := [.t 2]
theorem m65 : mtcF Try.prog 65 1 A65 V65 = true := by kernel_rfl
def A67L1 : ACode := (.seq (.reg [Zb 20 .lss 19 18] []) (.seq (.cond (Zt 20) .skip (.exit 2)) (.seq (.blk 3 (.seq (.reg [Zm 21 19,Zx 22 4 17 19,Zo 23 (.load 4 true (Zt 22)),Zo 7 (.alloc (.agg [.i 0, .i 0, .i 0, .i 0])),Zm 6 21,⟨none, .store 4 (Zt 7) (Zt 23), none⟩] []) (.seq (.reg [Za 24 3 7,Zl 25 24,Zm 26 4,Zb 27 .eql 25 26] []) (.cond (Zt 27) (.reg [Zm 28 5,Zm 29 6,Zo 30 (.bsl 1 false [(Zt 29)]),Zo 31 (.app 1 8 true (Zt 28) (Zt 30)),Zm 5 31] [.s 5]) .skip)))) (.reg [Zd 32 .add 19 1,Zm 19 32] []))))
def A67R2 : ACode := (.seq (.reg [Zm 33 5,Zk 34 33,Zd 35 .gtr 34 0] []) (.cond (Zt 35) (.reg [Zm 36 3,Zm 37 5,Zo 38 (.bsl 1 false [(Zt 37)]),Zo 39 (.app 1 24 true (Zt 36) (Zt 38)),Zm 3 39] [.s 3]) .skip))
def A67L3 : ACode := (.seq (.seq (.reg [Zm 11 4,Zd 12 .leq 11 9] []) (.cond (Zt 12) .skip (.exit 0))) (.seq (.blk 1 (.seq (.reg [Zo 15 (.bsl 1 false []),Zm 5 15] [.s 5]) (.seqa (.reg [Za 16 1 1,Zl 17 16,Zk 18 17,Zn 19 0] []) (.blk 2 (.loop A67L1)) [1, 3, 4, 5] [1, 3, 5] A67R2))) (.reg [Zm 13 4,Zd 14 .add 13 1,Zm 4 14] [])))
def A67L5 : ACode := (.seq (.reg [Zb 44 .lss 43 42] []) (.seq (.cond (Zt 44) .skip (.exit 4)) (.seq (.blk 5 (.seq (.reg [Zm 45 43,Zx 46 4 41 43,Zo 47 (.load 4 true (Zt 46)),Zo 9 (.alloc (.agg [.i 0, .i 0, .i 0, .i 0])),Zm 8 45,⟨none, .store 4 (Zt 9) (Zt 47), none⟩] []) (.seq (.reg [Za 48 3 9,Zl 49 48,Zd 50 .eql 49 0] []) (.cond (Zt 50) (.reg [Zm 51 3,Zm 52 8,Zo 53 (.bsl 1 false [(Zt 52)]),Zo 54 (.bsl 1 false [(Zt 53)]),Zo 55 (.app 1 24 true (Zt 51) (Zt 54)),Zm 3 55] [.s 3]) .skip)))) (.reg [Zd 56 .add 43 1,Zm 43 56] []))))
def A67R6 : ACode := (.seq (.reg [Zm 57 3,Zm 2 57] [.s 2]) .ret)
def A67R4 : ACode := (.seqa (.reg [Za 40 1 1,Zl 41 40,Zk 42 41,Zn 43 0] []) (.blk 4 (.loop A67L5)) [3] [3] A67R6)
def A67 : ACode := (.seq (.reg [Zo 1 (.box 2 (Zt 0)),Zo 2 (.mv (.c (.lst .u 1 [])))] [.s 2]) (.seq (.reg [Zo 10 (.bsl 1 false []),Zm 3 10] [.s 3]) (.seqa (.reg [Zn 4 1] []) (.blk 0 (.loop A67L3)) [1, 3] [1, 3] A67R4)))
def V67 : List RV := [.t 2]
theorem m67 : mtcF Try.prog 67 1 A67 V67 = true := by kernel_rfl
def A69 : ACode := (.seq (.reg [Zo 3 (.mv (.c (.b false)))] []) (.seq (.reg [Zm 4 0,Za 5 0 1,Zl 6 5,Zo 7 (.call 66 [(Zt 4), (.c (.i 0)), (Zt 6)]),Zo 8 (.un .not (Zt 7)),Zm 3 8] []) .ret))
def V69 : List RV := [.t 3]
theorem m69 : mtcF Try.prog 69 2 A69 V69 = true := by kernel_rfl
def A116L1 : ACode := (.seq (.reg [Zb 9 .lss 8 7] []) (.seq (.cond (Zt 9) .skip (.exit 0)) (.seq (.blk 1 (.seq (.reg [Zm 10 8,Zm 5 10] []) (.seq (.reg [Zm 11 1,Zm 12 0,Zm 13 5,Zx 14 1 12 13,Zl 15 14,Zo 16 (.dyn (Zt 11) [(Zt 15)])] []) (.cond (Zt 16) (.seq (.reg [Zm 17 5,Zm 4 17] []) .ret) .skip)))) (.reg [Zd 18 .add 8 1,Zm 8 18] []))))
def A116R2 : ACode := (.seq (.reg [Zn 4 (-1)] []) .ret)
def A116 : ACode := (.seq (.reg [Zn 4 0] []) (.seqa (.reg [Zm 6 0,Zk 7 6,Zn 8 0] []) (.blk 0 (.loop A116L1)) [] [] A116R2))
def V116 : List RV := [.t 4]
theorem m116 : mtcF Try.prog 116 2 A116 V116 = true := by kernel_rfl
def A68 : ACode := (.seq (.reg [Zo 4 (.mv (.c (.b false)))] []) (.seq (.reg [Zm 5 0,Zm 6 1,Zo 7 (.call 116 [(Zt 5), (Zt 6)]),Zd 8 .geq 7 0,Zm 4 8] []) .ret))
def V68 : List RV := [.t 4]
theorem m68 : mtcF Try.prog 68 2 A68 V68 = true := by kernel_rfl
def A20 : ACode := (.seq (.reg [Zo 2 (.box 2 (Zt 0)),Zo 3 (.box 2 (Zt 1)),Zo 4 (.mv (.c (.b false)))] []) (.seq (.drw [Zo 5 (.load 2 true (Zt 2)),Zo 6 (.call 65 [(Zt 5)]),Zm 7 6,⟨(some 8), .fad 0 (Zt 3), (some (7, true))⟩,⟨(some 9), .load 1 false (Zt 8), (some (7, true))⟩,⟨(some 10), .call 66 [(Zt 9), (.c (.i 2)), (.c (.i 20))], (some (7, true))⟩,Zo 11 (.pick (Zt 7) (Zt 10) (.c (.b false))),Zm 12 11,⟨(some 13), .fad 1 (Zt 3), (some (12, true))⟩,⟨(some 14), .load 1 false (Zt 13), (some (12, true))⟩,⟨(some 15), .len (Zt 14), (some (12, true))⟩,⟨(some 16), .load 2 true (Zt 2), (some (12, true))⟩,⟨(some 17), .call 67 [(Zt 16)], (some (12, true))⟩,⟨(some 18), .len (Zt 17), (some (12, true))⟩,⟨(some 19), .bin .eql (Zt 15) (Zt 18), (some (12, true))⟩,Zo 20 (.pick (Zt 12) (Zt 19) (.c (.b false))),Zm 21 20,⟨(some 22), .fad 1 (Zt 3), (some (21, true))⟩,⟨(some 23), .load 1 false (Zt 22), (some (21, true))⟩,⟨(some 24), .mkf 69 [(Zt 3)], (some (21, true))⟩,⟨(some 25), .call 68 [(Zt 23), (Zt 24)], (some (21, true))⟩,⟨(some 26), .un .not (Zt 25), (some (21, true))⟩,Zo 27 (.pick (Zt 21) (Zt 26) (.c (.b false))),Zm 4 27] []) .ret))
def V20 : List RV := [.t 4]
theorem m20 : mtcF Try.prog 20 2 A20 V20 = true := by kernel_rfl
def A143 : ACode := (.seq (.reg [Zo 3 (.mv (.c (.b false)))] []) (.seq (.reg [Zm 4 0,Za 5 0 1,Zl 6 5,Zk 7 6,Zd 8 .sub 7 1,Zo 9 (.call 66 [(Zt 4), (.c (.i 0)), (Zt 8)]),Zo 10 (.un .not (Zt 9)),Zm 3 10] []) .ret))
def V143 : List RV := [.t 3]
theorem m143 : mtcF Try.prog 143 2 A143 V143 = true := by kernel_rfl
def A119 : ACode := (.seq (.reg [Zo 2 (.box 2 (Zt 0)),Zo 4 (.mv (.c (.b false)))] []) (.seq (.reg [Zo 5 (.load 2 true (Zt 2)),Zo 6 (.call 65 [(Zt 5)]),Zm 7 6,⟨(some 8), .mv (Zt 1), (some (7, true))⟩,⟨(some 9), .mkf 143 [(Zt 2)], (some (7, true))⟩,⟨(some 10), .call 68 [(Zt 8), (Zt 9)], (some (7, true))⟩,⟨(some 11), .un .not (Zt 10), (some (7, true))⟩,Zo 12 (.pick (Zt 7) (Zt 11) (.c (.b false))),Zm 4 12] []) .ret))
def V119 : List RV := [.t 4]
theorem m119 : mtcF Try.prog 119 2 A119 V119 = true := by kernel_rfl
def A86 : ACode := (.seq (.reg [Zo 4 (.box 2 (Zt 0)),Zo 5 (.box 2 (Zt 1)),Zo 8 (.mv (.c (.b false)))] []) (.seq (.reg [Zo 9 (.load 2 true (Zt 4)),Zo 10 (.load 2 true (Zt 5)),Zo 11 (.call 20 [(Zt 9), (Zt 10)]),Zm 12 11,⟨(some 13), .load 2 true (Zt 4), (some (12, true))⟩,⟨(some 14), .mv (Zt 2), (some (12, true))⟩,⟨(some 15), .mv (Zt 3), (some (12, true))⟩,⟨(some 16), .bsl 1 false [(Zt 14), (Zt 15)], (some (12, true))⟩,⟨(some 17), .call 119 [(Zt 13), (Zt 16)], (some (12, true))⟩,Zo 18 (.pick (Zt 12) (Zt 17) (.c (.b false))),Zm 19 18,⟨(some 20), .mv (Zt 2), (some (19, true))⟩,⟨(some 21), .mv (Zt 3), (some (19, true))⟩,⟨(some 22), .bin .neq (Zt 20) (Zt 21), (some (19, true))⟩,Zo 23 (.pick (Zt 19) (Zt 22) (.c (.b false))),Zm 8 23] []) .ret))
def V86 : List RV := [.t 8]
theorem m86 : mtcF Try.prog 86 4 A86 V86 = true := by kernel_rfl
def A90 : ACode := (.seq (.reg [Zo 2 (.mv (.c (.lst .u 1 [])))] [.s 2]) (.seq (.reg [Zo 3 (.bsl 1 false []),Zm 4 0,Zo 5 (.app 1 8 false (Zt 3) (Zt 4)),Zm 2 5] [.s 2]) .ret))
def V90 : List RV := [.t 2]
theorem m90 : mtcF Try.prog 90 1 A90 V90 = true := by kernel_rfl
def A142L1 : ACode := (.seq (.reg [Zb 9 .lss 8 7] []) (.seq (.cond (Zt 9) .skip (.exit 0)) (.seq (.blk 1 (.seq (.reg [Zm 10 8,Zm 5 10] []) (.seq (.reg [Zm 11 1,Zm 12 0,Zm 13 5,Zx 14 1 12 13,Zl 15 14,Zb 16 .eql 11 15] []) (.cond (Zt 16) (.seq (.reg [Zm 17 5,Zm 4 17] []) .ret) .skip)))) (.reg [Zd 18 .add 8 1,Zm 8 18] []))))
def A142R2 : ACode := (.seq (.reg [Zn 4 (-1)] []) .ret)
def A142 : ACode := (.seq (.reg [Zn 4 0] []) (.seqa (.reg [Zm 6 0,Zk 7 6,Zn 8 0] []) (.blk 0 (.loop A142L1)) [] [] A142R2))
def V142 : List RV := [.t 4]
theorem m142 : mtcF Try.prog 142 2 A142 V142 = true := by kernel_rfl
def A118 : ACode := (.seq (.reg [Zo 4 (.mv (.c (.b false)))] []) (.seq (.reg [Zm 5 0,Zm 6 1,Zo 7 (.call 142 [(Zt 5), (Zt 6)]),Zd 8 .geq 7 0,Zm 4 8] []) .ret))
def V118 : List RV := [.t 4]
theorem m118 : mtcF Try.prog 118 2 A118 V118 = true := by kernel_rfl
def A84L1 : ACode := (.seq (.reg [Zb 15 .lss 14 13] []) (.seq (.cond (Zt 15) .skip (.exit 0)) (.seq (.blk 1 (.seq (.reg [Zm 16 14,Zm 6 16] []) (.reg [Zm 17 5,Zm 18 6,Zo 19 (.bsl 1 false [(Zt 18)]),Zo 20 (.app 1 8 true (Zt 17) (Zt 19)),Zm 5 20] [.s 5]))) (.reg [Zd 21 .add 14 1,Zm 14 21] []))))
def A84L3 : ACode := (.seq (.reg [Zb 31 .lss 30 29] []) (.seq (.cond (Zt 31) .skip (.exit 4)) (.seq (.blk 5 (.seq (.reg [Zm 32 30,Zx 33 4 28 30,Zo 34 (.load 4 true (Zt 33)),Zo 8 (.alloc (.agg [.i 0, .i 0, .i 0, .i 0])),Zm 7 32,⟨none, .store 4 (Zt 8) (Zt 34), none⟩] []) (.seq (.reg [Zm 35 1,Zm 36 7,Zo 37 (.call 118 [(Zt 35), (Zt 36)]),Zo 38 (.un .not (Zt 37))] []) (.cond (Zt 38) (.seq (.drw [Zm 39 5,Za 40 0 8,Zl 41 40,Zx 42 1 39 41,Zl 43 42,Zm 44 5,Za 45 1 8,Zl 46 45,Zx 47 1 44 46,Zl 48 47,Zo 49 (.mn (Zt 43) (Zt 48)),Zm 9 49] []) (.drw [Zm 50 5,Za 51 0 8,Zo 52 (.ldv 1 false (Zt 51)),Zm 53 5,Za 54 1 8,Zo 55 (.ldv 1 false (Zt 54)),Zm 56 9,Zm 57 9,Zx 58 1 50 52,⟨none, .str 1 (Zt 58) (Zt 56), none⟩,Zx 59 1 53 55,⟨none, .str 1 (Zt 59) (Zt 57), none⟩] [])) .skip)))) (.reg [Zd 60 .add 30 1,Zm 30 60] []))))
def A84R4 : ACode := (.reg [Zd 61 .add 25 1,Zm 25 61] [])
def A84L5 : ACode := (.seq (.reg [Zb 26 .lss 25 24] []) (.seq (.cond (Zt 26) .skip (.exit 2)) (.seqr (.blk 3 (.seq (.reg [Za 27 1 2,Zl 28 27,Zk 29 28,Zn 30 0] []) (.blk 4 (.loop A84L3)))) [1, 2, 5, 24, 25] [2, 5] A84R4)))
def A84R6 : ACode := (.seq (.reg [Zm 62 5,Zm 4 62] [.s 4]) .ret)
def A84R2 : ACode := (.seqa (.reg [Za 22 0 2,Zl 23 22,Zk 24 23,Zn 25 0] []) (.blk 2 (.loop A84L5)) [5] [5] A84R6)
def A84 : ACode := (.seq (.reg [Zo 2 (.box 2 (Zt 0)),Zo 4 (.mv (.c (.lst .u 1 [])))] [.s 4]) (.seq (.reg [Zo 10 (.bsl 1 false []),Zm 5 10] [.s 5]) (.seqa (.reg [Za 11 0 2,Zl 12 11,Zk 13 12,Zn 14 0] []) (.blk 0 (.loop A84L1)) [1, 2, 5] [2, 5] A84R2)))
def V84 : List RV := [.t 4]
theorem m84 : mtcF Try.prog 84 2 A84 V84 = true := by kernel_rfl
def A120 : ACode := (.seq (.reg [Zo 5 (.mv (.c (.b false)))] []) (.seq (.reg [Zo 7 (.load 2 true (Zt 1)),Zm 8 0,Zo 9 (.call 84 [(Zt 7), (Zt 8)]),Zm 6 9] [.s 6]) (.seq (.drw [Zm 10 6,Zl 11 2,Zx 12 1 10 11,Zl 13 12,Zm 14 6,Zl 15 3,Zx 16 1 14 15,Zl 17 16,Zb 18 .eql 13 17,Zm 5 18] []) .ret)))
def V120 : List RV := [.t 5]
theorem m120 : mtcF Try.prog 120 4 A120 V120 = true := by kernel_rfl
def A79L1 : ACode := (.seq (.reg [Zb 12 .lss 11 10] []) (.seq (.cond (Zt 12) .skip (.exit 0)) (.seq (.blk 1 (.seq (.reg [Zm 13 11,Zx 14 1 9 11,Zl 15 14,Zm 6 13,Zm 7 15] []) (.seq (.reg [Zm 16 1,Zm 17 6,Zb 18 .shr 16 17,Zd 19 .and 18 1,Zd 20 .eql 19 1] []) (.cond (Zt 20) (.reg [Zm 21 5,Zm 22 7,Zb 23 .mul 21 22,Zm 5 23] []) (.reg [Zm 24 5,Za 25 0 2,Zl 26 25,Zm 27 7,Zb 28 .sub 26 27,Zb 29 .mul 24 28,Zm 5 29] []))))) (.reg [Zd 30 .add 11 1,Zm 11 30] []))))
def A79R2 : ACode := (.seq (.reg [Zm 31 5,Zm 4 31] []) .ret)
def A79 : ACode := (.seq (.reg [Zo 2 (.box 2 (Zt 0)),Zn 4 0] []) (.seq (.reg [Zn 5 1] []) (.seqa (.reg [Za 8 1 2,Zl 9 8,Zk 10 9,Zn 11 0] []) (.blk 0 (.loop A79L1)) [5] [] A79R2)))
def V79 : List RV := [.t 4]
theorem m79 : mtcF Try.prog 79 2 A79 V79 = true := by kernel_rfl
def A81L1 : ACode := (.seq (.reg [Zb 31 .lss 30 29] []) (.seq (.cond (Zt 31) .skip (.exit 2)) (.seq (.blk 3 (.seq (.reg [Zm 32 30,Zx 33 1 28 30,Zl 34 33,Zm 12 32,Zm 13 34] [.s 13]) (.seq (.reg [Zm 35 9,Zm 36 12,Zb 37 .shr 35 36,Zd 38 .and 37 1,Zd 39 .eql 38 1] []) (.cond (Zt 39) (.reg [Zm 40 11,Zm 41 13,Zo 42 (.app 1 8 false (Zt 40) (Zt 41)),Zm 11 42] [.s 11]) .skip)))) (.reg [Zd 43 .add 30 1,Zm 30 43] []))))
def A81R2 : ACode := (.seq (.reg [Zm 44 2,Zm 45 11,Zo 46 (.dyn (Zt 44) [(Zt 45)])] []) (.cond (Zt 46) (.reg [Zm 47 7,Zm 48 10,Zb 49 .add 47 48,Zm 7 49] []) .skip))
def A81L3 : ACode := (.seq (.reg [Zb 20 .lss 19 18] []) (.seq (.cond (Zt 20) .skip (.exit 0)) (.seq (.blk 1 (.seq (.reg [Zm 21 19,Zm 9 21] []) (.seq (.reg [Zo 22 (.load 2 true (Zt 3)),Zm 23 9,Zo 24 (.call 79 [(Zt 22), (Zt 23)]),Zm 10 24] []) (.seq (.seq (.reg [Zm 25 10,Zd 26 .eql 25 0] []) (.cond (Zt 26) (.exit 1) .skip)) (.seq (.reg [Zo 27 (.bsl 1 false []),Zm 11 27] [.s 11]) (.seqa (.reg [Zm 28 8,Zk 29 28,Zn 30 0] []) (.blk 2 (.loop A81L1)) [2, 3, 7, 8, 10, 11, 18, 19] [3, 8, 11] A81R2)))))) (.reg [Zd 50 .add 19 1,Zm 19 50] []))))
def A81R4 : ACode := (.seq (.reg [Zm 51 7,Zm 6 51] []) .ret)
def A81 : ACode := (.seq (.reg [Zo 3 (.box 2 (Zt 0)),Zo 4 (.box 2 (Zt 1)),Zn 6 0] []) (.seq (.reg [Zo 14 (.load 2 true (Zt 4)),Zo 15 (.call 67 [(Zt 14)]),Zn 7 0,Zm 8 15] [.s 8]) (.seqa (.reg [Zm 16 8,Zk 17 16,Zo 18 (.bin .shl (.c (.i 1)) (Zt 17)),Zn 19 0] []) (.blk 0 (.loop A81L3)) [7] [] A81R4)))
def V81 : List RV := [.t 6]
theorem m81 : mtcF Try.prog 81 3 A81 V81 = true := by kernel_rfl
def A87 : ACode := (.seq (.reg [Zo 4 (.box 2 (Zt 0)),Zo 5 (.box 2 (Zt 1)),Zo 6 (.box 1 (Zt 2)),Zo 7 (.box 1 (Zt 3)),Zn 8 0] []) (.seq (.reg [Zo 9 (.load 2 true (Zt 4)),Zo 10 (.load 2 true (Zt 5)),Zo 11 (.mkf 120 [(Zt 5), (Zt 6), (Zt 7)]),Zo 12 (.call 81 [(Zt 9), (Zt 10), (Zt 11)]),Zm 8 12] []) .ret))
def V87 : List RV := [.t 8]
theorem m87 : mtcF Try.prog 87 4 A87 V87 = true := by kernel_rfl
def A35R1 : ACode := (.cond (Zt 28) (.seq (.reg [Zn 10 0,Zo 11 (.mv (.c (.b false)))] []) .ret) .skip)
def A35 : ACode := (.seq (.reg [Zo 5 (.box 2 (Zt 0)),Zo 6 (.box 2 (Zt 1)),Zn 10 0,Zo 11 (.mv (.c (.b false)))] []) (.seq (.seqr (.reg [Zo 14 (.load 2 true (Zt 5)),Zo 15 (.load 2 true (Zt 6)),Zm 16 2,Zm 17 3,Zo 18 (.call 86 [(Zt 14), (Zt 15), (Zt 16), (Zt 17)]),Zo 19 (.un .not (Zt 18)),Zm 20 19,⟨(some 21), .mv (Zt 4), (some (20, false))⟩,⟨(some 22), .fad 1 (Zt 6), (some (20, false))⟩,⟨(some 23), .load 1 false (Zt 22), (some (20, false))⟩,⟨(some 24), .len (Zt 23), (some (20, false))⟩,⟨(some 25), .bin .sub (Zt 24) (.c (.i 1)), (some (20, false))⟩,⟨(some 26), .call 66 [(Zt 21), (.c (.i 0)), (Zt 25)], (some (20, false))⟩,⟨(some 27), .un .not (Zt 26), (some (20, false))⟩,Zo 28 (.pick (Zt 20) (.c (.b true)) (Zt 27))] []) [2, 3, 4, 5, 6, 28] [5, 6] A35R1) (.seq (.drw [Zo 29 (.fdv 0 (Zt 6)),Zo 30 (.ldv 1 false (Zt 29)),Zo 31 (.fdv 1 (Zt 6)),Zo 32 (.ldv 1 false (Zt 31)),Zo 33 (.call 90 [(Zt 32)]),Zo 34 (.build [.i 0, .lst .u 1 []] [(0, 1, (Zt 30)), (1, 1, (Zt 33))]),Zo 35 (.fdv 0 (Zt 6)),Zo 36 (.ldv 1 false (Zt 35)),Zo 37 (.fdv 1 (Zt 6)),Zo 38 (.ldv 1 false (Zt 37)),Zo 39 (.call 90 [(Zt 38)]),Zo 40 (.build [.i 0, .lst .u 1 []] [(0, 1, (Zt 36)), (1, 1, (Zt 39))]),Zo 12 (.alloc (.agg [.i 0, .lst .u 1 []])),Zo 13 (.alloc (.agg [.i 0, .lst .u 1 []])),⟨none, .stv 2 (Zt 12) (Zt 34), none⟩,⟨none, .store 2 (Zt 13) (Zt 40), none⟩] []) (.seq (.drw [Za 41 1 12,Zo 42 (.ldv 1 false (Zt 41)),Zm 43 4,Za 44 1 13,Zo 45 (.ldv 1 false (Zt 44)),Zm 46 4,Za 47 0 6,Zo 48 (.ldv 1 false (Zt 47)),Zx 49 1 42 43,⟨none, .str 1 (Zt 49) (.c (.i 0)), none⟩,Zx 50 1 45 46,⟨none, .str 1 (Zt 50) (Zt 48), none⟩] []) (.seq (.drw [Zo 51 (.load 2 true (Zt 12)),Zo 52 (.load 2 true (Zt 5)),Zm 53 2,Zm 54 3,Zo 55 (.call 87 [(Zt 51), (Zt 52), (Zt 53), (Zt 54)]),Zo 56 (.load 2 true (Zt 13)),Zo 57 (.load 2 true (Zt 5)),Zm 58 2,Zm 59 3,Zo 60 (.call 87 [(Zt 56), (Zt 57), (Zt 58), (Zt 59)]),Zb 61 .sub 55 60,Zm 10 61,Zo 11 (.mv (.c (.b true)))] []) .ret)))))
def V35 : List RV := [.t 10, .t 11]
theorem m35 : mtcF Try.prog 35 5 A35 V35 = true := by kernel_rfl
def A70L1 : ACode := (.seq (.seq (.reg [Zm 11 5,Zm 12 0,Zk 13 12,Zb 14 .lss 11 13] []) (.cond (Zt 14) .skip (.exit 0))) (.seq (.blk 1 (.seq (.drw [Zm 17 0,Zm 18 5,Zx 19 1 17 18,Zl 20 19,Zm 21 1,Zm 22 5,Zx 23 1 21 22,Zl 24 23,Zb 25 .neq 20 24] []) (.cond (Zt 25) (.seq (.reg [Zo 4 (.mv (.c (.b false)))] []) .ret) .skip))) (.reg [Zm 15 5,Zd 16 .add 15 1,Zm 5 16] [])))
def A70R2 : ACode := (.seq (.reg [Zo 4 (.mv (.c (.b true)))] []) .ret)
def A70 : ACode := (.seq (.reg [Zo 4 (.mv (.c (.b false)))] []) (.seq (.seq (.reg [Zm 6 0,Zk 7 6,Zm 8 1,Zk 9 8,Zb 10 .neq 7 9] []) (.cond (Zt 10) (.seq (.reg [Zo 4 (.mv (.c (.b false)))] []) .ret) .skip)) (.seqa (.reg [Zn 5 0] []) (.blk 0 (.loop A70L1)) [] [] A70R2)))
def V70 : List RV := [.t 4]
theorem m70 : mtcF Try.prog 70 2 A70 V70 = true := by kernel_rfl
def A117 : ACode := (.seq (.reg [Zo 2 (.box 4 (Zt 0)),Zo 3 (.box 4 (Zt 1)),Zo 4 (.mv (.c (.b false)))] []) (.seq (.seq (.reg [Za 5 0 2,Zl 6 5,Za 7 0 3,Zl 8 7,Zb 9 .neq 6 8] []) (.cond (Zt 9) (.seq (.reg [Zo 4 (.mv (.c (.b false)))] []) .ret) .skip)) (.seq (.seq (.reg [Za 10 1 2,Zl 11 10,Za 12 1 3,Zl 13 12,Zb 14 .neq 11 13] []) (.cond (Zt 14) (.seq (.reg [Zo 4 (.mv (.c (.b false)))] []) .ret) .skip)) (.seq (.seq (.reg [Za 15 2 2,Zl 16 15,Za 17 2 3,Zl 18 17,Zb 19 .neq 16 18] []) (.cond (Zt 19) (.seq (.reg [Zo 4 (.mv (.c (.b false)))] []) .ret) .skip)) (.seq (.seq (.reg [Za 20 3 2,Zl 21 20,Za 22 3 3,Zl 23 22,Zb 24 .neq 21 23] []) (.cond (Zt 24) (.seq (.reg [Zo 4 (.mv (.c (.b false)))] []) .ret) .skip)) (.seq (.reg [Zo 4 (.mv (.c (.b true)))] []) .ret))))))
def V117 : List RV := [.t 4]
theorem m117 : mtcF Try.prog 117 2 A117 V117 = true := by kernel_rfl
def A71L1 : ACode := (.seq (.seq (.reg [Zm 11 5,Zm 12 0,Zk 13 12,Zb 14 .lss 11 13] []) (.cond (Zt 14) .skip (.exit 0))) (.seq (.blk 1 (.seq (.drw [Zm 17 0,Zm 18 5,Zx 19 4 17 18,Zo 20 (.load 4 true (Zt 19)),Zm 21 1,Zm 22 5,Zx 23 4 21 22,Zo 24 (.load 4 true (Zt 23)),Zo 25 (.call 117 [(Zt 20), (Zt 24)]),Zo 26 (.un .not (Zt 25))] []) (.cond (Zt 26) (.seq (.reg [Zo 4 (.mv (.c (.b false)))] []) .ret) .skip))) (.reg [Zm 15 5,Zd 16 .add 15 1,Zm 5 16] [])))
def A71R2 : ACode := (.seq (.reg [Zo 4 (.mv (.c (.b true)))] []) .ret)
def A71 : ACode := (.seq (.reg [Zo 4 (.mv (.c (.b false)))] []) (.seq (.seq (.reg [Zm 6 0,Zk 7 6,Zm 8 1,Zk 9 8,Zb 10 .neq 7 9] []) (.cond (Zt 10) (.seq (.reg [Zo 4 (.mv (.c (.b false)))] []) .ret) .skip)) (.seqa (.reg [Zn 5 0] []) (.blk 0 (.loop A71L1)) [] [] A71R2)))
def V71 : List RV := [.t 4]
theorem m71 : mtcF Try.prog 71 2 A71 V71 = true := by kernel_rfl
def A21 : ACode := (.seq (.reg [Zo 2 (.box 2 (Zt 0)),Zo 3 (.box 2 (Zt 1)),Zo 4 (.mv (.c (.b false)))] []) (.seq (.seq (.reg [Za 5 0 2,Zl 6 5,Za 7 0 3,Zl 8 7,Zo 9 (.call 70 [(Zt 6), (Zt 8)]),Zo 10 (.un .not (Zt 9))] []) (.cond (Zt 10) (.seq (.reg [Zo 4 (.mv (.c (.b false)))] []) .ret) .skip)) (.seq (.seq (.reg [Za 11 1 2,Zl 12 11,Za 13 1 3,Zl 14 13,Zo 15 (.call 71 [(Zt 12), (Zt 14)]),Zo 16 (.un .not (Zt 15))] []) (.cond (Zt 16) (.seq (.reg [Zo 4 (.mv (.c (.b false)))] []) .ret) .skip)) (.seq (.reg [Zo 4 (.mv (.c (.b true)))] []) .ret))))
def V21 : List RV := [.t 4]
theorem m21 : mtcF Try.prog 21 2 A21 V21 = true := by kernel_rfl
def A28L1 : ACode := (.seq (.seq (.reg [Zm 11 5,Zm 12 0,Zk 13 12,Zb 14 .lss 11 13] []) (.cond (Zt 14) .skip (.exit 0))) (.seq (.blk 1 (.seq (.drw [Zm 17 0,Zm 18 5,Zx 19 1 17 18,Zl 20 19,Zm 21 1,Zm 22 5,Zx 23 1 21 22,Zl 24 23,Zb 25 .neq 20 24] []) (.cond (Zt 25) (.seq (.reg [Zo 4 (.mv (.c (.b false)))] []) .ret) .skip))) (.reg [Zm 15 5,Zd 16 .add 15 1,Zm 5 16] [])))
def A28R2 : ACode := (.seq (.reg [Zo 4 (.mv (.c (.b true)))] []) .ret)
def A28 : ACode := (.seq (.reg [Zo 4 (.mv (.c (.b false)))] []) (.seq (.seq (.reg [Zm 6 0,Zk 7 6,Zm 8 1,Zk 9 8,Zb 10 .neq 7 9] []) (.cond (Zt 10) (.seq (.reg [Zo 4 (.mv (.c (.b false)))] []) .ret) .skip)) (.seqa (.reg [Zn 5 0] []) (.blk 0 (.loop A28L1)) [] [] A28R2)))
def V28 : List RV := [.t 4]
theorem m28 : mtcF Try.prog 28 2 A28 V28 = true := by kernel_rfl
def A22 : ACode := (.seq (.reg [Zo 2 (.box 2 (Zt 0)),Zo 3 (.box 2 (Zt 1)),Zo 4 (.mv (.c (.b false)))] []) (.seq (.seq (.reg [Za 5 0 2,Zl 6 5,Za 7 0 3,Zl 8 7,Zb 9 .neq 6 8] []) (.cond (Zt 9) (.seq (.reg [Zo 4 (.mv (.c (.b false)))] []) .ret) .skip)) (.seq (.seq (.reg [Za 10 1 2,Zl 11 10,Za 12 1 3,Zl 13 12,Zo 14 (.call 28 [(Zt 11), (Zt 13)]),Zo 15 (.un .not (Zt 14))] []) (.cond (Zt 15) (.seq (.reg [Zo 4 (.mv (.c (.b false)))] []) .ret) .skip)) (.seq (.reg [Zo 4 (.mv (.c (.b true)))] []) .ret))))
def V22 : List RV := [.t 4]
theorem m22 : mtcF Try.prog 22 2 A22 V22 = true := by kernel_rfl
def A9R1 : ACode := (.cond (Zt 59) (.seq (.reg [Zo 10 (.mv (.c (.b false)))] []) .ret) .skip)
def A9 : ACode := (.seq (.reg [Zo 5 (.box 2 (Zt 0)),Zo 6 (.box 2 (Zt 1)),Zo 10 (.mv (.c (.b false)))] []) (.seq (.reg [Zn 11 1048576] []) (.seq (.reg [Zo 18 (.load 2 true (Zt 5)),Zm 19 11,Zo 20 (.call 15 [(Zt 18), (Zt 19)]),Zm 11 20] []) (.seq (.seq (.reg [Zm 21 11,Zd 22 .lss 21 0] []) (.cond (Zt 22) (.seq (.reg [Zo 10 (.mv (.c (.b true)))] []) .ret) .skip)) (.seq (.reg [Zo 23 (.load 2 true (Zt 6)),Zm 24 11,Zo 25 (.call 16 [(Zt 23), (Zt 24)]),Zm 11 25] []) (.seq (.seq (.reg [Zm 26 11,Zd 27 .lss 26 0] []) (.cond (Zt 27) (.seq (.reg [Zo 10 (.mv (.c (.b true)))] []) .ret) .skip)) (.seq (.drw [Zo 29 (.load 2 true (Zt 5)),Zo 30 (.call 18 [(Zt 29)]),Zo 31 (.load 2 true (Zt 6)),Zo 32 (.call 19 [(Zt 31)]),Zm 33 2,Zm 34 3,Zm 35 4,Zo 36 (.call 36 [(Zt 30), (Zt 32), (Zt 33), (Zt 34), (Zt 35)]),Zm 28 36,Ze 37 28 0,Ze 38 28 1,Zm 12 37,Zm 13 38] []) (.seq (.reg [Zo 39 (.load 2 true (Zt 5)),Zo 40 (.call 18 [(Zt 39)]),Zo 14 (.alloc (.agg [.lst .u 1 [], .lst .u 4 []])),⟨none, .store 2 (Zt 14) (Zt 40), none⟩] []) (.seq (.reg [Zo 41 (.load 2 true (Zt 6)),Zo 42 (.call 19 [(Zt 41)]),Zo 15 (.alloc (.agg [.i 0, .lst .u 1 []])),⟨none, .store 2 (Zt 15) (Zt 42), none⟩] []) (.seq (.reg [Zo 44 (.load 2 true (Zt 14)),Zo 45 (.load 2 true (Zt 15)),Zm 46 2,Zm 47 3,Zm 48 4,Zo 49 (.call 35 [(Zt 44), (Zt 45), (Zt 46), (Zt 47), (Zt 48)]),Zm 43 49,Ze 50 43 0,Ze 51 43 1,Zm 16 50,Zm 17 51] []) (.seq (.seqr (.reg [Zm 52 16,Zm 53 12,Zb 54 .neq 52 53,Zm 55 54,⟨(some 56), .mv (Zt 17), (some (55, false))⟩,⟨(some 57), .mv (Zt 13), (some (55, false))⟩,⟨(some 58), .beq true (Zt 56) (Zt 57), (some (55, false))⟩,Zo 59 (.pick (Zt 55) (.c (.b true)) (Zt 58))] []) [5, 6, 14, 15, 59] [5, 6, 14, 15, 40, 42, 1040] A9R1) (.seq (.seq (.drw [Zo 60 (.load 2 true (Zt 14)),Zo 61 (.load 2 true (Zt 5)),Zo 62 (.call 18 [(Zt 61)]),Zo 63 (.call 21 [(Zt 60), (Zt 62)]),Zo 64 (.un .not (Zt 63))] []) (.cond (Zt 64) (.seq (.reg [Zo 10 (.mv (.c (.b false)))] []) .ret) .skip)) (.seq (.seq (.drw [Zo 65 (.load 2 true (Zt 15)),Zo 66 (.load 2 true (Zt 6)),Zo 67 (.call 19 [(Zt 66)]),Zo 68 (.call 22 [(Zt 65), (Zt 67)]),Zo 69 (.un .not (Zt 68))] []) (.cond (Zt 69) (.seq (.reg [Zo 10 (.mv (.c (.b false)))] []) .ret) .skip)) (.seq (.reg [Zo 10 (.mv (.c (.b true)))] []) .ret))))))))))))))
def V9 : List RV := [.t 10]
theorem m9 : mtcF Try.prog 9 5 A9 V9 = true := by kernel_rfl
end Vs

