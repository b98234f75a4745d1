/-
  Part of the proof that the law FnExactConnectionAvailability returns true at every input; no condition beside the row's own.
-/
import Derived.Test.YtgafcocdchcgeaaFe
import Derived.Test.YtgafcocdchcgeaaChecked
import Derived.KernelRfl
set_option linter.unusedSimpArgs false
set_option linter.unusedVariables false
namespace Vs
open Go
structure TFiber where
  A : Int
  B : Int
  Length : Int
  Risk : Int
  deriving DecidableEq
def e_TFiber (f : Fl) (x : TFiber) : AV := .agg [.i x.A, .i x.B, .i x.Length, .i x.Risk]
theorem e_TFiber_nrm (f : Fl) (x : TFiber) : (e_TFiber f x).nrm = e_TFiber .o x := by simp [e_TFiber, nrm_sc, nrm_lst, nrm_agg, nrm_sc]
theorem e_TFiber_nrmm (f : Fl) (xs : List TFiber) : (xs.map (e_TFiber f)).map AV.nrm = xs.map (e_TFiber .o) := by simp [e_TFiber_nrm]
theorem e_TFiber_als (f : Fl) (x : TFiber) : (e_TFiber f x).als = e_TFiber f.als x := by simp [e_TFiber, als_sc, als_lst, als_agg, nrm_sc]
theorem e_TFiber_alsm (f : Fl) (xs : List TFiber) : (xs.map (e_TFiber f)).map AV.als = xs.map (e_TFiber f.als) := by simp [e_TFiber_als]
theorem e_TFiber_fix (f : Fl) (x : TFiber) : (e_TFiber f x).fix = e_TFiber f.fix x := by simp [e_TFiber, fix_sc, fix_lst, fix_agg, nrm_sc]
theorem e_TFiber_fixm (f : Fl) (xs : List TFiber) : (xs.map (e_TFiber f)).map AV.fix = xs.map (e_TFiber f.fix) := by simp [e_TFiber_fix]
theorem e_TFiber_fz (x : TFiber) : (e_TFiber .o x).fz = true := by simp [e_TFiber, AV.i, AV.b, AV.z, fz_sc, fz_lsto, fz_agg, fzL_nil, fzL_cons, fzL_mi, fzL_mb, fzL_mz, fzL_m8, fzL_m64, ouL_m8, ouL_m64, ou_sc, ou_lstu, ou_agg, ouL_nil, ouL_cons, ouL_mi, ouL_mb, ouL_mz]
theorem e_TFiber_fzm (xs : List TFiber) : fzL (xs.map (e_TFiber .o)) = true := fzL_of e_TFiber_fz xs
theorem e_TFiber_ou (x : TFiber) : (e_TFiber .u x).ouB = true := by simp [e_TFiber, AV.i, AV.b, AV.z, fz_sc, fz_lsto, fz_agg, fzL_nil, fzL_cons, fzL_mi, fzL_mb, fzL_mz, fzL_m8, fzL_m64, ouL_m8, ouL_m64, ou_sc, ou_lstu, ou_agg, ouL_nil, ouL_cons, ouL_mi, ouL_mb, ouL_mz]
theorem e_TFiber_oum (xs : List TFiber) : ouBL (xs.map (e_TFiber .u)) = true := ouL_of e_TFiber_ou xs
structure TNetwork where
  Nodes : List ByteArray
  Fibers : List TFiber
def e_TNetwork (f : Fl) (x : TNetwork) : AV := .agg [.lst f 1 (x.Nodes.map AV.z), .lst f 4 (x.Fibers.map (e_TFiber f))]
theorem e_TNetwork_nrm (f : Fl) (x : TNetwork) : (e_TNetwork f x).nrm = e_TNetwork .o x := by simp [e_TNetwork, nrm_sc, nrm_lst, nrm_agg, e_TFiber_nrm, map_nrm_i, map_nrm_z]
theorem e_TNetwork_nrmm (f : Fl) (xs : List TNetwork) : (xs.map (e_TNetwork f)).map AV.nrm = xs.map (e_TNetwork .o) := by simp [e_TNetwork_nrm]
theorem e_TNetwork_als (f : Fl) (x : TNetwork) : (e_TNetwork f x).als = e_TNetwork f.als x := by simp [e_TNetwork, als_sc, als_lst, als_agg, e_TFiber_als, map_als_i, map_als_z]
theorem e_TNetwork_alsm (f : Fl) (xs : List TNetwork) : (xs.map (e_TNetwork f)).map AV.als = xs.map (e_TNetwork f.als) := by simp [e_TNetwork_als]
theorem e_TNetwork_fix (f : Fl) (x : TNetwork) : (e_TNetwork f x).fix = e_TNetwork f.fix x := by simp [e_TNetwork, fix_sc, fix_lst, fix_agg, e_TFiber_fix, map_fix_i, map_fix_z]
theorem e_TNetwork_fixm (f : Fl) (xs : List TNetwork) : (xs.map (e_TNetwork f)).map AV.fix = xs.map (e_TNetwork f.fix) := by simp [e_TNetwork_fix]
theorem e_TNetwork_fz (x : TNetwork) : (e_TNetwork .o x).fz = true := by simp [e_TNetwork, AV.i, AV.b, AV.z, fz_sc, fz_lsto, fz_agg, fzL_nil, fzL_cons, fzL_mi, fzL_mb, fzL_mz, fzL_m8, fzL_m64, ouL_m8, ouL_m64, ou_sc, ou_lstu, ou_agg, ouL_nil, ouL_cons, ouL_mi, ouL_mb, ouL_mz, e_TFiber_fzm, e_TFiber_oum]
theorem e_TNetwork_fzm (xs : List TNetwork) : fzL (xs.map (e_TNetwork .o)) = true := fzL_of e_TNetwork_fz xs
theorem e_TNetwork_ou (x : TNetwork) : (e_TNetwork .u x).ouB = true := by simp [e_TNetwork, AV.i, AV.b, AV.z, fz_sc, fz_lsto, fz_agg, fzL_nil, fzL_cons, fzL_mi, fzL_mb, fzL_mz, fzL_m8, fzL_m64, ouL_m8, ouL_m64, ou_sc, ou_lstu, ou_agg, ouL_nil, ouL_cons, ouL_mi, ouL_mb, ouL_mz, e_TFiber_fzm, e_TFiber_oum]
theorem e_TNetwork_oum (xs : List TNetwork) : ouBL (xs.map (e_TNetwork .u)) = true := ouL_of e_TNetwork_ou xs
structure TOutage where
  Unit : Int
  Down : List Int
  deriving DecidableEq
def e_TOutage (f : Fl) (x : TOutage) : AV := .agg [.i x.Unit, .lst f 1 (x.Down.map AV.i)]
theorem e_TOutage_nrm (f : Fl) (x : TOutage) : (e_TOutage f x).nrm = e_TOutage .o x := by simp [e_TOutage, nrm_sc, nrm_lst, nrm_agg, map_nrm_i]
theorem e_TOutage_nrmm (f : Fl) (xs : List TOutage) : (xs.map (e_TOutage f)).map AV.nrm = xs.map (e_TOutage .o) := by simp [e_TOutage_nrm]
theorem e_TOutage_als (f : Fl) (x : TOutage) : (e_TOutage f x).als = e_TOutage f.als x := by simp [e_TOutage, als_sc, als_lst, als_agg, map_als_i]
theorem e_TOutage_alsm (f : Fl) (xs : List TOutage) : (xs.map (e_TOutage f)).map AV.als = xs.map (e_TOutage f.als) := by simp [e_TOutage_als]
theorem e_TOutage_fix (f : Fl) (x : TOutage) : (e_TOutage f x).fix = e_TOutage f.fix x := by simp [e_TOutage, fix_sc, fix_lst, fix_agg, map_fix_i]
theorem e_TOutage_fixm (f : Fl) (xs : List TOutage) : (xs.map (e_TOutage f)).map AV.fix = xs.map (e_TOutage f.fix) := by simp [e_TOutage_fix]
theorem e_TOutage_fz (x : TOutage) : (e_TOutage .o x).fz = true := by simp [e_TOutage, AV.i, AV.b, AV.z, fz_sc, fz_lsto, fz_agg, fzL_nil, fzL_cons, fzL_mi, fzL_mb, fzL_mz, fzL_m8, fzL_m64, ouL_m8, ouL_m64, ou_sc, ou_lstu, ou_agg, ouL_nil, ouL_cons, ouL_mi, ouL_mb, ouL_mz]
theorem e_TOutage_fzm (xs : List TOutage) : fzL (xs.map (e_TOutage .o)) = true := fzL_of e_TOutage_fz xs
theorem e_TOutage_ou (x : TOutage) : (e_TOutage .u x).ouB = true := by simp [e_TOutage, AV.i, AV.b, AV.z, fz_sc, fz_lsto, fz_agg, fzL_nil, fzL_cons, fzL_mi, fzL_mb, fzL_mz, fzL_m8, fzL_m64, ouL_m8, ouL_m64, ou_sc, ou_lstu, ou_agg, ouL_nil, ouL_cons, ouL_mi, ouL_mb, ouL_mz]
theorem e_TOutage_oum (xs : List TOutage) : ouBL (xs.map (e_TOutage .u)) = true := ouL_of e_TOutage_ou xs
def e_Li (f : Fl) (xs : List Int) : AV := .lst f 1 (xs.map AV.i)
theorem e_Li_nrm (f : Fl) (x : List Int) : (e_Li f x).nrm = e_Li .o x := by simp [e_Li, nrm_sc, nrm_lst, nrm_agg, map_nrm_i]
theorem e_Li_nrmm (f : Fl) (xs : List (List Int)) : (xs.map (e_Li f)).map AV.nrm = xs.map (e_Li .o) := by simp [e_Li_nrm]
theorem e_Li_als (f : Fl) (x : List Int) : (e_Li f x).als = e_Li f.als x := by simp [e_Li, als_sc, als_lst, als_agg, map_als_i]
theorem e_Li_alsm (f : Fl) (xs : List (List Int)) : (xs.map (e_Li f)).map AV.als = xs.map (e_Li f.als) := by simp [e_Li_als]
theorem e_Li_fix (f : Fl) (x : List Int) : (e_Li f x).fix = e_Li f.fix x := by simp [e_Li, fix_sc, fix_lst, fix_agg, map_fix_i]
theorem e_Li_fixm (f : Fl) (xs : List (List Int)) : (xs.map (e_Li f)).map AV.fix = xs.map (e_Li f.fix) := by simp [e_Li_fix]
theorem e_Li_fz (x : List Int) : (e_Li .o x).fz = true := by simp [e_Li, AV.i, AV.b, AV.z, fz_sc, fz_lsto, fz_agg, fzL_nil, fzL_cons, fzL_mi, fzL_mb, fzL_mz, fzL_m8, fzL_m64, ouL_m8, ouL_m64, ou_sc, ou_lstu, ou_agg, ouL_nil, ouL_cons, ouL_mi, ouL_mb, ouL_mz]
theorem e_Li_fzm (xs : List (List Int)) : fzL (xs.map (e_Li .o)) = true := fzL_of e_Li_fz xs
theorem e_Li_ou (x : List Int) : (e_Li .u x).ouB = true := by simp [e_Li, AV.i, AV.b, AV.z, fz_sc, fz_lsto, fz_agg, fzL_nil, fzL_cons, fzL_mi, fzL_mb, fzL_mz, fzL_m8, fzL_m64, ouL_m8, ouL_m64, ou_sc, ou_lstu, ou_agg, ouL_nil, ouL_cons, ouL_mi, ouL_mb, ouL_mz]
theorem e_Li_oum (xs : List (List Int)) : ouBL (xs.map (e_Li .u)) = true := ouL_of e_Li_ou xs
def M_laws_szStringSL1 (aZ0 : List ByteArray) (sZ2 : Int × Int) : Option ((Int × Int) ⊕ (Int ⊕ Int)) :=
  cond (decide (sZ2.2 < (aZ0.length : Int))) ((geti aZ0 sZ2.2).bind fun yZ4 => cond (decide ((IntKind.wrap .i64 (sZ2.1 - (yZ4.size : Int))) < 0)) (some (.inr (.inr (-1)))) (some (.inl (IntKind.wrap .i64 (sZ2.1 - (yZ4.size : Int)), IntKind.wrap .i64 (sZ2.2 + 1))))) (some (.inr (.inl sZ2.1)))
def M_laws_szStringS (aZ0 : List ByteArray) (leftZ0 : Int) : Option Int :=
  cond (decide ((IntKind.wrap .i64 (leftZ0 - (aZ0.length : Int))) < 0)) (some (-1)) ((iter (M_laws_szStringSL1 aZ0) N0 (IntKind.wrap .i64 (leftZ0 - (aZ0.length : Int)), 0)).bind fun oZ6 => (match oZ6 with | .inl vZ7 => some vZ7 | .inr xZ8 => some xZ8))
def M_laws_szFiberS (aZ0 : List TFiber) (leftZ0 : Int) : Option Int :=
  cond (decide ((IntKind.wrap .i64 (leftZ0 - (aZ0.length : Int))) < 0)) (some (-1)) (some (IntKind.wrap .i64 (leftZ0 - (aZ0.length : Int))))
def M_laws_szNetwork (aZ0 : TNetwork) (leftZ0 : Int) : Option Int :=
  (M_laws_szStringS aZ0.Nodes leftZ0).bind fun rZ1 => cond (decide (rZ1 < 0)) (some (-1)) ((M_laws_szFiberS aZ0.Fibers rZ1).bind fun rZ3 => cond (decide (rZ3 < 0)) (some (-1)) (some rZ3))
def M_laws_szIntS (aZ0 : List Int) (leftZ0 : Int) : Option Int :=
  cond (decide ((IntKind.wrap .i64 (leftZ0 - (aZ0.length : Int))) < 0)) (some (-1)) (some (IntKind.wrap .i64 (leftZ0 - (aZ0.length : Int))))
def M_laws_szOutage (aZ0 : TOutage) (leftZ0 : Int) : Option Int :=
  (M_laws_szIntS aZ0.Down leftZ0).bind fun rZ1 => cond (decide (rZ1 < 0)) (some (-1)) (some rZ1)
def M_laws_toStringSL1 (aZ0 : List ByteArray) (sZ4 : Int × List ByteArray) : Option ((Int × List ByteArray) ⊕ (List ByteArray)) :=
  cond (decide (sZ4.1 < (aZ0.length : Int))) ((geti aZ0 sZ4.1).bind fun yZ6 => (grd (0 ≤ sZ4.1 ∧ sZ4.1 < (sZ4.2.length : Int))).bind fun kZ7 => (sZ4.2[(Int.toNat sZ4.1)]?).bind fun yZ8 => bnd (sZ4.2.set (Int.toNat sZ4.1) yZ6) fun lZ9 => some (.inl (IntKind.wrap .i64 (sZ4.1 + 1), lZ9))) (some (.inr sZ4.2))
def M_laws_toStringS (aZ0 : List ByteArray) : Option (List ByteArray) :=
  (grd (0 ≤ (aZ0.length : Int) ∧ (aZ0.length : Int) ≤ (aZ0.length : Int) ∧ (aZ0.length : Int) * ((16 : Nat) : Int) ≤ 140737488355328 ∧ (aZ0.length : Int) ≤ 9223372036854775807)).bind fun uZ1 => bnd (List.replicate (Int.toNat (aZ0.length : Int)) (⟨#[]⟩)) fun lZ2 => (iter (M_laws_toStringSL1 aZ0) N0 (0, lZ2)).bind fun oZ11 => some oZ11
def M_laws_toFiber (aZ0 : TFiber) : Option TFiber :=
  some (⟨aZ0.A, aZ0.B, aZ0.Length, aZ0.Risk⟩ : TFiber)
def M_laws_toFiberSL1 (aZ0 : List TFiber) (sZ4 : Int × List TFiber) : Option ((Int × List TFiber) ⊕ (List TFiber)) :=
  cond (decide (sZ4.1 < (aZ0.length : Int))) ((geti aZ0 sZ4.1).bind fun yZ6 => (M_laws_toFiber yZ6).bind fun rZ7 => (grd (0 ≤ sZ4.1 ∧ sZ4.1 < (sZ4.2.length : Int))).bind fun kZ8 => (sZ4.2[(Int.toNat sZ4.1)]?).bind fun yZ9 => bnd (sZ4.2.set (Int.toNat sZ4.1) rZ7) fun lZ10 => some (.inl (IntKind.wrap .i64 (sZ4.1 + 1), lZ10))) (some (.inr sZ4.2))
def M_laws_toFiberS (aZ0 : List TFiber) : Option (List TFiber) :=
  (grd (0 ≤ (aZ0.length : Int) ∧ (aZ0.length : Int) ≤ (aZ0.length : Int) ∧ (aZ0.length : Int) * ((32 : Nat) : Int) ≤ 140737488355328 ∧ (aZ0.length : Int) ≤ 9223372036854775807)).bind fun uZ1 => bnd (List.replicate (Int.toNat (aZ0.length : Int)) (⟨0, 0, 0, 0⟩ : TFiber)) fun lZ2 => (iter (M_laws_toFiberSL1 aZ0) N0 (0, lZ2)).bind fun oZ12 => some oZ12
def M_laws_toNetwork (aZ0 : TNetwork) : Option TNetwork :=
  (M_laws_toStringS aZ0.Nodes).bind fun rZ1 => (M_laws_toFiberS aZ0.Fibers).bind fun rZ2 => some (⟨rZ1, rZ2⟩ : TNetwork)
def M_laws_toIntSL1 (aZ0 : List Int) (sZ4 : Int × List Int) : Option ((Int × List Int) ⊕ (List Int)) :=
  cond (decide (sZ4.1 < (aZ0.length : Int))) ((geti aZ0 sZ4.1).bind fun yZ6 => (grd (0 ≤ sZ4.1 ∧ sZ4.1 < (sZ4.2.length : Int))).bind fun kZ7 => (sZ4.2[(Int.toNat sZ4.1)]?).bind fun yZ8 => bnd (sZ4.2.set (Int.toNat sZ4.1) yZ6) fun lZ9 => some (.inl (IntKind.wrap .i64 (sZ4.1 + 1), lZ9))) (some (.inr sZ4.2))
def M_laws_toIntS (aZ0 : List Int) : Option (List Int) :=
  (grd (0 ≤ (aZ0.length : Int) ∧ (aZ0.length : Int) ≤ (aZ0.length : Int) ∧ (aZ0.length : Int) * ((8 : Nat) : Int) ≤ 140737488355328 ∧ (aZ0.length : Int) ≤ 9223372036854775807)).bind fun uZ1 => bnd (List.replicate (Int.toNat (aZ0.length : Int)) 0) fun lZ2 => (iter (M_laws_toIntSL1 aZ0) N0 (0, lZ2)).bind fun oZ11 => some oZ11
def M_laws_toOutage (aZ0 : TOutage) : Option TOutage :=
  (M_laws_toIntS aZ0.Down).bind fun rZ1 => some (⟨aZ0.Unit, rZ1⟩ : TOutage)
def M_spec_l1In (xZ0 : Int) (aZ0 : Int) (bZ0 : Int) : Option Bool :=
  cond (decide (aZ0 ≤ xZ0)) (some (decide (xZ0 ≤ bZ0))) (some false)
def M_spec_l2Sign (bZ0 : Int) : Option Bool :=
  cond (decide (97 ≤ bZ0)) (cond (decide (bZ0 ≤ 122)) (some true) (cond (decide (48 ≤ bZ0)) (some (decide (bZ0 ≤ 57))) (some false))) (cond (decide (48 ≤ bZ0)) (some (decide (bZ0 ≤ 57))) (some false))
def M_spec_l2NameL1 (sZ0 : ByteArray) (sZ7 : Int) : Option (Int ⊕ (Unit ⊕ Bool)) :=
  cond (decide (sZ7 < (sZ0.size : Int))) ((getz sZ0 sZ7).bind fun yZ9 => (M_spec_l2Sign (yZ9.toNat : Int)).bind fun rZ10 => cond (!rZ10) (some (.inr (.inr false))) (some (.inl (IntKind.wrap .i64 (sZ7 + 1))))) (some (.inr (.inl ())))
def M_spec_l2Name (sZ0 : ByteArray) : Option Bool :=
  ((M_spec_l1In (sZ0.size : Int) 1 8).bind fun rZ1 => cond (!rZ1) (some true) ((getz sZ0 0).bind fun yZ3 => cond (decide ((yZ3.toNat : Int) < 97)) (some true) (some (decide (122 < (yZ3.toNat : Int))))) : Option Bool).bind fun oZ5 => cond (oZ5) (some false) ((iter (M_spec_l2NameL1 sZ0) N0 0).bind fun oZ12 => (match oZ12 with | .inl vZ13 => some true | .inr xZ14 => some xZ14))
def M_spec_l2FindL1 (listZ0 : List ByteArray) (nameZ0 : ByteArray) (sZ1 : Int) : Option (Int ⊕ (Unit ⊕ Int)) :=
  cond (decide (sZ1 < (listZ0.length : Int))) ((geti listZ0 sZ1).bind fun yZ3 => cond (yZ3.toList == nameZ0.toList) (some (.inr (.inr sZ1))) (some (.inl (IntKind.wrap .i64 (sZ1 + 1))))) (some (.inr (.inl ())))
def M_spec_l2Find (listZ0 : List ByteArray) (nameZ0 : ByteArray) : Option Int :=
  (iter (M_spec_l2FindL1 listZ0 nameZ0) N0 0).bind fun oZ5 => (match oZ5 with | .inl vZ6 => some (-1) | .inr xZ7 => some xZ7)
def M_spec_l2Fiber (fZ0 : TFiber) (nodesZ0 : Int) : Option Bool :=
  (M_spec_l1In fZ0.A 0 (IntKind.wrap .i64 (nodesZ0 - 1))).bind fun rZ1 => cond (rZ1) ((M_spec_l1In fZ0.B (IntKind.wrap .i64 (fZ0.A + 1)) (IntKind.wrap .i64 (nodesZ0 - 1))).bind fun rZ3 => cond (rZ3) ((M_spec_l1In fZ0.Length 1 5000).bind fun rZ5 => cond (rZ5) ((M_spec_l1In fZ0.Risk 0 9).bind fun rZ7 => some rZ7) (some false)) (some false)) (some false)
def M_spec_l2Before (fZ0 : TFiber) (gZ0 : TFiber) : Option Int :=
  cond (fZ0.A != gZ0.A) (some (IntKind.wrap .i64 (fZ0.A - gZ0.A))) (cond (fZ0.B != gZ0.B) (some (IntKind.wrap .i64 (fZ0.B - gZ0.B))) (cond (fZ0.Length != gZ0.Length) (some (IntKind.wrap .i64 (fZ0.Length - gZ0.Length))) (some (IntKind.wrap .i64 (fZ0.Risk - gZ0.Risk)))))
def M_spec_l2GoodL1 (nZ0 : TNetwork) (sZ5 : Int) : Option (Int ⊕ (Unit ⊕ Bool)) :=
  cond (decide (sZ5 < (nZ0.Nodes.length : Int))) (((geti nZ0.Nodes sZ5).bind fun yZ7 => (M_spec_l2Name yZ7).bind fun rZ8 => cond (!rZ8) (some true) ((M_spec_l2Find nZ0.Nodes yZ7).bind fun rZ10 => some (rZ10 != sZ5)) : Option Bool).bind fun oZ11 => cond (oZ11) (some (.inr (.inr false))) (some (.inl (IntKind.wrap .i64 (sZ5 + 1))))) (some (.inr (.inl ())))
def M_spec_l2GoodL2 (nZ0 : TNetwork) (sZ16 : Int) : Option (Int ⊕ (Unit ⊕ Bool)) :=
  cond (decide (sZ16 < (nZ0.Fibers.length : Int))) (((geti nZ0.Fibers sZ16).bind fun yZ18 => (M_spec_l2Fiber yZ18 (nZ0.Nodes.length : Int)).bind fun rZ19 => cond (!rZ19) (some true) (cond (decide (0 < sZ16)) ((geti nZ0.Fibers (IntKind.wrap .i64 (sZ16 - 1))).bind fun yZ22 => (M_spec_l2Before yZ22 yZ18).bind fun rZ23 => some (decide (0 < rZ23))) (some false)) : Option Bool).bind fun oZ24 => cond (oZ24) (some (.inr (.inr false))) (some (.inl (IntKind.wrap .i64 (sZ16 + 1))))) (some (.inr (.inl ())))
def M_spec_l2Good (nZ0 : TNetwork) : Option Bool :=
  ((M_spec_l1In (nZ0.Nodes.length : Int) 2 8).bind fun rZ1 => cond (!rZ1) (some true) (some (decide (14 < (nZ0.Fibers.length : Int)))) : Option Bool).bind fun oZ3 => cond (oZ3) (some false) ((iter (M_spec_l2GoodL1 nZ0) N0 0).bind fun oZ13 => (match oZ13 with | .inl vZ14 => (iter (M_spec_l2GoodL2 nZ0) N0 0).bind fun oZ26 => (match oZ26 with | .inl vZ27 => some true | .inr xZ28 => some xZ28) | .inr xZ15 => some xZ15))
def M_spec_l2GroupL1 (nZ0 : TNetwork) (fiberZ0 : Int) (sZ7 : Int × List Int) : Option ((Int × List Int) ⊕ (List Int)) :=
  cond (decide (sZ7.1 < (nZ0.Fibers.length : Int))) ((geti nZ0.Fibers sZ7.1).bind fun yZ9 => (geti nZ0.Fibers fiberZ0).bind fun yZ10 => cond (yZ9.Risk == yZ10.Risk) (bnd ([sZ7.1]) fun lZ12 => (grd ((sZ7.2.length + 1) * 8 ≤ 140737488355328)).bind fun uZ15 => bnd (sZ7.2 ++ lZ12) fun lZ16 => some (.inl (IntKind.wrap .i64 (sZ7.1 + 1), lZ16))) (some (.inl (IntKind.wrap .i64 (sZ7.1 + 1), sZ7.2)))) (some (.inr sZ7.2))
def M_spec_l2Group (nZ0 : TNetwork) (fiberZ0 : Int) : Option (List Int) :=
  (geti nZ0.Fibers fiberZ0).bind fun yZ1 => cond (yZ1.Risk == 0) (bnd ([fiberZ0]) fun lZ3 => some lZ3) ((iter (M_spec_l2GroupL1 nZ0 fiberZ0) N0 (0, [])).bind fun oZ19 => some oZ19)
def M_spec_l2GroupsL2 (nZ0 : TNetwork) (sZ1 : Int × List (List Int)) (sZ3 : Int) : Option (Int ⊕ (List (List Int))) :=
  cond (decide (sZ3 < (nZ0.Fibers.length : Int))) ((geti nZ0.Fibers sZ3).bind fun yZ5 => cond (yZ5.Risk == sZ1.1) ((M_spec_l2Group nZ0 sZ3).bind fun rZ7 => bnd ([rZ7]) fun lZ8 => (grd ((sZ1.2.length + 1) * 24 ≤ 140737488355328)).bind fun uZ11 => bnd (sZ1.2 ++ lZ8) fun lZ12 => some (.inr lZ12)) (some (.inl (IntKind.wrap .i64 (sZ3 + 1))))) (some (.inr sZ1.2))
def M_spec_l2GroupsL1 (nZ0 : TNetwork) (sZ1 : Int × List (List Int)) : Option ((Int × List (List Int)) ⊕ (List (List Int))) :=
  cond (decide (sZ1.1 ≤ 9)) (((iter (M_spec_l2GroupsL2 nZ0 sZ1) N0 0).bind fun oZ15 => some oZ15 : Option (List (List Int))).bind fun oZ17 => some (.inl (IntKind.wrap .i64 (sZ1.1 + 1), oZ17))) (some (.inr sZ1.2))
def M_spec_l2GroupsL3 (nZ0 : TNetwork) (sZ19 : Int × List (List Int)) : Option ((Int × List (List Int)) ⊕ (List (List Int))) :=
  cond (decide (sZ19.1 < (nZ0.Fibers.length : Int))) ((geti nZ0.Fibers sZ19.1).bind fun yZ21 => cond (yZ21.Risk == 0) (bnd ([sZ19.1]) fun lZ23 => bnd ([lZ23]) fun lZ27 => (grd ((sZ19.2.length + 1) * 24 ≤ 140737488355328)).bind fun uZ30 => bnd (sZ19.2 ++ lZ27) fun lZ31 => some (.inl (IntKind.wrap .i64 (sZ19.1 + 1), lZ31))) (some (.inl (IntKind.wrap .i64 (sZ19.1 + 1), sZ19.2)))) (some (.inr sZ19.2))
def M_spec_l2Groups (nZ0 : TNetwork) : Option (List (List Int)) :=
  (iter (M_spec_l2GroupsL1 nZ0) N0 (1, [])).bind fun oZ18 => (iter (M_spec_l2GroupsL3 nZ0) N0 (0, oZ18)).bind fun oZ34 => some oZ34
def M_spec_l16GoodL1 (oZ0 : TOutage) (sZ8 : Int) : Option (Int ⊕ (Unit ⊕ Bool)) :=
  cond (decide (sZ8 < (oZ0.Down.length : Int))) ((geti oZ0.Down sZ8).bind fun yZ10 => (M_spec_l1In yZ10 0 oZ0.Unit).bind fun rZ11 => cond (!rZ11) (some (.inr (.inr false))) (some (.inl (IntKind.wrap .i64 (sZ8 + 1))))) (some (.inr (.inl ())))
def M_spec_l16Good (nZ0 : TNetwork) (oZ0 : TOutage) : Option Bool :=
  ((M_spec_l2Good nZ0).bind fun rZ1 => cond (!rZ1) (some true) ((M_spec_l1In oZ0.Unit 2 20).bind fun rZ3 => cond (!rZ3) (some true) ((M_spec_l2Groups nZ0).bind fun rZ5 => some ((oZ0.Down.length : Int) != (rZ5.length : Int)))) : Option Bool).bind fun oZ6 => cond (oZ6) (some false) ((iter (M_spec_l16GoodL1 oZ0) N0 0).bind fun oZ13 => (match oZ13 with | .inl vZ14 => some true | .inr xZ15 => some xZ15))
def M_spec_l6Ends (nZ0 : TNetwork) (fromZ0 : Int) (toZ0 : Int) : Option Bool :=
  (M_spec_l2Good nZ0).bind fun rZ1 => cond (rZ1) ((M_spec_l1In fromZ0 0 (IntKind.wrap .i64 ((nZ0.Nodes.length : Int) - 1))).bind fun rZ3 => cond (rZ3) ((M_spec_l1In toZ0 0 (IntKind.wrap .i64 ((nZ0.Nodes.length : Int) - 1))).bind fun rZ5 => cond (rZ5) (some (fromZ0 != toZ0)) (some false)) (some false)) (some false)
def M_spec_l6MaskL1 (listZ0 : List Int) (sZ1 : Int × Int) : Option ((Int × Int) ⊕ Int) :=
  cond (decide (sZ1.2 < (listZ0.length : Int))) ((geti listZ0 sZ1.2).bind fun yZ3 => (grd (0 ≤ (IntKind.wrap .u64 yZ3))).bind fun uZ4 => some (.inl (bits .or .i64 sZ1.1 (IntKind.wrap .i64 (1 * 2 ^ (min (Int.toNat (IntKind.wrap .u64 yZ3)) (IntKind.bits .i64)))), IntKind.wrap .i64 (sZ1.2 + 1)))) (some (.inr sZ1.1))
def M_spec_l6Mask (listZ0 : List Int) : Option Int :=
  (iter (M_spec_l6MaskL1 listZ0) N0 (0, 0)).bind fun oZ5 => some oZ5
def M_spec_l16GoneL1 (groupsZ0 : List (List Int)) (maskZ0 : Int) (sZ1 : Int × Int) : Option ((Int × Int) ⊕ Int) :=
  cond (decide (sZ1.2 < (groupsZ0.length : Int))) ((grd (0 ≤ (IntKind.wrap .u64 sZ1.2))).bind fun uZ3 => cond ((bits .and .i64 (Int.fdiv maskZ0 (2 ^ (min (Int.toNat (IntKind.wrap .u64 sZ1.2)) (IntKind.bits .i64)))) 1) == 1) ((geti groupsZ0 sZ1.2).bind fun yZ5 => (M_spec_l6Mask yZ5).bind fun rZ6 => some (.inl (bits .or .i64 sZ1.1 rZ6, IntKind.wrap .i64 (sZ1.2 + 1)))) (some (.inl (sZ1.1, IntKind.wrap .i64 (sZ1.2 + 1))))) (some (.inr sZ1.1))
def M_spec_l16Gone (groupsZ0 : List (List Int)) (maskZ0 : Int) : Option Int :=
  (iter (M_spec_l16GoneL1 groupsZ0 maskZ0) N0 (0, 0)).bind fun oZ7 => some oZ7
def M_spec_l1Least (aZ0 : Int) (bZ0 : Int) : Option Int :=
  cond (decide (aZ0 < bZ0)) (some aZ0) (some bZ0)
def M_spec_l6LabelsL1 (nZ0 : TNetwork) (sZ1 : Int × List Int) : Option ((Int × List Int) ⊕ (List Int)) :=
  cond (decide (sZ1.1 < (nZ0.Nodes.length : Int))) (bnd ([sZ1.1]) fun lZ3 => (grd ((sZ1.2.length + 1) * 8 ≤ 140737488355328)).bind fun uZ6 => bnd (sZ1.2 ++ lZ3) fun lZ7 => some (.inl (IntKind.wrap .i64 (sZ1.1 + 1), lZ7))) (some (.inr sZ1.2))
def M_spec_l6LabelsL3 (nZ0 : TNetwork) (goneZ0 : Int) (sZ13 : Bool × Int × List Int) : Option ((Bool × Int × List Int) ⊕ (Bool × List Int)) :=
  cond (decide (sZ13.2.1 < (nZ0.Fibers.length : Int))) ((geti nZ0.Fibers sZ13.2.1).bind fun yZ15 => ((grd (0 ≤ (IntKind.wrap .u64 sZ13.2.1))).bind fun uZ16 => cond ((bits .and .i64 (Int.fdiv goneZ0 (2 ^ (min (Int.toNat (IntKind.wrap .u64 sZ13.2.1)) (IntKind.bits .i64)))) 1) == 1) (some true) ((grd (0 ≤ yZ15.A ∧ yZ15.A < (sZ13.2.2.length : Int))).bind fun kZ18 => (sZ13.2.2[(Int.toNat yZ15.A)]?).bind fun yZ19 => (grd (0 ≤ yZ15.B ∧ yZ15.B < (sZ13.2.2.length : Int))).bind fun kZ20 => (sZ13.2.2[(Int.toNat yZ15.B)]?).bind fun yZ21 => some (yZ19 == yZ21)) : Option Bool).bind fun oZ22 => cond (oZ22) (some (.inl (sZ13.1, IntKind.wrap .i64 (sZ13.2.1 + 1), sZ13.2.2))) ((grd (0 ≤ yZ15.A ∧ yZ15.A < (sZ13.2.2.length : Int))).bind fun kZ24 => (sZ13.2.2[(Int.toNat yZ15.A)]?).bind fun yZ25 => (grd (0 ≤ yZ15.B ∧ yZ15.B < (sZ13.2.2.length : Int))).bind fun kZ26 => (sZ13.2.2[(Int.toNat yZ15.B)]?).bind fun yZ27 => (M_spec_l1Least yZ25 yZ27).bind fun rZ28 => bnd (sZ13.2.2.set (Int.toNat yZ15.A) rZ28) fun lZ29 => (lZ29[(Int.toNat yZ15.B)]?).bind fun yZ31 => bnd (lZ29.set (Int.toNat yZ15.B) rZ28) fun lZ32 => some (.inl (true, IntKind.wrap .i64 (sZ13.2.1 + 1), lZ32)))) (some (.inr (sZ13.1, sZ13.2.2)))
def M_spec_l6LabelsL2 (nZ0 : TNetwork) (goneZ0 : Int) (sZ11 : Bool × List Int) : Option ((Bool × List Int) ⊕ (List Int)) :=
  cond (sZ11.1) ((iter (M_spec_l6LabelsL3 nZ0 goneZ0) N0 (false, 0, sZ11.2)).bind fun oZ34 => some (.inl (oZ34.1, oZ34.2))) (some (.inr sZ11.2))
def M_spec_l6Labels (nZ0 : TNetwork) (goneZ0 : Int) : Option (List Int) :=
  (iter (M_spec_l6LabelsL1 nZ0) N0 (0, [])).bind fun oZ10 => (iter (M_spec_l6LabelsL2 nZ0 goneZ0) N0 (true, oZ10)).bind fun oZ36 => some oZ36
def M_spec_l16WeightL1 (oZ0 : TOutage) (maskZ0 : Int) (sZ1 : Int × Int) : Option ((Int × Int) ⊕ Int) :=
  cond (decide (sZ1.2 < (oZ0.Down.length : Int))) ((grd (0 ≤ (IntKind.wrap .u64 sZ1.2))).bind fun uZ3 => cond ((bits .and .i64 (Int.fdiv maskZ0 (2 ^ (min (Int.toNat (IntKind.wrap .u64 sZ1.2)) (IntKind.bits .i64)))) 1) == 1) ((geti oZ0.Down sZ1.2).bind fun yZ5 => some (.inl (IntKind.wrap .i64 (sZ1.1 * yZ5), IntKind.wrap .i64 (sZ1.2 + 1)))) ((geti oZ0.Down sZ1.2).bind fun yZ6 => some (.inl (IntKind.wrap .i64 (sZ1.1 * (IntKind.wrap .i64 (oZ0.Unit - yZ6))), IntKind.wrap .i64 (sZ1.2 + 1))))) (some (.inr sZ1.1))
def M_spec_l16Weight (oZ0 : TOutage) (maskZ0 : Int) : Option Int :=
  (iter (M_spec_l16WeightL1 oZ0 maskZ0) N0 (1, 0)).bind fun oZ7 => some oZ7
def M_spec_l16ConnectedL2 (rZ6 : List Int) (sZ14 : Bool × Int) : Option ((Bool × Int) ⊕ Bool) :=
  cond (decide (sZ14.2 < (rZ6.length : Int))) (cond (sZ14.1) ((grd (0 ≤ sZ14.2 ∧ sZ14.2 < (rZ6.length : Int))).bind fun kZ17 => (rZ6[(Int.toNat sZ14.2)]?).bind fun yZ18 => some (.inl (yZ18 == 0, IntKind.wrap .i64 (sZ14.2 + 1)))) (some (.inl (false, IntKind.wrap .i64 (sZ14.2 + 1))))) (some (.inr sZ14.1))
def M_spec_l16ConnectedL1 (nZ0 : TNetwork) (oZ0 : TOutage) (fromZ0 : Int) (toZ0 : Int) (rZ1 : List (List Int)) (sZ2 : Int × Int) : Option ((Int × Int) ⊕ Int) :=
  (grd (0 ≤ (IntKind.wrap .u64 (rZ1.length : Int)))).bind fun uZ3 => cond (decide (sZ2.2 < (IntKind.wrap .i64 (1 * 2 ^ (min (Int.toNat (IntKind.wrap .u64 (rZ1.length : Int))) (IntKind.bits .i64)))))) ((M_spec_l16Gone rZ1 sZ2.2).bind fun rZ5 => (M_spec_l6Labels nZ0 rZ5).bind fun rZ6 => (cond (decide (0 ≤ fromZ0)) ((grd (0 ≤ fromZ0 ∧ fromZ0 < (rZ6.length : Int))).bind fun kZ8 => (rZ6[(Int.toNat fromZ0)]?).bind fun yZ9 => (grd (0 ≤ toZ0 ∧ toZ0 < (rZ6.length : Int))).bind fun kZ10 => (rZ6[(Int.toNat toZ0)]?).bind fun yZ11 => some (yZ9 == yZ11)) (some false) : Option Bool).bind fun oZ12 => (cond (decide (fromZ0 < 0)) ((iter (M_spec_l16ConnectedL2 rZ6) N0 (true, 0)).bind fun oZ19 => some oZ19) (some oZ12) : Option Bool).bind fun oZ21 => cond (oZ21) ((M_spec_l16Weight oZ0 sZ2.2).bind fun rZ23 => some (.inl (IntKind.wrap .i64 (sZ2.1 + rZ23), IntKind.wrap .i64 (sZ2.2 + 1)))) (some (.inl (sZ2.1, IntKind.wrap .i64 (sZ2.2 + 1))))) (some (.inr sZ2.1))
def M_spec_l16Connected (nZ0 : TNetwork) (oZ0 : TOutage) (fromZ0 : Int) (toZ0 : Int) : Option Int :=
  (M_spec_l2Groups nZ0).bind fun rZ1 => (iter (M_spec_l16ConnectedL1 nZ0 oZ0 fromZ0 toZ0 rZ1) N0 (0, 0)).bind fun oZ24 => some oZ24
def M_spec_ConnectionAvailability (nZ0 : TNetwork) (oZ0 : TOutage) (fromZ0 : Int) (toZ0 : Int) : Option (Int × Bool) :=
  ((M_spec_l16Good nZ0 oZ0).bind fun rZ1 => cond (!rZ1) (some true) ((M_spec_l6Ends nZ0 fromZ0 toZ0).bind fun rZ3 => some (!rZ3)) : Option Bool).bind fun oZ4 => cond (oZ4) (some (0, false)) ((M_spec_l16Connected nZ0 oZ0 fromZ0 toZ0).bind fun rZ6 => some (rZ6, true))
def M_impl_within (nZ0 : Int) (lowZ0 : Int) (highZ0 : Int) : Option Bool :=
  cond (decide (lowZ0 ≤ nZ0)) (some (decide (nZ0 ≤ highZ0))) (some false)
def M_impl_isNameL1 (sZ0 : ByteArray) (sZ1 : Int) : Option (Int ⊕ (Unit ⊕ Bool)) :=
  cond (decide (sZ1 < (sZ0.size : Int))) (((getz sZ0 sZ1).bind fun yZ3 => cond (decide (97 ≤ (yZ3.toNat : Int))) (cond (decide (48 ≤ (yZ3.toNat : Int))) (some (decide ((yZ3.toNat : Int) ≤ 122), decide ((yZ3.toNat : Int) ≤ 57))) (some (decide ((yZ3.toNat : Int) ≤ 122), false))) (cond (decide (48 ≤ (yZ3.toNat : Int))) (some (false, decide ((yZ3.toNat : Int) ≤ 57))) (some (false, false))) : Option (Bool × Bool)).bind fun oZ7 => cond (!oZ7.1) (cond (!oZ7.2) (some (.inr (.inr false))) (cond (sZ1 == 0) (some (.inr (.inr false))) (some (.inl (IntKind.wrap .i64 (sZ1 + 1)))))) (some (.inl (IntKind.wrap .i64 (sZ1 + 1))))) (some (.inr (.inl ())))
def M_impl_isName (sZ0 : ByteArray) : Option Bool :=
  (iter (M_impl_isNameL1 sZ0) N0 0).bind fun oZ11 => (match oZ11 with | .inl vZ12 => (M_impl_within (sZ0.size : Int) 1 8).bind fun rZ14 => some rZ14 | .inr xZ13 => some xZ13)
def M_slices_Index_Lstring_stringL1 (sZ0 : List ByteArray) (vZ0 : ByteArray) (sZ1 : Int) : Option (Int ⊕ (Unit ⊕ Int)) :=
  cond (decide (sZ1 < (sZ0.length : Int))) ((geti sZ0 sZ1).bind fun yZ3 => cond (vZ0.toList == yZ3.toList) (some (.inr (.inr sZ1))) (some (.inl (IntKind.wrap .i64 (sZ1 + 1))))) (some (.inr (.inl ())))
def M_slices_Index_Lstring_string (sZ0 : List ByteArray) (vZ0 : ByteArray) : Option Int :=
  (iter (M_slices_Index_Lstring_stringL1 sZ0 vZ0) N0 0).bind fun oZ5 => (match oZ5 with | .inl vZ6 => some (-1) | .inr xZ7 => some xZ7)
def M_slices_Contains_Lstring_string (sZ0 : List ByteArray) (vZ0 : ByteArray) : Option Bool :=
  (M_slices_Index_Lstring_string sZ0 vZ0).bind fun rZ1 => some (decide (0 ≤ rZ1))
def M_cmp_isNaN_int (xZ0 : Int) : Option Bool :=
  some (xZ0 != xZ0)
def M_cmp_Compare_int (xZ0 : Int) (yZ0 : Int) : Option Int :=
  (M_cmp_isNaN_int xZ0).bind fun rZ1 => (M_cmp_isNaN_int yZ0).bind fun rZ2 => cond (rZ1) (cond (rZ2) (some 0) (some (-1))) (cond (rZ2) (some 1) (cond (decide (xZ0 < yZ0)) (some (-1)) (cond (decide (yZ0 < xZ0)) (some 1) (some 0))))
def M_cmp_Or_intL1 (valsZ0 : List Int) (sZ1 : Int) : Option (Int ⊕ (Unit ⊕ Int)) :=
  cond (decide (sZ1 < (valsZ0.length : Int))) ((geti valsZ0 sZ1).bind fun yZ3 => cond (yZ3 != 0) (some (.inr (.inr yZ3))) (some (.inl (IntKind.wrap .i64 (sZ1 + 1))))) (some (.inr (.inl ())))
def M_cmp_Or_int (valsZ0 : List Int) : Option Int :=
  (iter (M_cmp_Or_intL1 valsZ0) N0 0).bind fun oZ5 => (match oZ5 with | .inl vZ6 => some 0 | .inr xZ7 => some xZ7)
def M_impl_compareFibers (aZ0 : TFiber) (bZ0 : TFiber) : Option Int :=
  (M_cmp_Compare_int aZ0.A bZ0.A).bind fun rZ1 => (M_cmp_Compare_int aZ0.B bZ0.B).bind fun rZ2 => (M_cmp_Compare_int aZ0.Length bZ0.Length).bind fun rZ3 => (M_cmp_Compare_int aZ0.Risk bZ0.Risk).bind fun rZ4 => bnd ([rZ1, rZ2, rZ3, rZ4]) fun lZ5 => (M_cmp_Or_int lZ5).bind fun rZ9 => some rZ9
def M_impl_IsValidNetworkL1 (nZ0 : TNetwork) (sZ1 : Int) : Option (Int ⊕ (Unit ⊕ Bool)) :=
  cond (decide (sZ1 < (nZ0.Nodes.length : Int))) ((geti nZ0.Nodes sZ1).bind fun yZ3 => (M_impl_isName yZ3).bind fun rZ4 => cond (!rZ4) (some (.inr (.inr false))) ((slT nZ0.Nodes sZ1).bind fun lZ6 => (M_slices_Contains_Lstring_string lZ6 yZ3).bind fun rZ7 => cond (rZ7) (some (.inr (.inr false))) (some (.inl (IntKind.wrap .i64 (sZ1 + 1)))))) (some (.inr (.inl ())))
def M_impl_IsValidNetworkL2 (nZ0 : TNetwork) (sZ12 : Int) : Option (Int ⊕ (Unit ⊕ Bool)) :=
  cond (decide (sZ12 < (nZ0.Fibers.length : Int))) ((geti nZ0.Fibers sZ12).bind fun yZ14 => cond (decide (yZ14.A < 0)) (some (.inr (.inr false))) (cond (decide (yZ14.B ≤ yZ14.A)) (some (.inr (.inr false))) (cond (decide ((nZ0.Nodes.length : Int) ≤ yZ14.B)) (some (.inr (.inr false))) ((M_impl_within yZ14.Length 1 5000).bind fun rZ18 => cond (!rZ18) (some (.inr (.inr false))) ((M_impl_within yZ14.Risk 0 9).bind fun rZ20 => cond (!rZ20) (some (.inr (.inr false))) (cond (decide (0 < sZ12)) ((geti nZ0.Fibers (IntKind.wrap .i64 (sZ12 - 1))).bind fun yZ23 => (M_impl_compareFibers yZ23 yZ14).bind fun rZ24 => cond (decide (0 < rZ24)) (some (.inr (.inr false))) (some (.inl (IntKind.wrap .i64 (sZ12 + 1))))) (some (.inl (IntKind.wrap .i64 (sZ12 + 1)))))))))) (some (.inr (.inl ())))
def M_impl_IsValidNetwork (nZ0 : TNetwork) : Option Bool :=
  (iter (M_impl_IsValidNetworkL1 nZ0) N0 0).bind fun oZ9 => (match oZ9 with | .inl vZ10 => (iter (M_impl_IsValidNetworkL2 nZ0) N0 0).bind fun oZ26 => (match oZ26 with | .inl vZ27 => (M_impl_within (nZ0.Nodes.length : Int) 2 8).bind fun rZ29 => cond (rZ29) (some (decide ((nZ0.Fibers.length : Int) ≤ 14))) (some false) | .inr xZ28 => some xZ28) | .inr xZ11 => some xZ11)
def M_impl_groupsL2 (nZ0 : TNetwork) (sZ1 : Int × List (List Int)) (sZ3 : Int × List Int) : Option ((Int × List Int) ⊕ (List Int)) :=
  cond (decide (sZ3.1 < (nZ0.Fibers.length : Int))) ((geti nZ0.Fibers sZ3.1).bind fun yZ5 => cond (yZ5.Risk == sZ1.1) (bnd ([sZ3.1]) fun lZ7 => (grd ((sZ3.2.length + 1) * 8 ≤ 140737488355328)).bind fun uZ10 => bnd (sZ3.2 ++ lZ7) fun lZ11 => some (.inl (IntKind.wrap .i64 (sZ3.1 + 1), lZ11))) (some (.inl (IntKind.wrap .i64 (sZ3.1 + 1), sZ3.2)))) (some (.inr sZ3.2))
def M_impl_groupsL1 (nZ0 : TNetwork) (sZ1 : Int × List (List Int)) : Option ((Int × List (List Int)) ⊕ (List (List Int))) :=
  cond (decide (sZ1.1 ≤ 9)) ((iter (M_impl_groupsL2 nZ0 sZ1) N0 (0, [])).bind fun oZ14 => cond (decide (0 < (oZ14.length : Int))) (bnd ([oZ14]) fun lZ16 => (grd ((sZ1.2.length + 1) * 24 ≤ 140737488355328)).bind fun uZ19 => bnd (sZ1.2 ++ lZ16) fun lZ20 => some (.inl (IntKind.wrap .i64 (sZ1.1 + 1), lZ20))) (some (.inl (IntKind.wrap .i64 (sZ1.1 + 1), sZ1.2)))) (some (.inr sZ1.2))
def M_impl_groupsL3 (nZ0 : TNetwork) (sZ24 : Int × List (List Int)) : Option ((Int × List (List Int)) ⊕ (List (List Int))) :=
  cond (decide (sZ24.1 < (nZ0.Fibers.length : Int))) ((geti nZ0.Fibers sZ24.1).bind fun yZ26 => cond (yZ26.Risk == 0) (bnd ([sZ24.1]) fun lZ28 => bnd ([lZ28]) fun lZ32 => (grd ((sZ24.2.length + 1) * 24 ≤ 140737488355328)).bind fun uZ35 => bnd (sZ24.2 ++ lZ32) fun lZ36 => some (.inl (IntKind.wrap .i64 (sZ24.1 + 1), lZ36))) (some (.inl (IntKind.wrap .i64 (sZ24.1 + 1), sZ24.2)))) (some (.inr sZ24.2))
def M_impl_groups (nZ0 : TNetwork) : Option (List (List Int)) :=
  (iter (M_impl_groupsL1 nZ0) N0 (1, [])).bind fun oZ23 => (iter (M_impl_groupsL3 nZ0) N0 (0, oZ23)).bind fun oZ39 => some oZ39
def M_slices_IndexFunc_Lint_intL1 (sZ0 : List Int) (fZ0 : Int → Option Bool) (sZ1 : Int) : Option (Int ⊕ (Unit ⊕ Int)) :=
  cond (decide (sZ1 < (sZ0.length : Int))) ((geti sZ0 sZ1).bind fun yZ3 => (fZ0 yZ3).bind fun rZ4 => cond (rZ4) (some (.inr (.inr sZ1))) (some (.inl (IntKind.wrap .i64 (sZ1 + 1))))) (some (.inr (.inl ())))
def M_slices_IndexFunc_Lint_int (sZ0 : List Int) (fZ0 : Int → Option Bool) : Option Int :=
  (iter (M_slices_IndexFunc_Lint_intL1 sZ0 fZ0) N0 0).bind fun oZ6 => (match oZ6 with | .inl vZ7 => some (-1) | .inr xZ8 => some xZ8)
def M_slices_ContainsFunc_Lint_int (sZ0 : List Int) (fZ0 : Int → Option Bool) : Option Bool :=
  (M_slices_IndexFunc_Lint_int sZ0 fZ0).bind fun rZ1 => some (decide (0 ≤ rZ1))
def M_impl_IsValidOutage_c1 (dZ0 : Int) (p1Z0 : TOutage) : Option Bool :=
  (M_impl_within dZ0 0 p1Z0.Unit).bind fun rZ1 => some (!rZ1)
def M_impl_IsValidOutage (nZ0 : TNetwork) (oZ0 : TOutage) : Option Bool :=
  (M_impl_IsValidNetwork nZ0).bind fun rZ1 => cond (rZ1) ((M_impl_within oZ0.Unit 2 20).bind fun rZ3 => cond (rZ3) ((M_impl_groups nZ0).bind fun rZ5 => cond ((oZ0.Down.length : Int) == (rZ5.length : Int)) ((M_slices_ContainsFunc_Lint_int oZ0.Down (fun x0 => M_impl_IsValidOutage_c1 x0 oZ0)).bind fun rZ7 => some (!rZ7)) (some false)) (some false)) (some false)
def M_impl_isNode_c1 (vZ0 : Int) (p1Z0 : TNetwork) : Option Bool :=
  (M_impl_within vZ0 0 (IntKind.wrap .i64 ((p1Z0.Nodes.length : Int) - 1))).bind fun rZ1 => some (!rZ1)
def M_impl_isNode (nZ0 : TNetwork) (nodesZ0 : List Int) : Option Bool :=
  (M_impl_IsValidNetwork nZ0).bind fun rZ1 => cond (rZ1) ((M_slices_ContainsFunc_Lint_int nodesZ0 (fun x0 => M_impl_isNode_c1 x0 nZ0)).bind fun rZ3 => some (!rZ3)) (some false)
def M_impl_isConnection (nZ0 : TNetwork) (oZ0 : TOutage) (fromZ0 : Int) (toZ0 : Int) : Option Bool :=
  (M_impl_IsValidOutage nZ0 oZ0).bind fun rZ1 => cond (rZ1) (bnd ([fromZ0, toZ0]) fun lZ3 => (M_impl_isNode nZ0 lZ3).bind fun rZ7 => cond (rZ7) (some (fromZ0 != toZ0)) (some false)) (some false)
def M_impl_Outage_weightL1 (oZ0 : TOutage) (setZ0 : Int) (sZ1 : Int × Int) : Option ((Int × Int) ⊕ Int) :=
  cond (decide (sZ1.2 < (oZ0.Down.length : Int))) ((geti oZ0.Down sZ1.2).bind fun yZ3 => (grd (0 ≤ sZ1.2)).bind fun uZ4 => cond ((bits .and .i64 (Int.fdiv setZ0 (2 ^ (min (Int.toNat sZ1.2) (IntKind.bits .i64)))) 1) == 1) (some (.inl (IntKind.wrap .i64 (sZ1.1 * yZ3), IntKind.wrap .i64 (sZ1.2 + 1)))) (some (.inl (IntKind.wrap .i64 (sZ1.1 * (IntKind.wrap .i64 (oZ0.Unit - yZ3))), IntKind.wrap .i64 (sZ1.2 + 1))))) (some (.inr sZ1.1))
def M_impl_Outage_weight (oZ0 : TOutage) (setZ0 : Int) : Option Int :=
  (iter (M_impl_Outage_weightL1 oZ0 setZ0) N0 (1, 0)).bind fun oZ6 => some oZ6
def M_impl_Outage_chanceL2 (rZ1 : List (List Int)) (sZ3 : Int × Int) (sZ7 : Int × List Int) : Option ((Int × List Int) ⊕ (List Int)) :=
  cond (decide (sZ7.1 < (rZ1.length : Int))) ((grd (0 ≤ sZ7.1 ∧ sZ7.1 < (rZ1.length : Int))).bind fun kZ9 => (rZ1[(Int.toNat sZ7.1)]?).bind fun yZ10 => (grd (0 ≤ sZ7.1)).bind fun uZ11 => cond ((bits .and .i64 (Int.fdiv sZ3.2 (2 ^ (min (Int.toNat sZ7.1) (IntKind.bits .i64)))) 1) == 1) ((grd ((sZ7.2.length + yZ10.length) * 8 ≤ 140737488355328)).bind fun uZ13 => bnd (sZ7.2 ++ yZ10) fun lZ14 => some (.inl (IntKind.wrap .i64 (sZ7.1 + 1), lZ14))) (some (.inl (IntKind.wrap .i64 (sZ7.1 + 1), sZ7.2)))) (some (.inr sZ7.2))
def M_impl_Outage_chanceL1 (oZ0 : TOutage) (holdsZ0 : (List Int) → Option Bool) (rZ1 : List (List Int)) (sZ3 : Int × Int) : Option ((Int × Int) ⊕ Int) :=
  cond (decide (sZ3.2 < (IntKind.wrap .i64 (1 * 2 ^ (min rZ1.length (IntKind.bits .i64)))))) ((M_impl_Outage_weight oZ0 sZ3.2).bind fun rZ5 => cond (rZ5 == 0) (some (.inl (sZ3.1, IntKind.wrap .i64 (sZ3.2 + 1)))) ((iter (M_impl_Outage_chanceL2 rZ1 sZ3) N0 (0, [])).bind fun oZ17 => (holdsZ0 oZ17).bind fun rZ18 => cond (rZ18) (some (.inl (IntKind.wrap .i64 (sZ3.1 + rZ5), IntKind.wrap .i64 (sZ3.2 + 1)))) (some (.inl (sZ3.1, IntKind.wrap .i64 (sZ3.2 + 1)))))) (some (.inr sZ3.1))
def M_impl_Outage_chance (oZ0 : TOutage) (nZ0 : TNetwork) (holdsZ0 : (List Int) → Option Bool) : Option Int :=
  (M_impl_groups nZ0).bind fun rZ1 => (grd (0 ≤ (rZ1.length : Int))).bind fun uZ2 => (iter (M_impl_Outage_chanceL1 oZ0 holdsZ0 rZ1) N0 (0, 0)).bind fun oZ20 => some oZ20
def M_slices_Index_Lint_intL1 (sZ0 : List Int) (vZ0 : Int) (sZ1 : Int) : Option (Int ⊕ (Unit ⊕ Int)) :=
  cond (decide (sZ1 < (sZ0.length : Int))) ((geti sZ0 sZ1).bind fun yZ3 => cond (vZ0 == yZ3) (some (.inr (.inr sZ1))) (some (.inl (IntKind.wrap .i64 (sZ1 + 1))))) (some (.inr (.inl ())))
def M_slices_Index_Lint_int (sZ0 : List Int) (vZ0 : Int) : Option Int :=
  (iter (M_slices_Index_Lint_intL1 sZ0 vZ0) N0 0).bind fun oZ5 => (match oZ5 with | .inl vZ6 => some (-1) | .inr xZ7 => some xZ7)
def M_slices_Contains_Lint_int (sZ0 : List Int) (vZ0 : Int) : Option Bool :=
  (M_slices_Index_Lint_int sZ0 vZ0).bind fun rZ1 => some (decide (0 ≤ rZ1))
def M_impl_componentsL1 (nZ0 : TNetwork) (sZ1 : Int × List Int) : Option ((Int × List Int) ⊕ (List Int)) :=
  cond (decide (sZ1.1 < (nZ0.Nodes.length : Int))) (bnd ([sZ1.1]) fun lZ3 => (grd ((sZ1.2.length + 1) * 8 ≤ 140737488355328)).bind fun uZ6 => bnd (sZ1.2 ++ lZ3) fun lZ7 => some (.inl (IntKind.wrap .i64 (sZ1.1 + 1), lZ7))) (some (.inr sZ1.2))
def M_impl_componentsL3 (nZ0 : TNetwork) (goneZ0 : List Int) (sZ13 : Int × List Int) : Option ((Int × List Int) ⊕ (List Int)) :=
  cond (decide (sZ13.1 < (nZ0.Fibers.length : Int))) ((geti nZ0.Fibers sZ13.1).bind fun yZ15 => (M_slices_Contains_Lint_int goneZ0 sZ13.1).bind fun rZ16 => cond (!rZ16) ((grd (0 ≤ yZ15.A ∧ yZ15.A < (sZ13.2.length : Int))).bind fun kZ18 => (sZ13.2[(Int.toNat yZ15.A)]?).bind fun yZ19 => (grd (0 ≤ yZ15.B ∧ yZ15.B < (sZ13.2.length : Int))).bind fun kZ20 => (sZ13.2[(Int.toNat yZ15.B)]?).bind fun yZ21 => bnd (sZ13.2.set (Int.toNat yZ15.A) (if yZ21 < yZ19 then yZ21 else yZ19)) fun lZ22 => (lZ22[(Int.toNat yZ15.B)]?).bind fun yZ24 => bnd (lZ22.set (Int.toNat yZ15.B) (if yZ21 < yZ19 then yZ21 else yZ19)) fun lZ25 => some (.inl (IntKind.wrap .i64 (sZ13.1 + 1), lZ25))) (some (.inl (IntKind.wrap .i64 (sZ13.1 + 1), sZ13.2)))) (some (.inr sZ13.2))
def M_impl_componentsL2 (nZ0 : TNetwork) (goneZ0 : List Int) (sZ11 : Int × List Int) : Option ((Int × List Int) ⊕ (List Int)) :=
  cond (decide (sZ11.1 < (nZ0.Nodes.length : Int))) (((iter (M_impl_componentsL3 nZ0 goneZ0) N0 (0, sZ11.2)).bind fun oZ27 => some oZ27 : Option (List Int)).bind fun oZ29 => some (.inl (IntKind.wrap .i64 (sZ11.1 + 1), oZ29))) (some (.inr sZ11.2))
def M_impl_components (nZ0 : TNetwork) (goneZ0 : List Int) : Option (List Int) :=
  (iter (M_impl_componentsL1 nZ0) N0 (0, [])).bind fun oZ10 => (iter (M_impl_componentsL2 nZ0 goneZ0) N0 (0, oZ10)).bind fun oZ30 => some oZ30
def M_impl_Outage_connection_c1 (goneZ0 : List Int) (p1Z0 : TNetwork) (p2Z0 : Int) (p3Z0 : Int) : Option Bool :=
  (M_impl_components p1Z0 goneZ0).bind fun rZ1 => (grd (0 ≤ p2Z0 ∧ p2Z0 < (rZ1.length : Int))).bind fun kZ2 => (rZ1[(Int.toNat p2Z0)]?).bind fun yZ3 => (grd (0 ≤ p3Z0 ∧ p3Z0 < (rZ1.length : Int))).bind fun kZ4 => (rZ1[(Int.toNat p3Z0)]?).bind fun yZ5 => some (yZ3 == yZ5)
def M_impl_Outage_connection (oZ0 : TOutage) (nZ0 : TNetwork) (fromZ0 : Int) (toZ0 : Int) : Option Int :=
  (M_impl_Outage_chance oZ0 nZ0 (fun x0 => M_impl_Outage_connection_c1 x0 nZ0 fromZ0 toZ0)).bind fun rZ1 => some rZ1
def M_impl_ConnectionAvailability (nZ0 : TNetwork) (oZ0 : TOutage) (fromZ0 : Int) (toZ0 : Int) : Option (Int × Bool) :=
  (M_impl_isConnection nZ0 oZ0 fromZ0 toZ0).bind fun rZ1 => cond (!rZ1) (some (0, false)) ((M_impl_Outage_connection oZ0 nZ0 fromZ0 toZ0).bind fun rZ3 => some (rZ3, true))
def M_laws_eqStringSL1 (aZ0 : List ByteArray) (bZ0 : List ByteArray) (sZ2 : Int) : Option (Int ⊕ (Unit ⊕ Bool)) :=
  cond (decide (sZ2 < (aZ0.length : Int))) ((geti aZ0 sZ2).bind fun yZ4 => (geti bZ0 sZ2).bind fun yZ5 => cond (!(yZ4.toList == yZ5.toList)) (some (.inr (.inr false))) (some (.inl (IntKind.wrap .i64 (sZ2 + 1))))) (some (.inr (.inl ())))
def M_laws_eqStringS (aZ0 : List ByteArray) (bZ0 : List ByteArray) : Option Bool :=
  cond ((aZ0.length : Int) != (bZ0.length : Int)) (some false) ((iter (M_laws_eqStringSL1 aZ0 bZ0) N0 0).bind fun oZ7 => (match oZ7 with | .inl vZ8 => some true | .inr xZ9 => some xZ9))
def M_laws_eqFiber (aZ0 : TFiber) (bZ0 : TFiber) : Option Bool :=
  cond (aZ0.A != bZ0.A) (some false) (cond (aZ0.B != bZ0.B) (some false) (cond (aZ0.Length != bZ0.Length) (some false) (cond (aZ0.Risk != bZ0.Risk) (some false) (some true))))
def M_laws_eqFiberSL1 (aZ0 : List TFiber) (bZ0 : List TFiber) (sZ2 : Int) : Option (Int ⊕ (Unit ⊕ Bool)) :=
  cond (decide (sZ2 < (aZ0.length : Int))) ((geti aZ0 sZ2).bind fun yZ4 => (geti bZ0 sZ2).bind fun yZ5 => (M_laws_eqFiber yZ4 yZ5).bind fun rZ6 => cond (!rZ6) (some (.inr (.inr false))) (some (.inl (IntKind.wrap .i64 (sZ2 + 1))))) (some (.inr (.inl ())))
def M_laws_eqFiberS (aZ0 : List TFiber) (bZ0 : List TFiber) : Option Bool :=
  cond ((aZ0.length : Int) != (bZ0.length : Int)) (some false) ((iter (M_laws_eqFiberSL1 aZ0 bZ0) N0 0).bind fun oZ8 => (match oZ8 with | .inl vZ9 => some true | .inr xZ10 => some xZ10))
def M_laws_eqNetwork (aZ0 : TNetwork) (bZ0 : TNetwork) : Option Bool :=
  (M_laws_eqStringS aZ0.Nodes bZ0.Nodes).bind fun rZ1 => cond (!rZ1) (some false) ((M_laws_eqFiberS aZ0.Fibers bZ0.Fibers).bind fun rZ3 => cond (!rZ3) (some false) (some true))
def M_laws_eqIntSL1 (aZ0 : List Int) (bZ0 : List Int) (sZ2 : Int) : Option (Int ⊕ (Unit ⊕ Bool)) :=
  cond (decide (sZ2 < (aZ0.length : Int))) ((geti aZ0 sZ2).bind fun yZ4 => (geti bZ0 sZ2).bind fun yZ5 => cond (yZ4 != yZ5) (some (.inr (.inr false))) (some (.inl (IntKind.wrap .i64 (sZ2 + 1))))) (some (.inr (.inl ())))
def M_laws_eqIntS (aZ0 : List Int) (bZ0 : List Int) : Option Bool :=
  cond ((aZ0.length : Int) != (bZ0.length : Int)) (some false) ((iter (M_laws_eqIntSL1 aZ0 bZ0) N0 0).bind fun oZ7 => (match oZ7 with | .inl vZ8 => some true | .inr xZ9 => some xZ9))
def M_laws_eqOutage (aZ0 : TOutage) (bZ0 : TOutage) : Option Bool :=
  cond (aZ0.Unit != bZ0.Unit) (some false) ((M_laws_eqIntS aZ0.Down bZ0.Down).bind fun rZ2 => cond (!rZ2) (some false) (some true))
def M_laws_FnExactConnectionAvailability (aNZ0 : TNetwork) (aOZ0 : TOutage) (aFromZ0 : Int) (aToZ0 : Int) : Option Bool :=
  (M_laws_szNetwork aNZ0 1048576).bind fun rZ1 => cond (decide (rZ1 < 0)) (some true) ((M_laws_szOutage aOZ0 rZ1).bind fun rZ3 => cond (decide (rZ3 < 0)) (some true) ((M_laws_toNetwork aNZ0).bind fun rZ5 => (M_laws_toOutage aOZ0).bind fun rZ6 => (M_spec_ConnectionAvailability (⟨rZ5.Nodes, rZ5.Fibers⟩ : TNetwork) (⟨rZ6.Unit, rZ6.Down⟩ : TOutage) aFromZ0 aToZ0).bind fun rZ7 => (M_laws_toNetwork aNZ0).bind fun rZ8 => (M_laws_toOutage aOZ0).bind fun rZ9 => (M_impl_ConnectionAvailability (⟨rZ8.Nodes, rZ8.Fibers⟩ : TNetwork) (⟨rZ9.Unit, rZ9.Down⟩ : TOutage) aFromZ0 aToZ0).bind fun rZ10 => (cond (rZ10.1 != rZ7.1) (some true) (some (!(rZ10.2 == rZ7.2))) : Option Bool).bind fun oZ12 => cond (oZ12) (some false) ((M_laws_toNetwork aNZ0).bind fun rZ14 => (M_laws_eqNetwork (⟨rZ8.Nodes, rZ8.Fibers⟩ : TNetwork) (⟨rZ14.Nodes, rZ14.Fibers⟩ : TNetwork)).bind fun rZ15 => cond (!rZ15) (some false) ((M_laws_toOutage aOZ0).bind fun rZ17 => (M_laws_eqOutage (⟨rZ9.Unit, rZ9.Down⟩ : TOutage) (⟨rZ17.Unit, rZ17.Down⟩ : TOutage)).bind fun rZ18 => cond (!rZ18) (some false) (some true)))))
end Vs

namespace Vs
open Go Go.Proofs
theorem hmix : Try.prog.follows .mixedOrders = true := Try.checked.mixed
def A59L1 : ACode := (.seq (.seq (.reg [⟨(some 12), .mv (.t 5), none⟩,
    ⟨(some 13), .mv (.t 0), none⟩,
    ⟨(some 14), .len (.t 13), none⟩,
    ⟨(some 15), .bin .lss (.t 12) (.t 14), none⟩] []) (.cond (.t 15) .skip (.exit 0))) (.seq (.blk 1 (.seq (.reg [⟨(some 18), .mv (.t 1), none⟩,
    ⟨(some 19), .mv (.t 0), none⟩,
    ⟨(some 20), .mv (.t 5), none⟩,
    ⟨(some 21), .idx 1 (.t 19) (.t 20), none⟩,
    ⟨(some 22), .load 1 false (.t 21), none⟩,
    ⟨(some 23), .lenz (.t 22), none⟩,
    ⟨(some 24), .bin .sub (.t 18) (.t 23), none⟩,
    ⟨(some 1), .mv (.t 24), none⟩] []) (.seq (.reg [⟨(some 25), .mv (.t 1), none⟩,
    ⟨(some 26), .bin .lss (.t 25) (.c (.i 0)), none⟩] []) (.cond (.t 26) (.seq (.reg [⟨(some 4), .mv (.c (.i (-1))), none⟩] []) .ret) .skip)))) (.reg [⟨(some 16), .mv (.t 5), none⟩,
    ⟨(some 17), .bin .add (.t 16) (.c (.i 1)), none⟩,
    ⟨(some 5), .mv (.t 17), none⟩] [])))
def A59R2 : ACode := (.seq (.reg [⟨(some 27), .mv (.t 1), none⟩,
    ⟨(some 4), .mv (.t 27), none⟩] []) .ret)
def A59 : ACode := (.seq (.reg [⟨(some 4), .mv (.c (.i 0)), none⟩] []) (.seq (.reg [⟨(some 6), .mv (.t 1), none⟩,
    ⟨(some 7), .mv (.t 0), none⟩,
    ⟨(some 8), .len (.t 7), none⟩,
    ⟨(some 9), .bin .sub (.t 6) (.t 8), none⟩,
    ⟨(some 1), .mv (.t 9), none⟩] []) (.seq (.seq (.reg [⟨(some 10), .mv (.t 1), none⟩,
    ⟨(some 11), .bin .lss (.t 10) (.c (.i 0)), none⟩] []) (.cond (.t 11) (.seq (.reg [⟨(some 4), .mv (.c (.i (-1))), none⟩] []) .ret) .skip)) (.seqa (.reg [⟨(some 5), .mv (.c (.i 0)), none⟩] []) (.blk 0 (.loop A59L1)) [1] [] A59R2))))
def V59 : List RV := [.t 4]
theorem m59 : mtcF Try.prog 59 2 A59 V59 = true := by kernel_rfl
def A60 : ACode := (.seq (.reg [⟨(some 4), .mv (.c (.i 0)), none⟩] []) (.seq (.reg [⟨(some 5), .mv (.t 1), none⟩,
    ⟨(some 6), .mv (.t 0), none⟩,
    ⟨(some 7), .len (.t 6), none⟩,
    ⟨(some 8), .bin .sub (.t 5) (.t 7), none⟩,
    ⟨(some 1), .mv (.t 8), none⟩] []) (.seq (.seq (.reg [⟨(some 9), .mv (.t 1), none⟩,
    ⟨(some 10), .bin .lss (.t 9) (.c (.i 0)), none⟩] []) (.cond (.t 10) (.seq (.reg [⟨(some 4), .mv (.c (.i (-1))), none⟩] []) .ret) .skip)) (.seq (.reg [⟨(some 11), .mv (.t 1), none⟩,
    ⟨(some 4), .mv (.t 11), none⟩] []) .ret))))
def V60 : List RV := [.t 4]
theorem m60 : mtcF Try.prog 60 2 A60 V60 = true := by kernel_rfl
def A15 : ACode := (.seq (.reg [⟨(some 2), .box 2 (.t 0), none⟩,
    ⟨(some 4), .mv (.c (.i 0)), none⟩] []) (.seq (.reg [⟨(some 5), .fad 0 (.t 2), none⟩,
    ⟨(some 6), .load 1 false (.t 5), none⟩,
    ⟨(some 7), .mv (.t 1), none⟩,
    ⟨(some 8), .call 59 [(.t 6), (.t 7)], none⟩,
    ⟨(some 1), .mv (.t 8), none⟩] []) (.seq (.seq (.reg [⟨(some 9), .mv (.t 1), none⟩,
    ⟨(some 10), .bin .lss (.t 9) (.c (.i 0)), none⟩] []) (.cond (.t 10) (.seq (.reg [⟨(some 4), .mv (.c (.i (-1))), none⟩] []) .ret) .skip)) (.seq (.reg [⟨(some 11), .fad 1 (.t 2), none⟩,
    ⟨(some 12), .load 1 false (.t 11), none⟩,
    ⟨(some 13), .mv (.t 1), none⟩,
    ⟨(some 14), .call 60 [(.t 12), (.t 13)], none⟩,
    ⟨(some 1), .mv (.t 14), none⟩] []) (.seq (.seq (.reg [⟨(some 15), .mv (.t 1), none⟩,
    ⟨(some 16), .bin .lss (.t 15) (.c (.i 0)), none⟩] []) (.cond (.t 16) (.seq (.reg [⟨(some 4), .mv (.c (.i (-1))), none⟩] []) .ret) .skip)) (.seq (.reg [⟨(some 17), .mv (.t 1), none⟩,
    ⟨(some 4), .mv (.t 17), none⟩] []) .ret))))))
def V15 : List RV := [.t 4]
theorem m15 : mtcF Try.prog 15 2 A15 V15 = true := by kernel_rfl
def A61 : ACode := (.seq (.reg [⟨(some 4), .mv (.c (.i 0)), none⟩] []) (.seq (.reg [⟨(some 5), .mv (.t 1), none⟩,
    ⟨(some 6), .mv (.t 0), none⟩,
    ⟨(some 7), .len (.t 6), none⟩,
    ⟨(some 8), .bin .sub (.t 5) (.t 7), none⟩,
    ⟨(some 1), .mv (.t 8), none⟩] []) (.seq (.seq (.reg [⟨(some 9), .mv (.t 1), none⟩,
    ⟨(some 10), .bin .lss (.t 9) (.c (.i 0)), none⟩] []) (.cond (.t 10) (.seq (.reg [⟨(some 4), .mv (.c (.i (-1))), none⟩] []) .ret) .skip)) (.seq (.reg [⟨(some 11), .mv (.t 1), none⟩,
    ⟨(some 4), .mv (.t 11), none⟩] []) .ret))))
def V61 : List RV := [.t 4]
theorem m61 : mtcF Try.prog 61 2 A61 V61 = true := by kernel_rfl
def A16 : ACode := (.seq (.reg [⟨(some 2), .box 2 (.t 0), none⟩,
    ⟨(some 4), .mv (.c (.i 0)), none⟩] []) (.seq (.reg [⟨(some 5), .fad 1 (.t 2), none⟩,
    ⟨(some 6), .load 1 false (.t 5), none⟩,
    ⟨(some 7), .mv (.t 1), none⟩,
    ⟨(some 8), .call 61 [(.t 6), (.t 7)], none⟩,
    ⟨(some 1), .mv (.t 8), none⟩] []) (.seq (.seq (.reg [⟨(some 9), .mv (.t 1), none⟩,
    ⟨(some 10), .bin .lss (.t 9) (.c (.i 0)), none⟩] []) (.cond (.t 10) (.seq (.reg [⟨(some 4), .mv (.c (.i (-1))), none⟩] []) .ret) .skip)) (.seq (.reg [⟨(some 11), .mv (.t 1), none⟩,
    ⟨(some 4), .mv (.t 11), none⟩] []) .ret))))
def V16 : List RV := [.t 4]
theorem m16 : mtcF Try.prog 16 2 A16 V16 = true := by kernel_rfl
def A63L1 : ACode := (.seq (.seq (.reg [⟨(some 8), .mv (.t 4), none⟩,
    ⟨(some 9), .mv (.t 0), none⟩,
    ⟨(some 10), .len (.t 9), none⟩,
    ⟨(some 11), .bin .lss (.t 8) (.t 10), none⟩] []) (.cond (.t 11) .skip (.exit 0))) (.seq (.blk 1 (.reg [⟨(some 14), .mv (.t 3), none⟩,
    ⟨(some 15), .mv (.t 4), none⟩,
    ⟨(some 16), .mv (.t 0), none⟩,
    ⟨(some 17), .mv (.t 4), none⟩,
    ⟨(some 18), .idx 1 (.t 16) (.t 17), none⟩,
    ⟨(some 19), .load 1 false (.t 18), none⟩,
    ⟨(some 20), .idx 1 (.t 14) (.t 15), none⟩,
    ⟨none, .store 1 (.t 20) (.t 19), none⟩] [])) (.reg [⟨(some 12), .mv (.t 4), none⟩,
    ⟨(some 13), .bin .add (.t 12) (.c (.i 1)), none⟩,
    ⟨(some 4), .mv (.t 13), none⟩] [])))
def A63R2 : ACode := (.seq (.reg [⟨(some 21), .mv (.t 3), none⟩,
    ⟨(some 2), .mv (.t 21), none⟩] [2]) .ret)
def A63 : ACode := (.seq (.reg [⟨(some 2), .mv (.c (.lst .u 1 [])), none⟩] [2]) (.seq (.reg [⟨(some 5), .mv (.t 0), none⟩,
    ⟨(some 6), .len (.t 5), none⟩,
    ⟨(some 7), .mks 1 (.z ⟨#[]⟩) 16 (.t 6) (.t 6), none⟩,
    ⟨(some 3), .mv (.t 7), none⟩] [3]) (.seqa (.reg [⟨(some 4), .mv (.c (.i 0)), none⟩] []) (.blk 0 (.loop A63L1)) [3] [3] A63R2)))
def V63 : List RV := [.t 2]
theorem m63 : mtcF Try.prog 63 1 A63 V63 = true := by kernel_rfl
def A112 : ACode := (.seq (.reg [⟨(some 1), .box 4 (.t 0), none⟩,
    ⟨(some 2), .alloc (.agg [.i 0, .i 0, .i 0, .i 0]), none⟩] []) (.seq (.reg [⟨(some 3), .alloc (.agg [.i 0, .i 0, .i 0, .i 0]), none⟩] []) (.seq (.reg [⟨(some 4), .fad 0 (.t 1), none⟩,
    ⟨(some 5), .load 1 false (.t 4), none⟩,
    ⟨(some 6), .fad 0 (.t 3), none⟩,
    ⟨none, .store 1 (.t 6) (.t 5), none⟩] []) (.seq (.reg [⟨(some 7), .fad 1 (.t 1), none⟩,
    ⟨(some 8), .load 1 false (.t 7), none⟩,
    ⟨(some 9), .fad 1 (.t 3), none⟩,
    ⟨none, .store 1 (.t 9) (.t 8), none⟩] []) (.seq (.reg [⟨(some 10), .fad 2 (.t 1), none⟩,
    ⟨(some 11), .load 1 false (.t 10), none⟩,
    ⟨(some 12), .fad 2 (.t 3), none⟩,
    ⟨none, .store 1 (.t 12) (.t 11), none⟩] []) (.seq (.reg [⟨(some 13), .fad 3 (.t 1), none⟩,
    ⟨(some 14), .load 1 false (.t 13), none⟩,
    ⟨(some 15), .fad 3 (.t 3), none⟩,
    ⟨none, .store 1 (.t 15) (.t 14), none⟩] []) (.seq (.reg [⟨(some 16), .load 4 true (.t 3), none⟩,
    ⟨none, .store 4 (.t 2) (.t 16), none⟩] []) .ret)))))))
def V112 : List RV := [.c 2 4 true]
theorem m112 : mtcF Try.prog 112 1 A112 V112 = true := by kernel_rfl
def A64L1 : ACode := (.seq (.seq (.reg [⟨(some 8), .mv (.t 4), none⟩,
    ⟨(some 9), .mv (.t 0), none⟩,
    ⟨(some 10), .len (.t 9), none⟩,
    ⟨(some 11), .bin .lss (.t 8) (.t 10), none⟩] []) (.cond (.t 11) .skip (.exit 0))) (.seq (.blk 1 (.reg [⟨(some 14), .mv (.t 3), none⟩,
    ⟨(some 15), .mv (.t 4), none⟩,
    ⟨(some 16), .mv (.t 0), none⟩,
    ⟨(some 17), .mv (.t 4), none⟩,
    ⟨(some 18), .idx 4 (.t 16) (.t 17), none⟩,
    ⟨(some 19), .load 4 true (.t 18), none⟩,
    ⟨(some 20), .call 112 [(.t 19)], none⟩,
    ⟨(some 21), .idx 4 (.t 14) (.t 15), none⟩,
    ⟨none, .store 4 (.t 21) (.t 20), none⟩] [])) (.reg [⟨(some 12), .mv (.t 4), none⟩,
    ⟨(some 13), .bin .add (.t 12) (.c (.i 1)), none⟩,
    ⟨(some 4), .mv (.t 13), none⟩] [])))
def A64R2 : ACode := (.seq (.reg [⟨(some 22), .mv (.t 3), none⟩,
    ⟨(some 2), .mv (.t 22), none⟩] [2]) .ret)
def A64 : ACode := (.seq (.reg [⟨(some 2), .mv (.c (.lst .u 4 [])), none⟩] [2]) (.seq (.reg [⟨(some 5), .mv (.t 0), none⟩,
    ⟨(some 6), .len (.t 5), none⟩,
    ⟨(some 7), .mks 4 (.agg [.i 0, .i 0, .i 0, .i 0]) 32 (.t 6) (.t 6), none⟩,
    ⟨(some 3), .mv (.t 7), none⟩] [3]) (.seqa (.reg [⟨(some 4), .mv (.c (.i 0)), none⟩] []) (.blk 0 (.loop A64L1)) [3] [3] A64R2)))
def V64 : List RV := [.t 2]
theorem m64 : mtcF Try.prog 64 1 A64 V64 = true := by kernel_rfl
def A18 : ACode := (.seq (.reg [⟨(some 1), .box 2 (.t 0), none⟩,
    ⟨(some 2), .alloc (.agg [.lst .u 1 [], .lst .u 4 []]), none⟩] []) (.seq (.reg [⟨(some 3), .alloc (.agg [.lst .u 1 [], .lst .u 4 []]), none⟩] []) (.seq (.reg [⟨(some 4), .fad 0 (.t 1), none⟩,
    ⟨(some 5), .load 1 false (.t 4), none⟩,
    ⟨(some 6), .call 63 [(.t 5)], none⟩,
    ⟨(some 7), .fad 0 (.t 3), none⟩,
    ⟨none, .store 1 (.t 7) (.t 6), none⟩] []) (.seq (.reg [⟨(some 8), .fad 1 (.t 1), none⟩,
    ⟨(some 9), .load 1 false (.t 8), none⟩,
    ⟨(some 10), .call 64 [(.t 9)], none⟩,
    ⟨(some 11), .fad 1 (.t 3), none⟩,
    ⟨none, .store 1 (.t 11) (.t 10), none⟩] []) (.seq (.reg [⟨(some 12), .load 2 true (.t 3), none⟩,
    ⟨none, .store 2 (.t 2) (.t 12), none⟩] []) .ret)))))
def V18 : List RV := [.c 2 2 true]
theorem m18 : mtcF Try.prog 18 1 A18 V18 = true := by kernel_rfl
def A26L1 : ACode := (.seq (.seq (.reg [⟨(some 8), .mv (.t 4), none⟩,
    ⟨(some 9), .mv (.t 0), none⟩,
    ⟨(some 10), .len (.t 9), none⟩,
    ⟨(some 11), .bin .lss (.t 8) (.t 10), none⟩] []) (.cond (.t 11) .skip (.exit 0))) (.seq (.blk 1 (.reg [⟨(some 14), .mv (.t 3), none⟩,
    ⟨(some 15), .mv (.t 4), none⟩,
    ⟨(some 16), .mv (.t 0), none⟩,
    ⟨(some 17), .mv (.t 4), none⟩,
    ⟨(some 18), .idx 1 (.t 16) (.t 17), none⟩,
    ⟨(some 19), .load 1 false (.t 18), none⟩,
    ⟨(some 20), .idx 1 (.t 14) (.t 15), none⟩,
    ⟨none, .store 1 (.t 20) (.t 19), none⟩] [])) (.reg [⟨(some 12), .mv (.t 4), none⟩,
    ⟨(some 13), .bin .add (.t 12) (.c (.i 1)), none⟩,
    ⟨(some 4), .mv (.t 13), none⟩] [])))
def A26R2 : ACode := (.seq (.reg [⟨(some 21), .mv (.t 3), none⟩,
    ⟨(some 2), .mv (.t 21), none⟩] [2]) .ret)
def A26 : ACode := (.seq (.reg [⟨(some 2), .mv (.c (.lst .u 1 [])), none⟩] [2]) (.seq (.reg [⟨(some 5), .mv (.t 0), none⟩,
    ⟨(some 6), .len (.t 5), none⟩,
    ⟨(some 7), .mks 1 (.i 0) 8 (.t 6) (.t 6), none⟩,
    ⟨(some 3), .mv (.t 7), none⟩] [3]) (.seqa (.reg [⟨(some 4), .mv (.c (.i 0)), none⟩] []) (.blk 0 (.loop A26L1)) [3] [3] A26R2)))
def V26 : List RV := [.t 2]
theorem m26 : mtcF Try.prog 26 1 A26 V26 = true := by kernel_rfl
def A19 : ACode := (.seq (.reg [⟨(some 1), .box 2 (.t 0), none⟩,
    ⟨(some 2), .alloc (.agg [.i 0, .lst .u 1 []]), none⟩] []) (.seq (.reg [⟨(some 3), .alloc (.agg [.i 0, .lst .u 1 []]), none⟩] []) (.seq (.reg [⟨(some 4), .fad 0 (.t 1), none⟩,
    ⟨(some 5), .load 1 false (.t 4), none⟩,
    ⟨(some 6), .fad 0 (.t 3), none⟩,
    ⟨none, .store 1 (.t 6) (.t 5), none⟩] []) (.seq (.reg [⟨(some 7), .fad 1 (.t 1), none⟩,
    ⟨(some 8), .load 1 false (.t 7), none⟩,
    ⟨(some 9), .call 26 [(.t 8)], none⟩,
    ⟨(some 10), .fad 1 (.t 3), none⟩,
    ⟨none, .store 1 (.t 10) (.t 9), none⟩] []) (.seq (.reg [⟨(some 11), .load 2 true (.t 3), none⟩,
    ⟨none, .store 2 (.t 2) (.t 11), none⟩] []) .ret)))))
def V19 : List RV := [.c 2 2 true]
theorem m19 : mtcF Try.prog 19 1 A19 V19 = true := by kernel_rfl
def A72 : ACode := (.seq (.reg [⟨(some 6), .mv (.c (.b false)), none⟩] []) (.seq (.reg [⟨(some 7), .mv (.t 0), none⟩,
    ⟨(some 8), .mv (.t 1), none⟩,
    ⟨(some 9), .bin .geq (.t 7) (.t 8), none⟩,
    ⟨(some 10), .mv (.t 9), none⟩,
    ⟨(some 11), .mv (.t 0), (some (10, true))⟩,
    ⟨(some 12), .mv (.t 2), (some (10, true))⟩,
    ⟨(some 13), .bin .leq (.t 11) (.t 12), (some (10, true))⟩,
    ⟨(some 14), .pick (.t 10) (.t 13) (.c (.b false)), none⟩,
    ⟨(some 6), .mv (.t 14), none⟩] []) .ret))
def V72 : List RV := [.t 6]
theorem m72 : mtcF Try.prog 72 3 A72 V72 = true := by kernel_rfl
def A144 : ACode := (.seq (.reg [⟨(some 2), .mv (.c (.b false)), none⟩] []) (.seq (.reg [⟨(some 3), .mv (.t 0), none⟩,
    ⟨(some 4), .bin .geq (.t 3) (.c (.sc (.int .u8 97))), none⟩,
    ⟨(some 5), .mv (.t 4), none⟩,
    ⟨(some 6), .mv (.t 0), (some (5, true))⟩,
    ⟨(some 7), .bin .leq (.t 6) (.c (.sc (.int .u8 122))), (some (5, true))⟩,
    ⟨(some 8), .pick (.t 5) (.t 7) (.c (.b false)), none⟩,
    ⟨(some 9), .mv (.t 8), none⟩,
    ⟨(some 10), .mv (.t 0), (some (9, false))⟩,
    ⟨(some 11), .bin .geq (.t 10) (.c (.sc (.int .u8 48))), (some (9, false))⟩,
    ⟨(some 12), .mv (.t 11), (some (9, false))⟩,
    ⟨(some 13), .mv (.t 0), (some (12, true))⟩,
    ⟨(some 14), .bin .leq (.t 13) (.c (.sc (.int .u8 57))), (some (12, true))⟩,
    ⟨(some 15), .pick (.t 12) (.t 14) (.c (.b false)), (some (9, false))⟩,
    ⟨(some 16), .pick (.t 9) (.c (.b true)) (.t 15), none⟩,
    ⟨(some 2), .mv (.t 16), none⟩] []) .ret))
def V144 : List RV := [.t 2]
theorem m144 : mtcF Try.prog 144 1 A144 V144 = true := by kernel_rfl
def A127R1 : ACode := (.cond (.t 17) (.seq (.reg [⟨(some 2), .mv (.c (.b false)), none⟩] []) .ret) .skip)
def A127L2 : ACode := (.seq (.seq (.reg [⟨(some 18), .mv (.t 3), none⟩,
    ⟨(some 19), .mv (.t 0), none⟩,
    ⟨(some 20), .lenz (.t 19), none⟩,
    ⟨(some 21), .bin .lss (.t 18) (.t 20), none⟩] []) (.cond (.t 21) .skip (.exit 0))) (.seq (.blk 1 (.seq (.reg [⟨(some 24), .mv (.t 0), none⟩,
    ⟨(some 25), .mv (.t 3), none⟩,
    ⟨(some 26), .stri (.t 24) (.t 25), none⟩,
    ⟨(some 27), .call 144 [(.t 26)], none⟩,
    ⟨(some 28), .un .not (.t 27), none⟩] []) (.cond (.t 28) (.seq (.reg [⟨(some 2), .mv (.c (.b false)), none⟩] []) .ret) .skip))) (.reg [⟨(some 22), .mv (.t 3), none⟩,
    ⟨(some 23), .bin .add (.t 22) (.c (.i 1)), none⟩,
    ⟨(some 3), .mv (.t 23), none⟩] [])))
def A127R3 : ACode := (.seq (.reg [⟨(some 2), .mv (.c (.b true)), none⟩] []) .ret)
def A127 : ACode := (.seq (.reg [⟨(some 2), .mv (.c (.b false)), none⟩] []) (.seq (.seqr (.reg [⟨(some 4), .mv (.t 0), none⟩,
    ⟨(some 5), .lenz (.t 4), none⟩,
    ⟨(some 6), .call 72 [(.t 5), (.c (.i 1)), (.c (.i 8))], none⟩,
    ⟨(some 7), .un .not (.t 6), none⟩,
    ⟨(some 8), .mv (.t 7), none⟩,
    ⟨(some 9), .mv (.t 0), (some (8, false))⟩,
    ⟨(some 10), .stri (.t 9) (.c (.i 0)), (some (8, false))⟩,
    ⟨(some 11), .bin .lss (.t 10) (.c (.sc (.int .u8 97))), (some (8, false))⟩,
    ⟨(some 12), .pick (.t 8) (.c (.b true)) (.t 11), none⟩,
    ⟨(some 13), .mv (.t 12), none⟩,
    ⟨(some 14), .mv (.t 0), (some (13, false))⟩,
    ⟨(some 15), .stri (.t 14) (.c (.i 0)), (some (13, false))⟩,
    ⟨(some 16), .bin .gtr (.t 15) (.c (.sc (.int .u8 122))), (some (13, false))⟩,
    ⟨(some 17), .pick (.t 13) (.c (.b true)) (.t 16), none⟩] []) [0, 17] [] A127R1) (.seqa (.reg [⟨(some 3), .mv (.c (.i 0)), none⟩] []) (.blk 0 (.loop A127L2)) [] [] A127R3)))
def V127 : List RV := [.t 2]
theorem m127 : mtcF Try.prog 127 1 A127 V127 = true := by kernel_rfl
def A128L1 : ACode := (.seq (.seq (.reg [⟨(some 6), .mv (.t 5), none⟩,
    ⟨(some 7), .mv (.t 0), none⟩,
    ⟨(some 8), .len (.t 7), none⟩,
    ⟨(some 9), .bin .lss (.t 6) (.t 8), none⟩] []) (.cond (.t 9) .skip (.exit 0))) (.seq (.blk 1 (.seq (.reg [⟨(some 12), .mv (.t 0), none⟩,
    ⟨(some 13), .mv (.t 5), none⟩,
    ⟨(some 14), .idx 1 (.t 12) (.t 13), none⟩,
    ⟨(some 15), .load 1 false (.t 14), none⟩,
    ⟨(some 16), .mv (.t 1), none⟩,
    ⟨(some 17), .bin .eql (.t 15) (.t 16), none⟩] []) (.cond (.t 17) (.seq (.reg [⟨(some 18), .mv (.t 5), none⟩,
    ⟨(some 4), .mv (.t 18), none⟩] []) .ret) .skip))) (.reg [⟨(some 10), .mv (.t 5), none⟩,
    ⟨(some 11), .bin .add (.t 10) (.c (.i 1)), none⟩,
    ⟨(some 5), .mv (.t 11), none⟩] [])))
def A128R2 : ACode := (.seq (.reg [⟨(some 4), .mv (.c (.i (-1))), none⟩] []) .ret)
def A128 : ACode := (.seq (.reg [⟨(some 4), .mv (.c (.i 0)), none⟩] []) (.seqa (.reg [⟨(some 5), .mv (.c (.i 0)), none⟩] []) (.blk 0 (.loop A128L1)) [] [] A128R2))
def V128 : List RV := [.t 4]
theorem m128 : mtcF Try.prog 128 2 A128 V128 = true := by kernel_rfl
def A129 : ACode := (.seq (.reg [⟨(some 2), .box 4 (.t 0), none⟩,
    ⟨(some 4), .mv (.c (.b false)), none⟩] []) (.seq (.reg [⟨(some 5), .fad 0 (.t 2), none⟩,
    ⟨(some 6), .load 1 false (.t 5), none⟩,
    ⟨(some 7), .mv (.t 1), none⟩,
    ⟨(some 8), .bin .sub (.t 7) (.c (.i 1)), none⟩,
    ⟨(some 9), .call 72 [(.t 6), (.c (.i 0)), (.t 8)], none⟩,
    ⟨(some 10), .mv (.t 9), none⟩,
    ⟨(some 11), .fad 1 (.t 2), (some (10, true))⟩,
    ⟨(some 12), .load 1 false (.t 11), (some (10, true))⟩,
    ⟨(some 13), .fad 0 (.t 2), (some (10, true))⟩,
    ⟨(some 14), .load 1 false (.t 13), (some (10, true))⟩,
    ⟨(some 15), .bin .add (.t 14) (.c (.i 1)), (some (10, true))⟩,
    ⟨(some 16), .mv (.t 1), (some (10, true))⟩,
    ⟨(some 17), .bin .sub (.t 16) (.c (.i 1)), (some (10, true))⟩,
    ⟨(some 18), .call 72 [(.t 12), (.t 15), (.t 17)], (some (10, true))⟩,
    ⟨(some 19), .pick (.t 10) (.t 18) (.c (.b false)), none⟩,
    ⟨(some 20), .mv (.t 19), none⟩,
    ⟨(some 21), .fad 2 (.t 2), (some (20, true))⟩,
    ⟨(some 22), .load 1 false (.t 21), (some (20, true))⟩,
    ⟨(some 23), .call 72 [(.t 22), (.c (.i 1)), (.c (.i 5000))], (some (20, true))⟩,
    ⟨(some 24), .pick (.t 20) (.t 23) (.c (.b false)), none⟩,
    ⟨(some 25), .mv (.t 24), none⟩,
    ⟨(some 26), .fad 3 (.t 2), (some (25, true))⟩,
    ⟨(some 27), .load 1 false (.t 26), (some (25, true))⟩,
    ⟨(some 28), .call 72 [(.t 27), (.c (.i 0)), (.c (.i 9))], (some (25, true))⟩,
    ⟨(some 29), .pick (.t 25) (.t 28) (.c (.b false)), none⟩,
    ⟨(some 4), .mv (.t 29), none⟩] []) .ret))
def V129 : List RV := [.t 4]
theorem m129 : mtcF Try.prog 129 2 A129 V129 = true := by kernel_rfl
def A130 : ACode := (.seq (.reg [⟨(some 2), .box 4 (.t 0), none⟩,
    ⟨(some 3), .box 4 (.t 1), none⟩,
    ⟨(some 4), .mv (.c (.i 0)), none⟩] []) (.seq (.blk 0 (.seq (.reg [⟨(some 6), .fad 0 (.t 2), none⟩,
    ⟨(some 7), .load 1 false (.t 6), none⟩,
    ⟨(some 8), .fad 0 (.t 3), none⟩,
    ⟨(some 9), .load 1 false (.t 8), none⟩,
    ⟨(some 10), .bin .neq (.t 7) (.t 9), none⟩,
    ⟨(some 5), .mv (.t 10), none⟩] []) (.cond (.t 5) (.seq (.reg [⟨(some 11), .fad 0 (.t 2), none⟩,
    ⟨(some 12), .load 1 false (.t 11), none⟩,
    ⟨(some 13), .fad 0 (.t 3), none⟩,
    ⟨(some 14), .load 1 false (.t 13), none⟩,
    ⟨(some 15), .bin .sub (.t 12) (.t 14), none⟩,
    ⟨(some 4), .mv (.t 15), none⟩] []) .ret) (.seq (.reg [⟨(some 17), .fad 1 (.t 2), none⟩,
    ⟨(some 18), .load 1 false (.t 17), none⟩,
    ⟨(some 19), .fad 1 (.t 3), none⟩,
    ⟨(some 20), .load 1 false (.t 19), none⟩,
    ⟨(some 21), .bin .neq (.t 18) (.t 20), none⟩,
    ⟨(some 16), .mv (.t 21), none⟩] []) (.cond (.t 16) (.seq (.reg [⟨(some 22), .fad 1 (.t 2), none⟩,
    ⟨(some 23), .load 1 false (.t 22), none⟩,
    ⟨(some 24), .fad 1 (.t 3), none⟩,
    ⟨(some 25), .load 1 false (.t 24), none⟩,
    ⟨(some 26), .bin .sub (.t 23) (.t 25), none⟩,
    ⟨(some 4), .mv (.t 26), none⟩] []) .ret) (.seq (.reg [⟨(some 28), .fad 2 (.t 2), none⟩,
    ⟨(some 29), .load 1 false (.t 28), none⟩,
    ⟨(some 30), .fad 2 (.t 3), none⟩,
    ⟨(some 31), .load 1 false (.t 30), none⟩,
    ⟨(some 32), .bin .neq (.t 29) (.t 31), none⟩,
    ⟨(some 27), .mv (.t 32), none⟩] []) (.cond (.t 27) (.seq (.reg [⟨(some 33), .fad 2 (.t 2), none⟩,
    ⟨(some 34), .load 1 false (.t 33), none⟩,
    ⟨(some 35), .fad 2 (.t 3), none⟩,
    ⟨(some 36), .load 1 false (.t 35), none⟩,
    ⟨(some 37), .bin .sub (.t 34) (.t 36), none⟩,
    ⟨(some 4), .mv (.t 37), none⟩] []) .ret) .skip))))))) (.seq (.reg [⟨(some 38), .fad 3 (.t 2), none⟩,
    ⟨(some 39), .load 1 false (.t 38), none⟩,
    ⟨(some 40), .fad 3 (.t 3), none⟩,
    ⟨(some 41), .load 1 false (.t 40), none⟩,
    ⟨(some 42), .bin .sub (.t 39) (.t 41), none⟩,
    ⟨(some 4), .mv (.t 42), none⟩] []) .ret)))
def V130 : List RV := [.t 4]
theorem m130 : mtcF Try.prog 130 2 A130 V130 = true := by kernel_rfl
def A98R1 : ACode := (.cond (.t 15) (.seq (.reg [⟨(some 2), .mv (.c (.b false)), none⟩] []) .ret) .skip)
def A98R2 : ACode := (.cond (.t 41) (.seq (.reg [⟨(some 2), .mv (.c (.b false)), none⟩] []) .ret) .skip)
def A98L3 : ACode := (.seq (.seq (.reg [⟨(some 16), .mv (.t 3), none⟩,
    ⟨(some 17), .fad 0 (.t 1), none⟩,
    ⟨(some 18), .load 1 false (.t 17), none⟩,
    ⟨(some 19), .len (.t 18), none⟩,
    ⟨(some 20), .bin .lss (.t 16) (.t 19), none⟩] []) (.cond (.t 20) .skip (.exit 0))) (.seq (.blk 1 (.seqr (.drw [⟨(some 23), .fad 0 (.t 1), none⟩,
    ⟨(some 24), .load 1 false (.t 23), none⟩,
    ⟨(some 25), .mv (.t 3), none⟩,
    ⟨(some 26), .idx 1 (.t 24) (.t 25), none⟩,
    ⟨(some 27), .load 1 false (.t 26), none⟩,
    ⟨(some 28), .call 127 [(.t 27)], none⟩,
    ⟨(some 29), .un .not (.t 28), none⟩,
    ⟨(some 30), .mv (.t 29), none⟩,
    ⟨(some 31), .fad 0 (.t 1), (some (30, false))⟩,
    ⟨(some 32), .load 1 false (.t 31), (some (30, false))⟩,
    ⟨(some 33), .fad 0 (.t 1), (some (30, false))⟩,
    ⟨(some 34), .load 1 false (.t 33), (some (30, false))⟩,
    ⟨(some 35), .mv (.t 3), (some (30, false))⟩,
    ⟨(some 36), .idx 1 (.t 34) (.t 35), (some (30, false))⟩,
    ⟨(some 37), .load 1 false (.t 36), (some (30, false))⟩,
    ⟨(some 38), .call 128 [(.t 32), (.t 37)], (some (30, false))⟩,
    ⟨(some 39), .mv (.t 3), (some (30, false))⟩,
    ⟨(some 40), .bin .neq (.t 38) (.t 39), (some (30, false))⟩,
    ⟨(some 41), .pick (.t 30) (.c (.b true)) (.t 40), none⟩] []) [1, 3, 41] [1] A98R2)) (.reg [⟨(some 21), .mv (.t 3), none⟩,
    ⟨(some 22), .bin .add (.t 21) (.c (.i 1)), none⟩,
    ⟨(some 3), .mv (.t 22), none⟩] [])))
def A98R5 : ACode := (.cond (.t 77) (.seq (.reg [⟨(some 2), .mv (.c (.b false)), none⟩] []) .ret) .skip)
def A98L6 : ACode := (.seq (.seq (.reg [⟨(some 42), .mv (.t 4), none⟩,
    ⟨(some 43), .fad 1 (.t 1), none⟩,
    ⟨(some 44), .load 1 false (.t 43), none⟩,
    ⟨(some 45), .len (.t 44), none⟩,
    ⟨(some 46), .bin .lss (.t 42) (.t 45), none⟩] []) (.cond (.t 46) .skip (.exit 2))) (.seq (.blk 3 (.seqr (.drw [⟨(some 49), .fad 1 (.t 1), none⟩,
    ⟨(some 50), .load 1 false (.t 49), none⟩,
    ⟨(some 51), .mv (.t 4), none⟩,
    ⟨(some 52), .idx 4 (.t 50) (.t 51), none⟩,
    ⟨(some 53), .load 4 true (.t 52), none⟩,
    ⟨(some 54), .fad 0 (.t 1), none⟩,
    ⟨(some 55), .load 1 false (.t 54), none⟩,
    ⟨(some 56), .len (.t 55), none⟩,
    ⟨(some 57), .call 129 [(.t 53), (.t 56)], none⟩,
    ⟨(some 58), .un .not (.t 57), none⟩,
    ⟨(some 59), .mv (.t 58), none⟩,
    ⟨(some 60), .mv (.t 4), (some (59, false))⟩,
    ⟨(some 61), .bin .gtr (.t 60) (.c (.i 0)), (some (59, false))⟩,
    ⟨(some 62), .mv (.t 61), (some (59, false))⟩,
    ⟨(some 63), .fad 1 (.t 1), (some (62, true))⟩,
    ⟨(some 64), .load 1 false (.t 63), (some (62, true))⟩,
    ⟨(some 65), .mv (.t 4), (some (62, true))⟩,
    ⟨(some 66), .bin .sub (.t 65) (.c (.i 1)), (some (62, true))⟩,
    ⟨(some 67), .idx 4 (.t 64) (.t 66), (some (62, true))⟩,
    ⟨(some 68), .load 4 true (.t 67), (some (62, true))⟩,
    ⟨(some 69), .fad 1 (.t 1), (some (62, true))⟩,
    ⟨(some 70), .load 1 false (.t 69), (some (62, true))⟩,
    ⟨(some 71), .mv (.t 4), (some (62, true))⟩,
    ⟨(some 72), .idx 4 (.t 70) (.t 71), (some (62, true))⟩,
    ⟨(some 73), .load 4 true (.t 72), (some (62, true))⟩,
    ⟨(some 74), .call 130 [(.t 68), (.t 73)], (some (62, true))⟩,
    ⟨(some 75), .bin .gtr (.t 74) (.c (.i 0)), (some (62, true))⟩,
    ⟨(some 76), .pick (.t 62) (.t 75) (.c (.b false)), (some (59, false))⟩,
    ⟨(some 77), .pick (.t 59) (.c (.b true)) (.t 76), none⟩] []) [1, 4, 77] [1] A98R5)) (.reg [⟨(some 47), .mv (.t 4), none⟩,
    ⟨(some 48), .bin .add (.t 47) (.c (.i 1)), none⟩,
    ⟨(some 4), .mv (.t 48), none⟩] [])))
def A98R7 : ACode := (.seq (.reg [⟨(some 2), .mv (.c (.b true)), none⟩] []) .ret)
def A98R4 : ACode := (.seqa (.reg [⟨(some 4), .mv (.c (.i 0)), none⟩] []) (.blk 2 (.loop A98L6)) [] [] A98R7)
def A98 : ACode := (.seq (.reg [⟨(some 1), .box 2 (.t 0), none⟩,
    ⟨(some 2), .mv (.c (.b false)), none⟩] []) (.seq (.seqr (.reg [⟨(some 5), .fad 0 (.t 1), none⟩,
    ⟨(some 6), .load 1 false (.t 5), none⟩,
    ⟨(some 7), .len (.t 6), none⟩,
    ⟨(some 8), .call 72 [(.t 7), (.c (.i 2)), (.c (.i 8))], none⟩,
    ⟨(some 9), .un .not (.t 8), none⟩,
    ⟨(some 10), .mv (.t 9), none⟩,
    ⟨(some 11), .fad 1 (.t 1), (some (10, false))⟩,
    ⟨(some 12), .load 1 false (.t 11), (some (10, false))⟩,
    ⟨(some 13), .len (.t 12), (some (10, false))⟩,
    ⟨(some 14), .bin .gtr (.t 13) (.c (.i 14)), (some (10, false))⟩,
    ⟨(some 15), .pick (.t 10) (.c (.b true)) (.t 14), none⟩] []) [1, 15] [1] A98R1) (.seqa (.reg [⟨(some 3), .mv (.c (.i 0)), none⟩] []) (.blk 0 (.loop A98L3)) [1] [1] A98R4)))
def V98 : List RV := [.t 2]
theorem m98 : mtcF Try.prog 98 1 A98 V98 = true := by kernel_rfl
def A124L1 : ACode := (.seq (.seq (.reg [⟨(some 17), .mv (.t 6), none⟩,
    ⟨(some 18), .fad 1 (.t 2), none⟩,
    ⟨(some 19), .load 1 false (.t 18), none⟩,
    ⟨(some 20), .len (.t 19), none⟩,
    ⟨(some 21), .bin .lss (.t 17) (.t 20), none⟩] []) (.cond (.t 21) .skip (.exit 0))) (.seq (.blk 1 (.seq (.drw [⟨(some 24), .fad 1 (.t 2), none⟩,
    ⟨(some 25), .load 1 false (.t 24), none⟩,
    ⟨(some 26), .mv (.t 6), none⟩,
    ⟨(some 27), .idx 4 (.t 25) (.t 26), none⟩,
    ⟨(some 28), .fad 3 (.t 27), none⟩,
    ⟨(some 29), .load 1 false (.t 28), none⟩,
    ⟨(some 30), .fad 1 (.t 2), none⟩,
    ⟨(some 31), .load 1 false (.t 30), none⟩,
    ⟨(some 32), .mv (.t 1), none⟩,
    ⟨(some 33), .idx 4 (.t 31) (.t 32), none⟩,
    ⟨(some 34), .fad 3 (.t 33), none⟩,
    ⟨(some 35), .load 1 false (.t 34), none⟩,
    ⟨(some 36), .bin .eql (.t 29) (.t 35), none⟩] []) (.cond (.t 36) (.reg [⟨(some 37), .mv (.t 5), none⟩,
    ⟨(some 38), .mv (.t 6), none⟩,
    ⟨(some 39), .bsl 1 false [(.t 38)], none⟩,
    ⟨(some 40), .app 1 8 true (.t 37) (.t 39), none⟩,
    ⟨(some 5), .mv (.t 40), none⟩] [5]) .skip))) (.reg [⟨(some 22), .mv (.t 6), none⟩,
    ⟨(some 23), .bin .add (.t 22) (.c (.i 1)), none⟩,
    ⟨(some 6), .mv (.t 23), none⟩] [])))
def A124R2 : ACode := (.seq (.reg [⟨(some 41), .mv (.t 5), none⟩,
    ⟨(some 4), .mv (.t 41), none⟩] [4]) .ret)
def A124 : ACode := (.seq (.reg [⟨(some 2), .box 2 (.t 0), none⟩,
    ⟨(some 4), .mv (.c (.lst .u 1 [])), none⟩] [4]) (.seq (.seq (.reg [⟨(some 7), .fad 1 (.t 2), none⟩,
    ⟨(some 8), .load 1 false (.t 7), none⟩,
    ⟨(some 9), .mv (.t 1), none⟩,
    ⟨(some 10), .idx 4 (.t 8) (.t 9), none⟩,
    ⟨(some 11), .fad 3 (.t 10), none⟩,
    ⟨(some 12), .load 1 false (.t 11), none⟩,
    ⟨(some 13), .bin .eql (.t 12) (.c (.i 0)), none⟩] []) (.cond (.t 13) (.seq (.reg [⟨(some 14), .mv (.t 1), none⟩,
    ⟨(some 15), .bsl 1 false [(.t 14)], none⟩,
    ⟨(some 4), .mv (.t 15), none⟩] [4]) .ret) .skip)) (.seq (.reg [⟨(some 16), .bsl 1 false [], none⟩,
    ⟨(some 5), .mv (.t 16), none⟩] [5]) (.seqa (.reg [⟨(some 6), .mv (.c (.i 0)), none⟩] []) (.blk 0 (.loop A124L1)) [5] [5] A124R2))))
def V124 : List RV := [.t 4]
theorem m124 : mtcF Try.prog 124 2 A124 V124 = true := by kernel_rfl
def A92L1 : ACode := (.seq (.seq (.reg [⟨(some 12), .mv (.t 5), none⟩,
    ⟨(some 13), .fad 1 (.t 1), none⟩,
    ⟨(some 14), .load 1 false (.t 13), none⟩,
    ⟨(some 15), .len (.t 14), none⟩,
    ⟨(some 16), .bin .lss (.t 12) (.t 15), none⟩] []) (.cond (.t 16) .skip (.exit 2))) (.seq (.blk 3 (.seq (.reg [⟨(some 19), .fad 1 (.t 1), none⟩,
    ⟨(some 20), .load 1 false (.t 19), none⟩,
    ⟨(some 21), .mv (.t 5), none⟩,
    ⟨(some 22), .idx 4 (.t 20) (.t 21), none⟩,
    ⟨(some 23), .fad 3 (.t 22), none⟩,
    ⟨(some 24), .load 1 false (.t 23), none⟩,
    ⟨(some 25), .mv (.t 4), none⟩,
    ⟨(some 26), .bin .eql (.t 24) (.t 25), none⟩] []) (.cond (.t 26) (.seq (.reg [⟨(some 27), .mv (.t 3), none⟩,
    ⟨(some 28), .load 2 true (.t 1), none⟩,
    ⟨(some 29), .mv (.t 5), none⟩,
    ⟨(some 30), .call 124 [(.t 28), (.t 29)], none⟩,
    ⟨(some 31), .bsl 1 false [(.t 30)], none⟩,
    ⟨(some 32), .app 1 24 true (.t 27) (.t 31), none⟩,
    ⟨(some 3), .mv (.t 32), none⟩] [3]) (.exit 2)) .skip))) (.reg [⟨(some 17), .mv (.t 5), none⟩,
    ⟨(some 18), .bin .add (.t 17) (.c (.i 1)), none⟩,
    ⟨(some 5), .mv (.t 18), none⟩] [])))
def A92R2 : ACode := (.reg [⟨(some 10), .mv (.t 4), none⟩,
    ⟨(some 11), .bin .add (.t 10) (.c (.i 1)), none⟩,
    ⟨(some 4), .mv (.t 11), none⟩] [])
def A92L3 : ACode := (.seq (.seq (.reg [⟨(some 8), .mv (.t 4), none⟩,
    ⟨(some 9), .bin .leq (.t 8) (.c (.i 9)), none⟩] []) (.cond (.t 9) .skip (.exit 0))) (.seqr (.blk 1 (.seq (.reg [⟨(some 5), .mv (.c (.i 0)), none⟩] []) (.blk 2 (.loop A92L1)))) [1, 3, 4] [1, 3] A92R2))
def A92L5 : ACode := (.seq (.seq (.reg [⟨(some 33), .mv (.t 6), none⟩,
    ⟨(some 34), .fad 1 (.t 1), none⟩,
    ⟨(some 35), .load 1 false (.t 34), none⟩,
    ⟨(some 36), .len (.t 35), none⟩,
    ⟨(some 37), .bin .lss (.t 33) (.t 36), none⟩] []) (.cond (.t 37) .skip (.exit 4))) (.seq (.blk 5 (.seq (.reg [⟨(some 40), .fad 1 (.t 1), none⟩,
    ⟨(some 41), .load 1 false (.t 40), none⟩,
    ⟨(some 42), .mv (.t 6), none⟩,
    ⟨(some 43), .idx 4 (.t 41) (.t 42), none⟩,
    ⟨(some 44), .fad 3 (.t 43), none⟩,
    ⟨(some 45), .load 1 false (.t 44), none⟩,
    ⟨(some 46), .bin .eql (.t 45) (.c (.i 0)), none⟩] []) (.cond (.t 46) (.reg [⟨(some 47), .mv (.t 3), none⟩,
    ⟨(some 48), .mv (.t 6), none⟩,
    ⟨(some 49), .bsl 1 false [(.t 48)], none⟩,
    ⟨(some 50), .bsl 1 false [(.t 49)], none⟩,
    ⟨(some 51), .app 1 24 true (.t 47) (.t 50), none⟩,
    ⟨(some 3), .mv (.t 51), none⟩] [3]) .skip))) (.reg [⟨(some 38), .mv (.t 6), none⟩,
    ⟨(some 39), .bin .add (.t 38) (.c (.i 1)), none⟩,
    ⟨(some 6), .mv (.t 39), none⟩] [])))
def A92R6 : ACode := (.seq (.reg [⟨(some 52), .mv (.t 3), none⟩,
    ⟨(some 2), .mv (.t 52), none⟩] [2]) .ret)
def A92R4 : ACode := (.seqa (.reg [⟨(some 6), .mv (.c (.i 0)), none⟩] []) (.blk 4 (.loop A92L5)) [3] [3] A92R6)
def A92 : ACode := (.seq (.reg [⟨(some 1), .box 2 (.t 0), none⟩,
    ⟨(some 2), .mv (.c (.lst .u 1 [])), none⟩] [2]) (.seq (.reg [⟨(some 7), .bsl 1 false [], none⟩,
    ⟨(some 3), .mv (.t 7), none⟩] [3]) (.seqa (.reg [⟨(some 4), .mv (.c (.i 1)), none⟩] []) (.blk 0 (.loop A92L3)) [1, 3] [1, 3] A92R4)))
def V92 : List RV := [.t 2]
theorem m92 : mtcF Try.prog 92 1 A92 V92 = true := by kernel_rfl
def A62R1 : ACode := (.cond (.t 23) (.seq (.reg [⟨(some 4), .mv (.c (.b false)), none⟩] []) .ret) .skip)
def A62L2 : ACode := (.seq (.seq (.reg [⟨(some 24), .mv (.t 5), none⟩,
    ⟨(some 25), .fad 1 (.t 3), none⟩,
    ⟨(some 26), .load 1 false (.t 25), none⟩,
    ⟨(some 27), .len (.t 26), none⟩,
    ⟨(some 28), .bin .lss (.t 24) (.t 27), none⟩] []) (.cond (.t 28) .skip (.exit 0))) (.seq (.blk 1 (.seq (.drw [⟨(some 31), .fad 1 (.t 3), none⟩,
    ⟨(some 32), .load 1 false (.t 31), none⟩,
    ⟨(some 33), .mv (.t 5), none⟩,
    ⟨(some 34), .idx 1 (.t 32) (.t 33), none⟩,
    ⟨(some 35), .load 1 false (.t 34), none⟩,
    ⟨(some 36), .fad 0 (.t 3), none⟩,
    ⟨(some 37), .load 1 false (.t 36), none⟩,
    ⟨(some 38), .call 72 [(.t 35), (.c (.i 0)), (.t 37)], none⟩,
    ⟨(some 39), .un .not (.t 38), none⟩] []) (.cond (.t 39) (.seq (.reg [⟨(some 4), .mv (.c (.b false)), none⟩] []) .ret) .skip))) (.reg [⟨(some 29), .mv (.t 5), none⟩,
    ⟨(some 30), .bin .add (.t 29) (.c (.i 1)), none⟩,
    ⟨(some 5), .mv (.t 30), none⟩] [])))
def A62R3 : ACode := (.seq (.reg [⟨(some 4), .mv (.c (.b true)), none⟩] []) .ret)
def A62 : ACode := (.seq (.reg [⟨(some 2), .box 2 (.t 0), none⟩,
    ⟨(some 3), .box 2 (.t 1), none⟩,
    ⟨(some 4), .mv (.c (.b false)), none⟩] []) (.seq (.seqr (.drw [⟨(some 6), .load 2 true (.t 2), none⟩,
    ⟨(some 7), .call 98 [(.t 6)], none⟩,
    ⟨(some 8), .un .not (.t 7), none⟩,
    ⟨(some 9), .mv (.t 8), none⟩,
    ⟨(some 10), .fad 0 (.t 3), (some (9, false))⟩,
    ⟨(some 11), .load 1 false (.t 10), (some (9, false))⟩,
    ⟨(some 12), .call 72 [(.t 11), (.c (.i 2)), (.c (.i 20))], (some (9, false))⟩,
    ⟨(some 13), .un .not (.t 12), (some (9, false))⟩,
    ⟨(some 14), .pick (.t 9) (.c (.b true)) (.t 13), none⟩,
    ⟨(some 15), .mv (.t 14), none⟩,
    ⟨(some 16), .fad 1 (.t 3), (some (15, false))⟩,
    ⟨(some 17), .load 1 false (.t 16), (some (15, false))⟩,
    ⟨(some 18), .len (.t 17), (some (15, false))⟩,
    ⟨(some 19), .load 2 true (.t 2), (some (15, false))⟩,
    ⟨(some 20), .call 92 [(.t 19)], (some (15, false))⟩,
    ⟨(some 21), .len (.t 20), (some (15, false))⟩,
    ⟨(some 22), .bin .neq (.t 18) (.t 21), (some (15, false))⟩,
    ⟨(some 23), .pick (.t 15) (.c (.b true)) (.t 22), none⟩] []) [3, 23] [3] A62R1) (.seqa (.reg [⟨(some 5), .mv (.c (.i 0)), none⟩] []) (.blk 0 (.loop A62L2)) [] [] A62R3)))
def V62 : List RV := [.t 4]
theorem m62 : mtcF Try.prog 62 2 A62 V62 = true := by kernel_rfl
def A85 : ACode := (.seq (.reg [⟨(some 3), .box 2 (.t 0), none⟩,
    ⟨(some 6), .mv (.c (.b false)), none⟩] []) (.seq (.reg [⟨(some 7), .load 2 true (.t 3), none⟩,
    ⟨(some 8), .call 98 [(.t 7)], none⟩,
    ⟨(some 9), .mv (.t 8), none⟩,
    ⟨(some 10), .mv (.t 1), (some (9, true))⟩,
    ⟨(some 11), .fad 0 (.t 3), (some (9, true))⟩,
    ⟨(some 12), .load 1 false (.t 11), (some (9, true))⟩,
    ⟨(some 13), .len (.t 12), (some (9, true))⟩,
    ⟨(some 14), .bin .sub (.t 13) (.c (.i 1)), (some (9, true))⟩,
    ⟨(some 15), .call 72 [(.t 10), (.c (.i 0)), (.t 14)], (some (9, true))⟩,
    ⟨(some 16), .pick (.t 9) (.t 15) (.c (.b false)), none⟩,
    ⟨(some 17), .mv (.t 16), none⟩,
    ⟨(some 18), .mv (.t 2), (some (17, true))⟩,
    ⟨(some 19), .fad 0 (.t 3), (some (17, true))⟩,
    ⟨(some 20), .load 1 false (.t 19), (some (17, true))⟩,
    ⟨(some 21), .len (.t 20), (some (17, true))⟩,
    ⟨(some 22), .bin .sub (.t 21) (.c (.i 1)), (some (17, true))⟩,
    ⟨(some 23), .call 72 [(.t 18), (.c (.i 0)), (.t 22)], (some (17, true))⟩,
    ⟨(some 24), .pick (.t 17) (.t 23) (.c (.b false)), none⟩,
    ⟨(some 25), .mv (.t 24), none⟩,
    ⟨(some 26), .mv (.t 1), (some (25, true))⟩,
    ⟨(some 27), .mv (.t 2), (some (25, true))⟩,
    ⟨(some 28), .bin .neq (.t 26) (.t 27), (some (25, true))⟩,
    ⟨(some 29), .pick (.t 25) (.t 28) (.c (.b false)), none⟩,
    ⟨(some 6), .mv (.t 29), none⟩] []) .ret))
def V85 : List RV := [.t 6]
theorem m85 : mtcF Try.prog 85 3 A85 V85 = true := by kernel_rfl
def A77L1 : ACode := (.seq (.seq (.reg [⟨(some 5), .mv (.t 4), none⟩,
    ⟨(some 6), .mv (.t 0), none⟩,
    ⟨(some 7), .len (.t 6), none⟩,
    ⟨(some 8), .bin .lss (.t 5) (.t 7), none⟩] []) (.cond (.t 8) .skip (.exit 0))) (.seq (.blk 1 (.reg [⟨(some 11), .mv (.t 3), none⟩,
    ⟨(some 12), .mv (.t 0), none⟩,
    ⟨(some 13), .mv (.t 4), none⟩,
    ⟨(some 14), .idx 1 (.t 12) (.t 13), none⟩,
    ⟨(some 15), .load 1 false (.t 14), none⟩,
    ⟨(some 16), .conv .u64 (.t 15), none⟩,
    ⟨(some 17), .bin .shl (.c (.i 1)) (.t 16), none⟩,
    ⟨(some 18), .bin .or (.t 11) (.t 17), none⟩,
    ⟨(some 3), .mv (.t 18), none⟩] [])) (.reg [⟨(some 9), .mv (.t 4), none⟩,
    ⟨(some 10), .bin .add (.t 9) (.c (.i 1)), none⟩,
    ⟨(some 4), .mv (.t 10), none⟩] [])))
def A77R2 : ACode := (.seq (.reg [⟨(some 19), .mv (.t 3), none⟩,
    ⟨(some 2), .mv (.t 19), none⟩] []) .ret)
def A77 : ACode := (.seq (.reg [⟨(some 2), .mv (.c (.i 0)), none⟩] []) (.seq (.reg [⟨(some 3), .mv (.c (.i 0)), none⟩] []) (.seqa (.reg [⟨(some 4), .mv (.c (.i 0)), none⟩] []) (.blk 0 (.loop A77L1)) [3] [] A77R2)))
def V77 : List RV := [.t 2]
theorem m77 : mtcF Try.prog 77 1 A77 V77 = true := by kernel_rfl
def A94L1 : ACode := (.seq (.seq (.reg [⟨(some 7), .mv (.t 6), none⟩,
    ⟨(some 8), .mv (.t 0), none⟩,
    ⟨(some 9), .len (.t 8), none⟩,
    ⟨(some 10), .bin .lss (.t 7) (.t 9), none⟩] []) (.cond (.t 10) .skip (.exit 0))) (.seq (.blk 1 (.seq (.reg [⟨(some 13), .mv (.t 1), none⟩,
    ⟨(some 14), .mv (.t 6), none⟩,
    ⟨(some 15), .conv .u64 (.t 14), none⟩,
    ⟨(some 16), .bin .shr (.t 13) (.t 15), none⟩,
    ⟨(some 17), .bin .and (.t 16) (.c (.i 1)), none⟩,
    ⟨(some 18), .bin .eql (.t 17) (.c (.i 1)), none⟩] []) (.cond (.t 18) (.reg [⟨(some 19), .mv (.t 5), none⟩,
    ⟨(some 20), .mv (.t 0), none⟩,
    ⟨(some 21), .mv (.t 6), none⟩,
    ⟨(some 22), .idx 1 (.t 20) (.t 21), none⟩,
    ⟨(some 23), .load 1 false (.t 22), none⟩,
    ⟨(some 24), .call 77 [(.t 23)], none⟩,
    ⟨(some 25), .bin .or (.t 19) (.t 24), none⟩,
    ⟨(some 5), .mv (.t 25), none⟩] []) .skip))) (.reg [⟨(some 11), .mv (.t 6), none⟩,
    ⟨(some 12), .bin .add (.t 11) (.c (.i 1)), none⟩,
    ⟨(some 6), .mv (.t 12), none⟩] [])))
def A94R2 : ACode := (.seq (.reg [⟨(some 26), .mv (.t 5), none⟩,
    ⟨(some 4), .mv (.t 26), none⟩] []) .ret)
def A94 : ACode := (.seq (.reg [⟨(some 4), .mv (.c (.i 0)), none⟩] []) (.seq (.reg [⟨(some 5), .mv (.c (.i 0)), none⟩] []) (.seqa (.reg [⟨(some 6), .mv (.c (.i 0)), none⟩] []) (.blk 0 (.loop A94L1)) [5] [] A94R2)))
def V94 : List RV := [.t 4]
theorem m94 : mtcF Try.prog 94 2 A94 V94 = true := by kernel_rfl
def A125 : ACode := (.seq (.reg [⟨(some 4), .mv (.c (.i 0)), none⟩] []) (.seq (.seq (.reg [⟨(some 5), .mv (.t 0), none⟩,
    ⟨(some 6), .mv (.t 1), none⟩,
    ⟨(some 7), .bin .lss (.t 5) (.t 6), none⟩] []) (.cond (.t 7) (.seq (.reg [⟨(some 8), .mv (.t 0), none⟩,
    ⟨(some 4), .mv (.t 8), none⟩] []) .ret) .skip)) (.seq (.reg [⟨(some 9), .mv (.t 1), none⟩,
    ⟨(some 4), .mv (.t 9), none⟩] []) .ret)))
def V125 : List RV := [.t 4]
theorem m125 : mtcF Try.prog 125 2 A125 V125 = true := by kernel_rfl
def A93L1 : ACode := (.seq (.seq (.reg [⟨(some 13), .mv (.t 6), none⟩,
    ⟨(some 14), .fad 0 (.t 2), none⟩,
    ⟨(some 15), .load 1 false (.t 14), none⟩,
    ⟨(some 16), .len (.t 15), none⟩,
    ⟨(some 17), .bin .lss (.t 13) (.t 16), none⟩] []) (.cond (.t 17) .skip (.exit 0))) (.seq (.blk 1 (.reg [⟨(some 20), .mv (.t 5), none⟩,
    ⟨(some 21), .mv (.t 6), none⟩,
    ⟨(some 22), .bsl 1 false [(.t 21)], none⟩,
    ⟨(some 23), .app 1 8 true (.t 20) (.t 22), none⟩,
    ⟨(some 5), .mv (.t 23), none⟩] [5])) (.reg [⟨(some 18), .mv (.t 6), none⟩,
    ⟨(some 19), .bin .add (.t 18) (.c (.i 1)), none⟩,
    ⟨(some 6), .mv (.t 19), none⟩] [])))
def A93R3 : ACode := (.cond (.t 60) (.exit 5) .skip)
def A93L4 : ACode := (.seq (.seq (.reg [⟨(some 25), .mv (.t 8), none⟩,
    ⟨(some 26), .fad 1 (.t 2), none⟩,
    ⟨(some 27), .load 1 false (.t 26), none⟩,
    ⟨(some 28), .len (.t 27), none⟩,
    ⟨(some 29), .bin .lss (.t 25) (.t 28), none⟩] []) (.cond (.t 29) .skip (.exit 4))) (.seq (.blk 5 (.seq (.drw [⟨(some 32), .fad 1 (.t 2), none⟩,
    ⟨(some 33), .load 1 false (.t 32), none⟩,
    ⟨(some 34), .mv (.t 8), none⟩,
    ⟨(some 35), .idx 4 (.t 33) (.t 34), none⟩,
    ⟨(some 36), .fad 0 (.t 35), none⟩,
    ⟨(some 37), .load 1 false (.t 36), none⟩,
    ⟨(some 38), .fad 1 (.t 2), none⟩,
    ⟨(some 39), .load 1 false (.t 38), none⟩,
    ⟨(some 40), .mv (.t 8), none⟩,
    ⟨(some 41), .idx 4 (.t 39) (.t 40), none⟩,
    ⟨(some 42), .fad 1 (.t 41), none⟩,
    ⟨(some 43), .load 1 false (.t 42), none⟩,
    ⟨(some 9), .mv (.t 37), none⟩,
    ⟨(some 10), .mv (.t 43), none⟩] []) (.seq (.seqr (.drw [⟨(some 44), .mv (.t 1), none⟩,
    ⟨(some 45), .mv (.t 8), none⟩,
    ⟨(some 46), .conv .u64 (.t 45), none⟩,
    ⟨(some 47), .bin .shr (.t 44) (.t 46), none⟩,
    ⟨(some 48), .bin .and (.t 47) (.c (.i 1)), none⟩,
    ⟨(some 49), .bin .eql (.t 48) (.c (.i 1)), none⟩,
    ⟨(some 50), .mv (.t 49), none⟩,
    ⟨(some 51), .mv (.t 5), (some (50, false))⟩,
    ⟨(some 52), .mv (.t 9), (some (50, false))⟩,
    ⟨(some 53), .idx 1 (.t 51) (.t 52), (some (50, false))⟩,
    ⟨(some 54), .load 1 false (.t 53), (some (50, false))⟩,
    ⟨(some 55), .mv (.t 5), (some (50, false))⟩,
    ⟨(some 56), .mv (.t 10), (some (50, false))⟩,
    ⟨(some 57), .idx 1 (.t 55) (.t 56), (some (50, false))⟩,
    ⟨(some 58), .load 1 false (.t 57), (some (50, false))⟩,
    ⟨(some 59), .bin .eql (.t 54) (.t 58), (some (50, false))⟩,
    ⟨(some 60), .pick (.t 50) (.c (.b true)) (.t 59), none⟩] []) [1, 2, 5, 7, 8, 9, 10, 60] [2, 5] A93R3) (.seq (.drw [⟨(some 61), .mv (.t 5), none⟩,
    ⟨(some 62), .mv (.t 9), none⟩,
    ⟨(some 63), .idx 1 (.t 61) (.t 62), none⟩,
    ⟨(some 64), .load 1 false (.t 63), none⟩,
    ⟨(some 65), .mv (.t 5), none⟩,
    ⟨(some 66), .mv (.t 10), none⟩,
    ⟨(some 67), .idx 1 (.t 65) (.t 66), none⟩,
    ⟨(some 68), .load 1 false (.t 67), none⟩,
    ⟨(some 69), .call 125 [(.t 64), (.t 68)], none⟩,
    ⟨(some 11), .mv (.t 69), none⟩] []) (.seq (.reg [⟨(some 70), .mv (.t 5), none⟩,
    ⟨(some 71), .mv (.t 9), none⟩,
    ⟨(some 72), .mv (.t 11), none⟩,
    ⟨(some 73), .idx 1 (.t 70) (.t 71), none⟩,
    ⟨none, .store 1 (.t 73) (.t 72), none⟩] []) (.seq (.reg [⟨(some 74), .mv (.t 5), none⟩,
    ⟨(some 75), .mv (.t 10), none⟩,
    ⟨(some 76), .mv (.t 11), none⟩,
    ⟨(some 77), .idx 1 (.t 74) (.t 75), none⟩,
    ⟨none, .store 1 (.t 77) (.t 76), none⟩] []) (.reg [⟨(some 7), .mv (.c (.b true)), none⟩] []))))))) (.reg [⟨(some 30), .mv (.t 8), none⟩,
    ⟨(some 31), .bin .add (.t 30) (.c (.i 1)), none⟩,
    ⟨(some 8), .mv (.t 31), none⟩] [])))
def A93L5 : ACode := (.seq (.seq (.reg [⟨(some 24), .mv (.t 7), none⟩] []) (.cond (.t 24) .skip (.exit 2))) (.blk 3 (.seq (.reg [⟨(some 7), .mv (.c (.b false)), none⟩] []) (.seq (.reg [⟨(some 8), .mv (.c (.i 0)), none⟩] []) (.blk 4 (.loop A93L4))))))
def A93R6 : ACode := (.seq (.reg [⟨(some 78), .mv (.t 5), none⟩,
    ⟨(some 4), .mv (.t 78), none⟩] [4]) .ret)
def A93R2 : ACode := (.seqa (.reg [⟨(some 7), .mv (.c (.b true)), none⟩] []) (.blk 2 (.loop A93L5)) [5] [5] A93R6)
def A93 : ACode := (.seq (.reg [⟨(some 2), .box 2 (.t 0), none⟩,
    ⟨(some 4), .mv (.c (.lst .u 1 [])), none⟩] [4]) (.seq (.reg [⟨(some 12), .bsl 1 false [], none⟩,
    ⟨(some 5), .mv (.t 12), none⟩] [5]) (.seqa (.reg [⟨(some 6), .mv (.c (.i 0)), none⟩] []) (.blk 0 (.loop A93L1)) [1, 2, 5] [2, 5] A93R2)))
def V93 : List RV := [.t 4]
theorem m93 : mtcF Try.prog 93 2 A93 V93 = true := by kernel_rfl
def A76L1 : ACode := (.seq (.seq (.reg [⟨(some 7), .mv (.t 6), none⟩,
    ⟨(some 8), .fad 1 (.t 2), none⟩,
    ⟨(some 9), .load 1 false (.t 8), none⟩,
    ⟨(some 10), .len (.t 9), none⟩,
    ⟨(some 11), .bin .lss (.t 7) (.t 10), none⟩] []) (.cond (.t 11) .skip (.exit 0))) (.seq (.blk 1 (.seq (.reg [⟨(some 14), .mv (.t 1), none⟩,
    ⟨(some 15), .mv (.t 6), none⟩,
    ⟨(some 16), .conv .u64 (.t 15), none⟩,
    ⟨(some 17), .bin .shr (.t 14) (.t 16), none⟩,
    ⟨(some 18), .bin .and (.t 17) (.c (.i 1)), none⟩,
    ⟨(some 19), .bin .eql (.t 18) (.c (.i 1)), none⟩] []) (.cond (.t 19) (.reg [⟨(some 20), .mv (.t 5), none⟩,
    ⟨(some 21), .fad 1 (.t 2), none⟩,
    ⟨(some 22), .load 1 false (.t 21), none⟩,
    ⟨(some 23), .mv (.t 6), none⟩,
    ⟨(some 24), .idx 1 (.t 22) (.t 23), none⟩,
    ⟨(some 25), .load 1 false (.t 24), none⟩,
    ⟨(some 26), .bin .mul (.t 20) (.t 25), none⟩,
    ⟨(some 5), .mv (.t 26), none⟩] []) (.drw [⟨(some 27), .mv (.t 5), none⟩,
    ⟨(some 28), .fad 0 (.t 2), none⟩,
    ⟨(some 29), .load 1 false (.t 28), none⟩,
    ⟨(some 30), .fad 1 (.t 2), none⟩,
    ⟨(some 31), .load 1 false (.t 30), none⟩,
    ⟨(some 32), .mv (.t 6), none⟩,
    ⟨(some 33), .idx 1 (.t 31) (.t 32), none⟩,
    ⟨(some 34), .load 1 false (.t 33), none⟩,
    ⟨(some 35), .bin .sub (.t 29) (.t 34), none⟩,
    ⟨(some 36), .bin .mul (.t 27) (.t 35), none⟩,
    ⟨(some 5), .mv (.t 36), none⟩] [])))) (.reg [⟨(some 12), .mv (.t 6), none⟩,
    ⟨(some 13), .bin .add (.t 12) (.c (.i 1)), none⟩,
    ⟨(some 6), .mv (.t 13), none⟩] [])))
def A76R2 : ACode := (.seq (.reg [⟨(some 37), .mv (.t 5), none⟩,
    ⟨(some 4), .mv (.t 37), none⟩] []) .ret)
def A76 : ACode := (.seq (.reg [⟨(some 2), .box 2 (.t 0), none⟩,
    ⟨(some 4), .mv (.c (.i 0)), none⟩] []) (.seq (.reg [⟨(some 5), .mv (.c (.i 1)), none⟩] []) (.seqa (.reg [⟨(some 6), .mv (.c (.i 0)), none⟩] []) (.blk 0 (.loop A76L1)) [5] [] A76R2)))
def V76 : List RV := [.t 4]
theorem m76 : mtcF Try.prog 76 2 A76 V76 = true := by kernel_rfl
def A80L2 : ACode := (.seq (.seq (.reg [⟨(some 45), .mv (.t 14), none⟩,
    ⟨(some 46), .mv (.t 12), none⟩,
    ⟨(some 47), .len (.t 46), none⟩,
    ⟨(some 48), .bin .lss (.t 45) (.t 47), none⟩] []) (.cond (.t 48) .skip (.exit 2))) (.seq (.blk 3 (.reg [⟨(some 51), .mv (.t 13), none⟩,
    ⟨(some 52), .mv (.t 51), none⟩,
    ⟨(some 53), .mv (.t 12), (some (52, true))⟩,
    ⟨(some 54), .mv (.t 14), (some (52, true))⟩,
    ⟨(some 55), .idx 1 (.t 53) (.t 54), (some (52, true))⟩,
    ⟨(some 56), .load 1 false (.t 55), (some (52, true))⟩,
    ⟨(some 57), .bin .eql (.t 56) (.c (.i 0)), (some (52, true))⟩,
    ⟨(some 58), .pick (.t 52) (.t 57) (.c (.b false)), none⟩,
    ⟨(some 13), .mv (.t 58), none⟩] [])) (.reg [⟨(some 49), .mv (.t 14), none⟩,
    ⟨(some 50), .bin .add (.t 49) (.c (.i 1)), none⟩,
    ⟨(some 14), .mv (.t 50), none⟩] [])))
def A80R3 : ACode := (.seq (.reg [⟨(some 59), .mv (.t 13), none⟩] []) (.cond (.t 59) (.reg [⟨(some 60), .mv (.t 10), none⟩,
    ⟨(some 61), .load 2 true (.t 5), none⟩,
    ⟨(some 62), .mv (.t 11), none⟩,
    ⟨(some 63), .call 76 [(.t 61), (.t 62)], none⟩,
    ⟨(some 64), .bin .add (.t 60) (.t 63), none⟩,
    ⟨(some 10), .mv (.t 64), none⟩] []) .skip))
def A80R1 : ACode := (.seqr (.seq (.reg [⟨(some 43), .mv (.t 2), none⟩,
    ⟨(some 44), .bin .lss (.t 43) (.c (.i 0)), none⟩] []) (.cond (.t 44) (.seq (.reg [⟨(some 13), .mv (.c (.b true)), none⟩] []) (.seq (.reg [⟨(some 14), .mv (.c (.i 0)), none⟩] []) (.blk 2 (.loop A80L2)))) .skip)) [2, 3, 4, 5, 9, 10, 11, 13] [4, 5, 9] A80R3)
def A80L4 : ACode := (.seq (.seq (.reg [⟨(some 17), .mv (.t 11), none⟩,
    ⟨(some 18), .mv (.t 9), none⟩,
    ⟨(some 19), .len (.t 18), none⟩,
    ⟨(some 20), .conv .u64 (.t 19), none⟩,
    ⟨(some 21), .bin .shl (.c (.i 1)) (.t 20), none⟩,
    ⟨(some 22), .bin .lss (.t 17) (.t 21), none⟩] []) (.cond (.t 22) .skip (.exit 0))) (.seq (.blk 1 (.seq (.drw [⟨(some 25), .load 2 true (.t 4), none⟩,
    ⟨(some 26), .mv (.t 9), none⟩,
    ⟨(some 27), .mv (.t 11), none⟩,
    ⟨(some 28), .call 94 [(.t 26), (.t 27)], none⟩,
    ⟨(some 29), .call 93 [(.t 25), (.t 28)], none⟩,
    ⟨(some 12), .mv (.t 29), none⟩] [12]) (.seqr (.drw [⟨(some 30), .mv (.t 2), none⟩,
    ⟨(some 31), .bin .geq (.t 30) (.c (.i 0)), none⟩,
    ⟨(some 32), .mv (.t 31), none⟩,
    ⟨(some 33), .mv (.t 12), (some (32, true))⟩,
    ⟨(some 34), .mv (.t 2), (some (32, true))⟩,
    ⟨(some 35), .idx 1 (.t 33) (.t 34), (some (32, true))⟩,
    ⟨(some 36), .load 1 false (.t 35), (some (32, true))⟩,
    ⟨(some 37), .mv (.t 12), (some (32, true))⟩,
    ⟨(some 38), .mv (.t 3), (some (32, true))⟩,
    ⟨(some 39), .idx 1 (.t 37) (.t 38), (some (32, true))⟩,
    ⟨(some 40), .load 1 false (.t 39), (some (32, true))⟩,
    ⟨(some 41), .bin .eql (.t 36) (.t 40), (some (32, true))⟩,
    ⟨(some 42), .pick (.t 32) (.t 41) (.c (.b false)), none⟩,
    ⟨(some 13), .mv (.t 42), none⟩] []) [2, 3, 4, 5, 9, 10, 11, 12, 13] [4, 5, 9, 12] A80R1))) (.reg [⟨(some 23), .mv (.t 11), none⟩,
    ⟨(some 24), .bin .add (.t 23) (.c (.i 1)), none⟩,
    ⟨(some 11), .mv (.t 24), none⟩] [])))
def A80R5 : ACode := (.seq (.reg [⟨(some 65), .mv (.t 10), none⟩,
    ⟨(some 8), .mv (.t 65), none⟩] []) .ret)
def A80 : ACode := (.seq (.reg [⟨(some 4), .box 2 (.t 0), none⟩,
    ⟨(some 5), .box 2 (.t 1), none⟩,
    ⟨(some 8), .mv (.c (.i 0)), none⟩] []) (.seq (.reg [⟨(some 15), .load 2 true (.t 4), none⟩,
    ⟨(some 16), .call 92 [(.t 15)], none⟩,
    ⟨(some 9), .mv (.t 16), none⟩] [9]) (.seq (.reg [⟨(some 10), .mv (.c (.i 0)), none⟩] []) (.seqa (.reg [⟨(some 11), .mv (.c (.i 0)), none⟩] []) (.blk 0 (.loop A80L4)) [10] [] A80R5))))
def V80 : List RV := [.t 8]
theorem m80 : mtcF Try.prog 80 4 A80 V80 = true := by kernel_rfl
def A31R1 : ACode := (.cond (.t 20) (.seq (.reg [⟨(some 8), .mv (.c (.i 0)), none⟩,
    ⟨(some 9), .mv (.c (.b false)), none⟩] []) .ret) .skip)
def A31 : ACode := (.seq (.reg [⟨(some 4), .box 2 (.t 0), none⟩,
    ⟨(some 5), .box 2 (.t 1), none⟩,
    ⟨(some 8), .mv (.c (.i 0)), none⟩,
    ⟨(some 9), .mv (.c (.b false)), none⟩] []) (.seq (.seqr (.reg [⟨(some 10), .load 2 true (.t 4), none⟩,
    ⟨(some 11), .load 2 true (.t 5), none⟩,
    ⟨(some 12), .call 62 [(.t 10), (.t 11)], none⟩,
    ⟨(some 13), .un .not (.t 12), none⟩,
    ⟨(some 14), .mv (.t 13), none⟩,
    ⟨(some 15), .load 2 true (.t 4), (some (14, false))⟩,
    ⟨(some 16), .mv (.t 2), (some (14, false))⟩,
    ⟨(some 17), .mv (.t 3), (some (14, false))⟩,
    ⟨(some 18), .call 85 [(.t 15), (.t 16), (.t 17)], (some (14, false))⟩,
    ⟨(some 19), .un .not (.t 18), (some (14, false))⟩,
    ⟨(some 20), .pick (.t 14) (.c (.b true)) (.t 19), none⟩] []) [2, 3, 4, 5, 20] [4, 5] A31R1) (.seq (.reg [⟨(some 21), .load 2 true (.t 4), none⟩,
    ⟨(some 22), .load 2 true (.t 5), none⟩,
    ⟨(some 23), .mv (.t 2), none⟩,
    ⟨(some 24), .mv (.t 3), none⟩,
    ⟨(some 25), .call 80 [(.t 21), (.t 22), (.t 23), (.t 24)], none⟩,
    ⟨(some 8), .mv (.t 25), none⟩,
    ⟨(some 9), .mv (.c (.b true)), none⟩] []) .ret)))
def V31 : List RV := [.t 8, .t 9]
theorem m31 : mtcF Try.prog 31 4 A31 V31 = true := by kernel_rfl
def A66 : ACode := (.seq (.reg [⟨(some 6), .mv (.c (.b false)), none⟩] []) (.seq (.reg [⟨(some 7), .mv (.t 1), none⟩,
    ⟨(some 8), .mv (.t 0), none⟩,
    ⟨(some 9), .bin .leq (.t 7) (.t 8), none⟩,
    ⟨(some 10), .mv (.t 9), none⟩,
    ⟨(some 11), .mv (.t 0), (some (10, true))⟩,
    ⟨(some 12), .mv (.t 2), (some (10, true))⟩,
    ⟨(some 13), .bin .leq (.t 11) (.t 12), (some (10, true))⟩,
    ⟨(some 14), .pick (.t 10) (.t 13) (.c (.b false)), none⟩,
    ⟨(some 6), .mv (.t 14), none⟩] []) .ret))
def V66 : List RV := [.t 6]
theorem m66 : mtcF Try.prog 66 3 A66 V66 = true := by kernel_rfl
def A113R1 : ACode := (.seq (.reg [⟨(some 31), .mv (.t 4), none⟩,
    ⟨(some 32), .un .not (.t 31), none⟩,
    ⟨(some 33), .mv (.t 32), none⟩,
    ⟨(some 34), .mv (.t 5), (some (33, true))⟩,
    ⟨(some 35), .un .not (.t 34), (some (33, true))⟩,
    ⟨(some 36), .mv (.t 35), (some (33, true))⟩,
    ⟨(some 37), .mv (.t 3), (some (36, false))⟩,
    ⟨(some 38), .bin .eql (.t 37) (.c (.i 0)), (some (36, false))⟩,
    ⟨(some 39), .pick (.t 36) (.c (.b true)) (.t 38), (some (33, true))⟩,
    ⟨(some 40), .pick (.t 33) (.t 39) (.c (.b false)), none⟩] []) (.cond (.t 40) (.seq (.reg [⟨(some 2), .mv (.c (.b false)), none⟩] []) .ret) .skip))
def A113L2 : ACode := (.seq (.reg [⟨(some 9), .bin .lss (.t 8) (.t 7), none⟩] []) (.seq (.cond (.t 9) .skip (.exit 0)) (.seq (.blk 1 (.seq (.reg [⟨(some 10), .mv (.t 8), none⟩,
    ⟨(some 3), .mv (.t 10), none⟩] []) (.seqr (.drw [⟨(some 11), .mv (.t 0), none⟩,
    ⟨(some 12), .mv (.t 3), none⟩,
    ⟨(some 13), .stri (.t 11) (.t 12), none⟩,
    ⟨(some 14), .bin .geq (.t 13) (.c (.sc (.int .u8 97))), none⟩,
    ⟨(some 15), .mv (.t 14), none⟩,
    ⟨(some 16), .mv (.t 0), (some (15, true))⟩,
    ⟨(some 17), .mv (.t 3), (some (15, true))⟩,
    ⟨(some 18), .stri (.t 16) (.t 17), (some (15, true))⟩,
    ⟨(some 19), .bin .leq (.t 18) (.c (.sc (.int .u8 122))), (some (15, true))⟩,
    ⟨(some 20), .pick (.t 15) (.t 19) (.c (.b false)), none⟩,
    ⟨(some 21), .mv (.t 0), none⟩,
    ⟨(some 22), .mv (.t 3), none⟩,
    ⟨(some 23), .stri (.t 21) (.t 22), none⟩,
    ⟨(some 24), .bin .geq (.t 23) (.c (.sc (.int .u8 48))), none⟩,
    ⟨(some 25), .mv (.t 24), none⟩,
    ⟨(some 26), .mv (.t 0), (some (25, true))⟩,
    ⟨(some 27), .mv (.t 3), (some (25, true))⟩,
    ⟨(some 28), .stri (.t 26) (.t 27), (some (25, true))⟩,
    ⟨(some 29), .bin .leq (.t 28) (.c (.sc (.int .u8 57))), (some (25, true))⟩,
    ⟨(some 30), .pick (.t 25) (.t 29) (.c (.b false)), none⟩,
    ⟨(some 4), .mv (.t 20), none⟩,
    ⟨(some 5), .mv (.t 30), none⟩] []) [0, 3, 4, 5, 7, 8] [] A113R1))) (.reg [⟨(some 41), .bin .add (.t 8) (.c (.i 1)), none⟩,
    ⟨(some 8), .mv (.t 41), none⟩] []))))
def A113R3 : ACode := (.seq (.reg [⟨(some 42), .mv (.t 0), none⟩,
    ⟨(some 43), .lenz (.t 42), none⟩,
    ⟨(some 44), .call 66 [(.t 43), (.c (.i 1)), (.c (.i 8))], none⟩,
    ⟨(some 2), .mv (.t 44), none⟩] []) .ret)
def A113 : ACode := (.seq (.reg [⟨(some 2), .mv (.c (.b false)), none⟩] []) (.seqa (.reg [⟨(some 6), .mv (.t 0), none⟩,
    ⟨(some 7), .lenz (.t 6), none⟩,
    ⟨(some 8), .mv (.c (.i 0)), none⟩] []) (.blk 0 (.loop A113L2)) [0] [] A113R3))
def V113 : List RV := [.t 2]
theorem m113 : mtcF Try.prog 113 1 A113 V113 = true := by kernel_rfl
def A139L1 : ACode := (.seq (.reg [⟨(some 9), .bin .lss (.t 8) (.t 7), none⟩] []) (.seq (.cond (.t 9) .skip (.exit 0)) (.seq (.blk 1 (.seq (.reg [⟨(some 10), .mv (.t 8), none⟩,
    ⟨(some 5), .mv (.t 10), none⟩] []) (.seq (.reg [⟨(some 11), .mv (.t 1), none⟩,
    ⟨(some 12), .mv (.t 0), none⟩,
    ⟨(some 13), .mv (.t 5), none⟩,
    ⟨(some 14), .idx 1 (.t 12) (.t 13), none⟩,
    ⟨(some 15), .load 1 false (.t 14), none⟩,
    ⟨(some 16), .bin .eql (.t 11) (.t 15), none⟩] []) (.cond (.t 16) (.seq (.reg [⟨(some 17), .mv (.t 5), none⟩,
    ⟨(some 4), .mv (.t 17), none⟩] []) .ret) .skip)))) (.reg [⟨(some 18), .bin .add (.t 8) (.c (.i 1)), none⟩,
    ⟨(some 8), .mv (.t 18), none⟩] []))))
def A139R2 : ACode := (.seq (.reg [⟨(some 4), .mv (.c (.i (-1))), none⟩] []) .ret)
def A139 : ACode := (.seq (.reg [⟨(some 4), .mv (.c (.i 0)), none⟩] []) (.seqa (.reg [⟨(some 6), .mv (.t 0), none⟩,
    ⟨(some 7), .len (.t 6), none⟩,
    ⟨(some 8), .mv (.c (.i 0)), none⟩] []) (.blk 0 (.loop A139L1)) [] [] A139R2))
def V139 : List RV := [.t 4]
theorem m139 : mtcF Try.prog 139 2 A139 V139 = true := by kernel_rfl
def A114 : ACode := (.seq (.reg [⟨(some 4), .mv (.c (.b false)), none⟩] []) (.seq (.reg [⟨(some 5), .mv (.t 0), none⟩,
    ⟨(some 6), .mv (.t 1), none⟩,
    ⟨(some 7), .call 139 [(.t 5), (.t 6)], none⟩,
    ⟨(some 8), .bin .geq (.t 7) (.c (.i 0)), none⟩,
    ⟨(some 4), .mv (.t 8), none⟩] []) .ret))
def V114 : List RV := [.t 4]
theorem m114 : mtcF Try.prog 114 2 A114 V114 = true := by kernel_rfl
def A151 : ACode := (.seq (.reg [⟨(some 2), .mv (.c (.b false)), none⟩] []) (.seq (.reg [⟨(some 3), .mv (.t 0), none⟩,
    ⟨(some 4), .mv (.t 0), none⟩,
    ⟨(some 5), .bin .neq (.t 3) (.t 4), none⟩,
    ⟨(some 2), .mv (.t 5), none⟩] []) .ret))
def V151 : List RV := [.t 2]
theorem m151 : mtcF Try.prog 151 1 A151 V151 = true := by kernel_rfl
def A141 : ACode := (.seq (.reg [⟨(some 4), .mv (.c (.i 0)), none⟩] []) (.seq (.reg [⟨(some 7), .mv (.t 0), none⟩,
    ⟨(some 8), .call 151 [(.t 7)], none⟩,
    ⟨(some 5), .mv (.t 8), none⟩] []) (.seq (.reg [⟨(some 9), .mv (.t 1), none⟩,
    ⟨(some 10), .call 151 [(.t 9)], none⟩,
    ⟨(some 6), .mv (.t 10), none⟩] []) (.seq (.seq (.reg [⟨(some 11), .mv (.t 5), none⟩] []) (.cond (.t 11) (.seq (.seq (.reg [⟨(some 12), .mv (.t 6), none⟩] []) (.cond (.t 12) (.seq (.reg [⟨(some 4), .mv (.c (.i 0)), none⟩] []) .ret) .skip)) (.seq (.reg [⟨(some 4), .mv (.c (.i (-1))), none⟩] []) .ret)) .skip)) (.seq (.seq (.reg [⟨(some 13), .mv (.t 6), none⟩] []) (.cond (.t 13) (.seq (.reg [⟨(some 4), .mv (.c (.i 1)), none⟩] []) .ret) .skip)) (.seq (.seq (.reg [⟨(some 14), .mv (.t 0), none⟩,
    ⟨(some 15), .mv (.t 1), none⟩,
    ⟨(some 16), .bin .lss (.t 14) (.t 15), none⟩] []) (.cond (.t 16) (.seq (.reg [⟨(some 4), .mv (.c (.i (-1))), none⟩] []) .ret) .skip)) (.seq (.seq (.reg [⟨(some 17), .mv (.t 0), none⟩,
    ⟨(some 18), .mv (.t 1), none⟩,
    ⟨(some 19), .bin .gtr (.t 17) (.t 18), none⟩] []) (.cond (.t 19) (.seq (.reg [⟨(some 4), .mv (.c (.i 1)), none⟩] []) .ret) .skip)) (.seq (.reg [⟨(some 4), .mv (.c (.i 0)), none⟩] []) .ret))))))))
def V141 : List RV := [.t 4]
theorem m141 : mtcF Try.prog 141 2 A141 V141 = true := by kernel_rfl
def A140L1 : ACode := (.seq (.reg [⟨(some 9), .bin .lss (.t 8) (.t 7), none⟩] []) (.seq (.cond (.t 9) .skip (.exit 0)) (.seq (.blk 1 (.seq (.reg [⟨(some 10), .idx 1 (.t 6) (.t 8), none⟩,
    ⟨(some 11), .load 1 false (.t 10), none⟩,
    ⟨(some 5), .mv (.t 11), none⟩] []) (.seq (.reg [⟨(some 12), .mv (.t 5), none⟩,
    ⟨(some 13), .mv (.t 3), none⟩,
    ⟨(some 14), .bin .neq (.t 12) (.t 13), none⟩] []) (.cond (.t 14) (.seq (.reg [⟨(some 15), .mv (.t 5), none⟩,
    ⟨(some 2), .mv (.t 15), none⟩] []) .ret) .skip)))) (.reg [⟨(some 16), .bin .add (.t 8) (.c (.i 1)), none⟩,
    ⟨(some 8), .mv (.t 16), none⟩] []))))
def A140R2 : ACode := (.seq (.reg [⟨(some 17), .mv (.t 3), none⟩,
    ⟨(some 2), .mv (.t 17), none⟩] []) .ret)
def A140 : ACode := (.seq (.reg [⟨(some 2), .mv (.c (.i 0)), none⟩] []) (.seq (.reg [⟨(some 3), .mv (.c (.i 0)), none⟩] []) (.seqa (.reg [⟨(some 6), .mv (.t 0), none⟩,
    ⟨(some 7), .len (.t 6), none⟩,
    ⟨(some 8), .mv (.c (.i 0)), none⟩] []) (.blk 0 (.loop A140L1)) [3] [] A140R2)))
def V140 : List RV := [.t 2]
theorem m140 : mtcF Try.prog 140 1 A140 V140 = true := by kernel_rfl
def A115 : ACode := (.seq (.reg [⟨(some 2), .box 4 (.t 0), none⟩,
    ⟨(some 3), .box 4 (.t 1), none⟩,
    ⟨(some 4), .mv (.c (.i 0)), none⟩] []) (.seq (.drw [⟨(some 5), .fad 0 (.t 2), none⟩,
    ⟨(some 6), .load 1 false (.t 5), none⟩,
    ⟨(some 7), .fad 0 (.t 3), none⟩,
    ⟨(some 8), .load 1 false (.t 7), none⟩,
    ⟨(some 9), .call 141 [(.t 6), (.t 8)], none⟩,
    ⟨(some 10), .fad 1 (.t 2), none⟩,
    ⟨(some 11), .load 1 false (.t 10), none⟩,
    ⟨(some 12), .fad 1 (.t 3), none⟩,
    ⟨(some 13), .load 1 false (.t 12), none⟩,
    ⟨(some 14), .call 141 [(.t 11), (.t 13)], none⟩,
    ⟨(some 15), .fad 2 (.t 2), none⟩,
    ⟨(some 16), .load 1 false (.t 15), none⟩,
    ⟨(some 17), .fad 2 (.t 3), none⟩,
    ⟨(some 18), .load 1 false (.t 17), none⟩,
    ⟨(some 19), .call 141 [(.t 16), (.t 18)], none⟩,
    ⟨(some 20), .fad 3 (.t 2), none⟩,
    ⟨(some 21), .load 1 false (.t 20), none⟩,
    ⟨(some 22), .fad 3 (.t 3), none⟩,
    ⟨(some 23), .load 1 false (.t 22), none⟩,
    ⟨(some 24), .call 141 [(.t 21), (.t 23)], none⟩,
    ⟨(some 25), .bsl 1 true [(.t 9), (.t 14), (.t 19), (.t 24)], none⟩,
    ⟨(some 26), .call 140 [(.t 25)], none⟩,
    ⟨(some 4), .mv (.t 26), none⟩] []) .ret))
def V115 : List RV := [.t 4]
theorem m115 : mtcF Try.prog 115 2 A115 V115 = true := by kernel_rfl
def A65L1 : ACode := (.seq (.reg [⟨(some 11), .bin .lss (.t 10) (.t 9), none⟩] []) (.seq (.cond (.t 11) .skip (.exit 0)) (.seq (.blk 1 (.seq (.reg [⟨(some 12), .mv (.t 10), none⟩,
    ⟨(some 13), .idx 1 (.t 8) (.t 10), none⟩,
    ⟨(some 14), .load 1 false (.t 13), none⟩,
    ⟨(some 3), .mv (.t 12), none⟩,
    ⟨(some 4), .mv (.t 14), none⟩] []) (.seq (.reg [⟨(some 15), .mv (.t 4), none⟩,
    ⟨(some 16), .call 113 [(.t 15)], none⟩,
    ⟨(some 17), .un .not (.t 16), none⟩,
    ⟨(some 18), .mv (.t 17), none⟩,
    ⟨(some 19), .fad 0 (.t 1), (some (18, false))⟩,
    ⟨(some 20), .load 1 false (.t 19), (some (18, false))⟩,
    ⟨(some 21), .mv (.t 3), (some (18, false))⟩,
    ⟨(some 22), .slc 1 (.t 20) none (some (.t 21)) none, (some (18, false))⟩,
    ⟨(some 23), .mv (.t 4), (some (18, false))⟩,
    ⟨(some 24), .call 114 [(.t 22), (.t 23)], (some (18, false))⟩,
    ⟨(some 25), .pick (.t 18) (.c (.b true)) (.t 24), none⟩] []) (.cond (.t 25) (.seq (.reg [⟨(some 2), .mv (.c (.b false)), none⟩] []) .ret) .skip)))) (.reg [⟨(some 26), .bin .add (.t 10) (.c (.i 1)), none⟩,
    ⟨(some 10), .mv (.t 26), none⟩] []))))
def A65L3 : ACode := (.seq (.reg [⟨(some 31), .bin .lss (.t 30) (.t 29), none⟩] []) (.seq (.cond (.t 31) .skip (.exit 2)) (.seq (.blk 3 (.seq (.reg [⟨(some 32), .mv (.t 30), none⟩,
    ⟨(some 33), .idx 4 (.t 28) (.t 30), none⟩,
    ⟨(some 34), .load 4 true (.t 33), none⟩,
    ⟨(some 6), .alloc (.agg [.i 0, .i 0, .i 0, .i 0]), none⟩,
    ⟨(some 5), .mv (.t 32), none⟩,
    ⟨none, .store 4 (.t 6) (.t 34), none⟩] []) (.seq (.drw [⟨(some 35), .fad 0 (.t 6), none⟩,
    ⟨(some 36), .load 1 false (.t 35), none⟩,
    ⟨(some 37), .bin .lss (.t 36) (.c (.i 0)), none⟩,
    ⟨(some 38), .mv (.t 37), none⟩,
    ⟨(some 39), .fad 0 (.t 6), (some (38, false))⟩,
    ⟨(some 40), .load 1 false (.t 39), (some (38, false))⟩,
    ⟨(some 41), .fad 1 (.t 6), (some (38, false))⟩,
    ⟨(some 42), .load 1 false (.t 41), (some (38, false))⟩,
    ⟨(some 43), .bin .geq (.t 40) (.t 42), (some (38, false))⟩,
    ⟨(some 44), .pick (.t 38) (.c (.b true)) (.t 43), none⟩,
    ⟨(some 45), .mv (.t 44), none⟩,
    ⟨(some 46), .fad 1 (.t 6), (some (45, false))⟩,
    ⟨(some 47), .load 1 false (.t 46), (some (45, false))⟩,
    ⟨(some 48), .fad 0 (.t 1), (some (45, false))⟩,
    ⟨(some 49), .load 1 false (.t 48), (some (45, false))⟩,
    ⟨(some 50), .len (.t 49), (some (45, false))⟩,
    ⟨(some 51), .bin .geq (.t 47) (.t 50), (some (45, false))⟩,
    ⟨(some 52), .pick (.t 45) (.c (.b true)) (.t 51), none⟩,
    ⟨(some 53), .mv (.t 52), none⟩,
    ⟨(some 54), .fad 2 (.t 6), (some (53, false))⟩,
    ⟨(some 55), .load 1 false (.t 54), (some (53, false))⟩,
    ⟨(some 56), .call 66 [(.t 55), (.c (.i 1)), (.c (.i 5000))], (some (53, false))⟩,
    ⟨(some 57), .un .not (.t 56), (some (53, false))⟩,
    ⟨(some 58), .pick (.t 53) (.c (.b true)) (.t 57), none⟩,
    ⟨(some 59), .mv (.t 58), none⟩,
    ⟨(some 60), .fad 3 (.t 6), (some (59, false))⟩,
    ⟨(some 61), .load 1 false (.t 60), (some (59, false))⟩,
    ⟨(some 62), .call 66 [(.t 61), (.c (.i 0)), (.c (.i 9))], (some (59, false))⟩,
    ⟨(some 63), .un .not (.t 62), (some (59, false))⟩,
    ⟨(some 64), .pick (.t 59) (.c (.b true)) (.t 63), none⟩,
    ⟨(some 65), .mv (.t 64), none⟩,
    ⟨(some 66), .mv (.t 5), (some (65, false))⟩,
    ⟨(some 67), .bin .gtr (.t 66) (.c (.i 0)), (some (65, false))⟩,
    ⟨(some 68), .mv (.t 67), (some (65, false))⟩,
    ⟨(some 69), .fad 1 (.t 1), (some (68, true))⟩,
    ⟨(some 70), .load 1 false (.t 69), (some (68, true))⟩,
    ⟨(some 71), .mv (.t 5), (some (68, true))⟩,
    ⟨(some 72), .bin .sub (.t 71) (.c (.i 1)), (some (68, true))⟩,
    ⟨(some 73), .idx 4 (.t 70) (.t 72), (some (68, true))⟩,
    ⟨(some 74), .load 4 true (.t 73), (some (68, true))⟩,
    ⟨(some 75), .load 4 true (.t 6), (some (68, true))⟩,
    ⟨(some 76), .call 115 [(.t 74), (.t 75)], (some (68, true))⟩,
    ⟨(some 77), .bin .gtr (.t 76) (.c (.i 0)), (some (68, true))⟩,
    ⟨(some 78), .pick (.t 68) (.t 77) (.c (.b false)), (some (65, false))⟩,
    ⟨(some 79), .pick (.t 65) (.c (.b true)) (.t 78), none⟩] []) (.cond (.t 79) (.seq (.reg [⟨(some 2), .mv (.c (.b false)), none⟩] []) .ret) .skip)))) (.reg [⟨(some 80), .bin .add (.t 30) (.c (.i 1)), none⟩,
    ⟨(some 30), .mv (.t 80), none⟩] []))))
def A65R4 : ACode := (.seq (.reg [⟨(some 81), .fad 0 (.t 1), none⟩,
    ⟨(some 82), .load 1 false (.t 81), none⟩,
    ⟨(some 83), .len (.t 82), none⟩,
    ⟨(some 84), .call 66 [(.t 83), (.c (.i 2)), (.c (.i 8))], none⟩,
    ⟨(some 85), .mv (.t 84), none⟩,
    ⟨(some 86), .fad 1 (.t 1), (some (85, true))⟩,
    ⟨(some 87), .load 1 false (.t 86), (some (85, true))⟩,
    ⟨(some 88), .len (.t 87), (some (85, true))⟩,
    ⟨(some 89), .bin .leq (.t 88) (.c (.i 14)), (some (85, true))⟩,
    ⟨(some 90), .pick (.t 85) (.t 89) (.c (.b false)), none⟩,
    ⟨(some 2), .mv (.t 90), none⟩] []) .ret)
def A65R2 : ACode := (.seqa (.reg [⟨(some 27), .fad 1 (.t 1), none⟩,
    ⟨(some 28), .load 1 false (.t 27), none⟩,
    ⟨(some 29), .len (.t 28), none⟩,
    ⟨(some 30), .mv (.c (.i 0)), none⟩] []) (.blk 2 (.loop A65L3)) [1] [1] A65R4)
def A65 : ACode := (.seq (.reg [⟨(some 1), .box 2 (.t 0), none⟩,
    ⟨(some 2), .mv (.c (.b false)), none⟩] []) (.seqa (.reg [⟨(some 7), .fad 0 (.t 1), none⟩,
    ⟨(some 8), .load 1 false (.t 7), none⟩,
    ⟨(some 9), .len (.t 8), none⟩,
    ⟨(some 10), .mv (.c (.i 0)), none⟩] []) (.blk 0 (.loop A65L1)) [1] [1] A65R2))
def V65 : List RV := [.t 2]
theorem m65 : mtcF Try.prog 65 1 A65 V65 = true := by kernel_rfl
def A67L1 : ACode := (.seq (.reg [⟨(some 20), .bin .lss (.t 19) (.t 18), none⟩] []) (.seq (.cond (.t 20) .skip (.exit 2)) (.seq (.blk 3 (.seq (.reg [⟨(some 21), .mv (.t 19), none⟩,
    ⟨(some 22), .idx 4 (.t 17) (.t 19), none⟩,
    ⟨(some 23), .load 4 true (.t 22), none⟩,
    ⟨(some 7), .alloc (.agg [.i 0, .i 0, .i 0, .i 0]), none⟩,
    ⟨(some 6), .mv (.t 21), none⟩,
    ⟨none, .store 4 (.t 7) (.t 23), none⟩] []) (.seq (.reg [⟨(some 24), .fad 3 (.t 7), none⟩,
    ⟨(some 25), .load 1 false (.t 24), none⟩,
    ⟨(some 26), .mv (.t 4), none⟩,
    ⟨(some 27), .bin .eql (.t 25) (.t 26), none⟩] []) (.cond (.t 27) (.reg [⟨(some 28), .mv (.t 5), none⟩,
    ⟨(some 29), .mv (.t 6), none⟩,
    ⟨(some 30), .bsl 1 false [(.t 29)], none⟩,
    ⟨(some 31), .app 1 8 true (.t 28) (.t 30), none⟩,
    ⟨(some 5), .mv (.t 31), none⟩] [5]) .skip)))) (.reg [⟨(some 32), .bin .add (.t 19) (.c (.i 1)), none⟩,
    ⟨(some 19), .mv (.t 32), none⟩] []))))
def A67R2 : ACode := (.seq (.reg [⟨(some 33), .mv (.t 5), none⟩,
    ⟨(some 34), .len (.t 33), none⟩,
    ⟨(some 35), .bin .gtr (.t 34) (.c (.i 0)), none⟩] []) (.cond (.t 35) (.reg [⟨(some 36), .mv (.t 3), none⟩,
    ⟨(some 37), .mv (.t 5), none⟩,
    ⟨(some 38), .bsl 1 false [(.t 37)], none⟩,
    ⟨(some 39), .app 1 24 true (.t 36) (.t 38), none⟩,
    ⟨(some 3), .mv (.t 39), none⟩] [3]) .skip))
def A67L3 : ACode := (.seq (.seq (.reg [⟨(some 11), .mv (.t 4), none⟩,
    ⟨(some 12), .bin .leq (.t 11) (.c (.i 9)), none⟩] []) (.cond (.t 12) .skip (.exit 0))) (.seq (.blk 1 (.seq (.reg [⟨(some 15), .bsl 1 false [], none⟩,
    ⟨(some 5), .mv (.t 15), none⟩] [5]) (.seqa (.reg [⟨(some 16), .fad 1 (.t 1), none⟩,
    ⟨(some 17), .load 1 false (.t 16), none⟩,
    ⟨(some 18), .len (.t 17), none⟩,
    ⟨(some 19), .mv (.c (.i 0)), none⟩] []) (.blk 2 (.loop A67L1)) [1, 3, 4, 5] [1, 3, 5] A67R2))) (.reg [⟨(some 13), .mv (.t 4), none⟩,
    ⟨(some 14), .bin .add (.t 13) (.c (.i 1)), none⟩,
    ⟨(some 4), .mv (.t 14), none⟩] [])))
def A67L5 : ACode := (.seq (.reg [⟨(some 44), .bin .lss (.t 43) (.t 42), none⟩] []) (.seq (.cond (.t 44) .skip (.exit 4)) (.seq (.blk 5 (.seq (.reg [⟨(some 45), .mv (.t 43), none⟩,
    ⟨(some 46), .idx 4 (.t 41) (.t 43), none⟩,
    ⟨(some 47), .load 4 true (.t 46), none⟩,
    ⟨(some 9), .alloc (.agg [.i 0, .i 0, .i 0, .i 0]), none⟩,
    ⟨(some 8), .mv (.t 45), none⟩,
    ⟨none, .store 4 (.t 9) (.t 47), none⟩] []) (.seq (.reg [⟨(some 48), .fad 3 (.t 9), none⟩,
    ⟨(some 49), .load 1 false (.t 48), none⟩,
    ⟨(some 50), .bin .eql (.t 49) (.c (.i 0)), none⟩] []) (.cond (.t 50) (.reg [⟨(some 51), .mv (.t 3), none⟩,
    ⟨(some 52), .mv (.t 8), none⟩,
    ⟨(some 53), .bsl 1 false [(.t 52)], none⟩,
    ⟨(some 54), .bsl 1 false [(.t 53)], none⟩,
    ⟨(some 55), .app 1 24 true (.t 51) (.t 54), none⟩,
    ⟨(some 3), .mv (.t 55), none⟩] [3]) .skip)))) (.reg [⟨(some 56), .bin .add (.t 43) (.c (.i 1)), none⟩,
    ⟨(some 43), .mv (.t 56), none⟩] []))))
def A67R6 : ACode := (.seq (.reg [⟨(some 57), .mv (.t 3), none⟩,
    ⟨(some 2), .mv (.t 57), none⟩] [2]) .ret)
def A67R4 : ACode := (.seqa (.reg [⟨(some 40), .fad 1 (.t 1), none⟩,
    ⟨(some 41), .load 1 false (.t 40), none⟩,
    ⟨(some 42), .len (.t 41), none⟩,
    ⟨(some 43), .mv (.c (.i 0)), none⟩] []) (.blk 4 (.loop A67L5)) [3] [3] A67R6)
def A67 : ACode := (.seq (.reg [⟨(some 1), .box 2 (.t 0), none⟩,
    ⟨(some 2), .mv (.c (.lst .u 1 [])), none⟩] [2]) (.seq (.reg [⟨(some 10), .bsl 1 false [], none⟩,
    ⟨(some 3), .mv (.t 10), none⟩] [3]) (.seqa (.reg [⟨(some 4), .mv (.c (.i 1)), none⟩] []) (.blk 0 (.loop A67L3)) [1, 3] [1, 3] A67R4)))
def V67 : List RV := [.t 2]
theorem m67 : mtcF Try.prog 67 1 A67 V67 = true := by kernel_rfl
def A116L1 : ACode := (.seq (.reg [⟨(some 9), .bin .lss (.t 8) (.t 7), none⟩] []) (.seq (.cond (.t 9) .skip (.exit 0)) (.seq (.blk 1 (.seq (.reg [⟨(some 10), .mv (.t 8), none⟩,
    ⟨(some 5), .mv (.t 10), none⟩] []) (.seq (.reg [⟨(some 11), .mv (.t 1), none⟩,
    ⟨(some 12), .mv (.t 0), none⟩,
    ⟨(some 13), .mv (.t 5), none⟩,
    ⟨(some 14), .idx 1 (.t 12) (.t 13), none⟩,
    ⟨(some 15), .load 1 false (.t 14), none⟩,
    ⟨(some 16), .dyn (.t 11) [(.t 15)], none⟩] []) (.cond (.t 16) (.seq (.reg [⟨(some 17), .mv (.t 5), none⟩,
    ⟨(some 4), .mv (.t 17), none⟩] []) .ret) .skip)))) (.reg [⟨(some 18), .bin .add (.t 8) (.c (.i 1)), none⟩,
    ⟨(some 8), .mv (.t 18), none⟩] []))))
def A116R2 : ACode := (.seq (.reg [⟨(some 4), .mv (.c (.i (-1))), none⟩] []) .ret)
def A116 : ACode := (.seq (.reg [⟨(some 4), .mv (.c (.i 0)), none⟩] []) (.seqa (.reg [⟨(some 6), .mv (.t 0), none⟩,
    ⟨(some 7), .len (.t 6), none⟩,
    ⟨(some 8), .mv (.c (.i 0)), none⟩] []) (.blk 0 (.loop A116L1)) [] [] A116R2))
def V116 : List RV := [.t 4]
theorem m116 : mtcF Try.prog 116 2 A116 V116 = true := by kernel_rfl
def A68 : ACode := (.seq (.reg [⟨(some 4), .mv (.c (.b false)), none⟩] []) (.seq (.reg [⟨(some 5), .mv (.t 0), none⟩,
    ⟨(some 6), .mv (.t 1), none⟩,
    ⟨(some 7), .call 116 [(.t 5), (.t 6)], none⟩,
    ⟨(some 8), .bin .geq (.t 7) (.c (.i 0)), none⟩,
    ⟨(some 4), .mv (.t 8), none⟩] []) .ret))
def V68 : List RV := [.t 4]
theorem m68 : mtcF Try.prog 68 2 A68 V68 = true := by kernel_rfl
def A69 : ACode := (.seq (.reg [⟨(some 3), .mv (.c (.b false)), none⟩] []) (.seq (.reg [⟨(some 4), .mv (.t 0), none⟩,
    ⟨(some 5), .fad 0 (.t 1), none⟩,
    ⟨(some 6), .load 1 false (.t 5), none⟩,
    ⟨(some 7), .call 66 [(.t 4), (.c (.i 0)), (.t 6)], none⟩,
    ⟨(some 8), .un .not (.t 7), none⟩,
    ⟨(some 3), .mv (.t 8), none⟩] []) .ret))
def V69 : List RV := [.t 3]
theorem m69 : mtcF Try.prog 69 2 A69 V69 = true := by kernel_rfl
def A20 : ACode := (.seq (.reg [⟨(some 2), .box 2 (.t 0), none⟩,
    ⟨(some 3), .box 2 (.t 1), none⟩,
    ⟨(some 4), .mv (.c (.b false)), none⟩] []) (.seq (.drw [⟨(some 5), .load 2 true (.t 2), none⟩,
    ⟨(some 6), .call 65 [(.t 5)], none⟩,
    ⟨(some 7), .mv (.t 6), none⟩,
    ⟨(some 8), .fad 0 (.t 3), (some (7, true))⟩,
    ⟨(some 9), .load 1 false (.t 8), (some (7, true))⟩,
    ⟨(some 10), .call 66 [(.t 9), (.c (.i 2)), (.c (.i 20))], (some (7, true))⟩,
    ⟨(some 11), .pick (.t 7) (.t 10) (.c (.b false)), none⟩,
    ⟨(some 12), .mv (.t 11), none⟩,
    ⟨(some 13), .fad 1 (.t 3), (some (12, true))⟩,
    ⟨(some 14), .load 1 false (.t 13), (some (12, true))⟩,
    ⟨(some 15), .len (.t 14), (some (12, true))⟩,
    ⟨(some 16), .load 2 true (.t 2), (some (12, true))⟩,
    ⟨(some 17), .call 67 [(.t 16)], (some (12, true))⟩,
    ⟨(some 18), .len (.t 17), (some (12, true))⟩,
    ⟨(some 19), .bin .eql (.t 15) (.t 18), (some (12, true))⟩,
    ⟨(some 20), .pick (.t 12) (.t 19) (.c (.b false)), none⟩,
    ⟨(some 21), .mv (.t 20), none⟩,
    ⟨(some 22), .fad 1 (.t 3), (some (21, true))⟩,
    ⟨(some 23), .load 1 false (.t 22), (some (21, true))⟩,
    ⟨(some 24), .mkf 69 [(.t 3)], (some (21, true))⟩,
    ⟨(some 25), .call 68 [(.t 23), (.t 24)], (some (21, true))⟩,
    ⟨(some 26), .un .not (.t 25), (some (21, true))⟩,
    ⟨(some 27), .pick (.t 21) (.t 26) (.c (.b false)), none⟩,
    ⟨(some 4), .mv (.t 27), none⟩] []) .ret))
def V20 : List RV := [.t 4]
theorem m20 : mtcF Try.prog 20 2 A20 V20 = true := by kernel_rfl
def A143 : ACode := (.seq (.reg [⟨(some 3), .mv (.c (.b false)), none⟩] []) (.seq (.reg [⟨(some 4), .mv (.t 0), none⟩,
    ⟨(some 5), .fad 0 (.t 1), none⟩,
    ⟨(some 6), .load 1 false (.t 5), none⟩,
    ⟨(some 7), .len (.t 6), none⟩,
    ⟨(some 8), .bin .sub (.t 7) (.c (.i 1)), none⟩,
    ⟨(some 9), .call 66 [(.t 4), (.c (.i 0)), (.t 8)], none⟩,
    ⟨(some 10), .un .not (.t 9), none⟩,
    ⟨(some 3), .mv (.t 10), none⟩] []) .ret))
def V143 : List RV := [.t 3]
theorem m143 : mtcF Try.prog 143 2 A143 V143 = true := by kernel_rfl
def A119 : ACode := (.seq (.reg [⟨(some 2), .box 2 (.t 0), none⟩,
    ⟨(some 4), .mv (.c (.b false)), none⟩] []) (.seq (.reg [⟨(some 5), .load 2 true (.t 2), none⟩,
    ⟨(some 6), .call 65 [(.t 5)], none⟩,
    ⟨(some 7), .mv (.t 6), none⟩,
    ⟨(some 8), .mv (.t 1), (some (7, true))⟩,
    ⟨(some 9), .mkf 143 [(.t 2)], (some (7, true))⟩,
    ⟨(some 10), .call 68 [(.t 8), (.t 9)], (some (7, true))⟩,
    ⟨(some 11), .un .not (.t 10), (some (7, true))⟩,
    ⟨(some 12), .pick (.t 7) (.t 11) (.c (.b false)), none⟩,
    ⟨(some 4), .mv (.t 12), none⟩] []) .ret))
def V119 : List RV := [.t 4]
theorem m119 : mtcF Try.prog 119 2 A119 V119 = true := by kernel_rfl
def A86 : ACode := (.seq (.reg [⟨(some 4), .box 2 (.t 0), none⟩,
    ⟨(some 5), .box 2 (.t 1), none⟩,
    ⟨(some 8), .mv (.c (.b false)), none⟩] []) (.seq (.reg [⟨(some 9), .load 2 true (.t 4), none⟩,
    ⟨(some 10), .load 2 true (.t 5), none⟩,
    ⟨(some 11), .call 20 [(.t 9), (.t 10)], none⟩,
    ⟨(some 12), .mv (.t 11), none⟩,
    ⟨(some 13), .load 2 true (.t 4), (some (12, true))⟩,
    ⟨(some 14), .mv (.t 2), (some (12, true))⟩,
    ⟨(some 15), .mv (.t 3), (some (12, true))⟩,
    ⟨(some 16), .bsl 1 false [(.t 14), (.t 15)], (some (12, true))⟩,
    ⟨(some 17), .call 119 [(.t 13), (.t 16)], (some (12, true))⟩,
    ⟨(some 18), .pick (.t 12) (.t 17) (.c (.b false)), none⟩,
    ⟨(some 19), .mv (.t 18), none⟩,
    ⟨(some 20), .mv (.t 2), (some (19, true))⟩,
    ⟨(some 21), .mv (.t 3), (some (19, true))⟩,
    ⟨(some 22), .bin .neq (.t 20) (.t 21), (some (19, true))⟩,
    ⟨(some 23), .pick (.t 19) (.t 22) (.c (.b false)), none⟩,
    ⟨(some 8), .mv (.t 23), none⟩] []) .ret))
def V86 : List RV := [.t 8]
theorem m86 : mtcF Try.prog 86 4 A86 V86 = true := by kernel_rfl
def A79L1 : ACode := (.seq (.reg [⟨(some 12), .bin .lss (.t 11) (.t 10), none⟩] []) (.seq (.cond (.t 12) .skip (.exit 0)) (.seq (.blk 1 (.seq (.reg [⟨(some 13), .mv (.t 11), none⟩,
    ⟨(some 14), .idx 1 (.t 9) (.t 11), none⟩,
    ⟨(some 15), .load 1 false (.t 14), none⟩,
    ⟨(some 6), .mv (.t 13), none⟩,
    ⟨(some 7), .mv (.t 15), none⟩] []) (.seq (.reg [⟨(some 16), .mv (.t 1), none⟩,
    ⟨(some 17), .mv (.t 6), none⟩,
    ⟨(some 18), .bin .shr (.t 16) (.t 17), none⟩,
    ⟨(some 19), .bin .and (.t 18) (.c (.i 1)), none⟩,
    ⟨(some 20), .bin .eql (.t 19) (.c (.i 1)), none⟩] []) (.cond (.t 20) (.reg [⟨(some 21), .mv (.t 5), none⟩,
    ⟨(some 22), .mv (.t 7), none⟩,
    ⟨(some 23), .bin .mul (.t 21) (.t 22), none⟩,
    ⟨(some 5), .mv (.t 23), none⟩] []) (.reg [⟨(some 24), .mv (.t 5), none⟩,
    ⟨(some 25), .fad 0 (.t 2), none⟩,
    ⟨(some 26), .load 1 false (.t 25), none⟩,
    ⟨(some 27), .mv (.t 7), none⟩,
    ⟨(some 28), .bin .sub (.t 26) (.t 27), none⟩,
    ⟨(some 29), .bin .mul (.t 24) (.t 28), none⟩,
    ⟨(some 5), .mv (.t 29), none⟩] []))))) (.reg [⟨(some 30), .bin .add (.t 11) (.c (.i 1)), none⟩,
    ⟨(some 11), .mv (.t 30), none⟩] []))))
def A79R2 : ACode := (.seq (.reg [⟨(some 31), .mv (.t 5), none⟩,
    ⟨(some 4), .mv (.t 31), none⟩] []) .ret)
def A79 : ACode := (.seq (.reg [⟨(some 2), .box 2 (.t 0), none⟩,
    ⟨(some 4), .mv (.c (.i 0)), none⟩] []) (.seq (.reg [⟨(some 5), .mv (.c (.i 1)), none⟩] []) (.seqa (.reg [⟨(some 8), .fad 1 (.t 2), none⟩,
    ⟨(some 9), .load 1 false (.t 8), none⟩,
    ⟨(some 10), .len (.t 9), none⟩,
    ⟨(some 11), .mv (.c (.i 0)), none⟩] []) (.blk 0 (.loop A79L1)) [5] [] A79R2)))
def V79 : List RV := [.t 4]
theorem m79 : mtcF Try.prog 79 2 A79 V79 = true := by kernel_rfl
def A81L1 : ACode := (.seq (.reg [⟨(some 31), .bin .lss (.t 30) (.t 29), none⟩] []) (.seq (.cond (.t 31) .skip (.exit 2)) (.seq (.blk 3 (.seq (.reg [⟨(some 32), .mv (.t 30), none⟩,
    ⟨(some 33), .idx 1 (.t 28) (.t 30), none⟩,
    ⟨(some 34), .load 1 false (.t 33), none⟩,
    ⟨(some 12), .mv (.t 32), none⟩,
    ⟨(some 13), .mv (.t 34), none⟩] [13]) (.seq (.reg [⟨(some 35), .mv (.t 9), none⟩,
    ⟨(some 36), .mv (.t 12), none⟩,
    ⟨(some 37), .bin .shr (.t 35) (.t 36), none⟩,
    ⟨(some 38), .bin .and (.t 37) (.c (.i 1)), none⟩,
    ⟨(some 39), .bin .eql (.t 38) (.c (.i 1)), none⟩] []) (.cond (.t 39) (.reg [⟨(some 40), .mv (.t 11), none⟩,
    ⟨(some 41), .mv (.t 13), none⟩,
    ⟨(some 42), .app 1 8 false (.t 40) (.t 41), none⟩,
    ⟨(some 11), .mv (.t 42), none⟩] [11]) .skip)))) (.reg [⟨(some 43), .bin .add (.t 30) (.c (.i 1)), none⟩,
    ⟨(some 30), .mv (.t 43), none⟩] []))))
def A81R2 : ACode := (.seq (.reg [⟨(some 44), .mv (.t 2), none⟩,
    ⟨(some 45), .mv (.t 11), none⟩,
    ⟨(some 46), .dyn (.t 44) [(.t 45)], none⟩] []) (.cond (.t 46) (.reg [⟨(some 47), .mv (.t 7), none⟩,
    ⟨(some 48), .mv (.t 10), none⟩,
    ⟨(some 49), .bin .add (.t 47) (.t 48), none⟩,
    ⟨(some 7), .mv (.t 49), none⟩] []) .skip))
def A81L3 : ACode := (.seq (.reg [⟨(some 20), .bin .lss (.t 19) (.t 18), none⟩] []) (.seq (.cond (.t 20) .skip (.exit 0)) (.seq (.blk 1 (.seq (.reg [⟨(some 21), .mv (.t 19), none⟩,
    ⟨(some 9), .mv (.t 21), none⟩] []) (.seq (.reg [⟨(some 22), .load 2 true (.t 3), none⟩,
    ⟨(some 23), .mv (.t 9), none⟩,
    ⟨(some 24), .call 79 [(.t 22), (.t 23)], none⟩,
    ⟨(some 10), .mv (.t 24), none⟩] []) (.seq (.seq (.reg [⟨(some 25), .mv (.t 10), none⟩,
    ⟨(some 26), .bin .eql (.t 25) (.c (.i 0)), none⟩] []) (.cond (.t 26) (.exit 1) .skip)) (.seq (.reg [⟨(some 27), .bsl 1 false [], none⟩,
    ⟨(some 11), .mv (.t 27), none⟩] [11]) (.seqa (.reg [⟨(some 28), .mv (.t 8), none⟩,
    ⟨(some 29), .len (.t 28), none⟩,
    ⟨(some 30), .mv (.c (.i 0)), none⟩] []) (.blk 2 (.loop A81L1)) [2, 3, 7, 8, 10, 11, 18, 19] [3, 8, 11] A81R2)))))) (.reg [⟨(some 50), .bin .add (.t 19) (.c (.i 1)), none⟩,
    ⟨(some 19), .mv (.t 50), none⟩] []))))
def A81R4 : ACode := (.seq (.reg [⟨(some 51), .mv (.t 7), none⟩,
    ⟨(some 6), .mv (.t 51), none⟩] []) .ret)
def A81 : ACode := (.seq (.reg [⟨(some 3), .box 2 (.t 0), none⟩,
    ⟨(some 4), .box 2 (.t 1), none⟩,
    ⟨(some 6), .mv (.c (.i 0)), none⟩] []) (.seq (.reg [⟨(some 14), .load 2 true (.t 4), none⟩,
    ⟨(some 15), .call 67 [(.t 14)], none⟩,
    ⟨(some 7), .mv (.c (.i 0)), none⟩,
    ⟨(some 8), .mv (.t 15), none⟩] [8]) (.seqa (.reg [⟨(some 16), .mv (.t 8), none⟩,
    ⟨(some 17), .len (.t 16), none⟩,
    ⟨(some 18), .bin .shl (.c (.i 1)) (.t 17), none⟩,
    ⟨(some 19), .mv (.c (.i 0)), none⟩] []) (.blk 0 (.loop A81L3)) [7] [] A81R4)))
def V81 : List RV := [.t 6]
theorem m81 : mtcF Try.prog 81 3 A81 V81 = true := by kernel_rfl
def A142L1 : ACode := (.seq (.reg [⟨(some 9), .bin .lss (.t 8) (.t 7), none⟩] []) (.seq (.cond (.t 9) .skip (.exit 0)) (.seq (.blk 1 (.seq (.reg [⟨(some 10), .mv (.t 8), none⟩,
    ⟨(some 5), .mv (.t 10), none⟩] []) (.seq (.reg [⟨(some 11), .mv (.t 1), none⟩,
    ⟨(some 12), .mv (.t 0), none⟩,
    ⟨(some 13), .mv (.t 5), none⟩,
    ⟨(some 14), .idx 1 (.t 12) (.t 13), none⟩,
    ⟨(some 15), .load 1 false (.t 14), none⟩,
    ⟨(some 16), .bin .eql (.t 11) (.t 15), none⟩] []) (.cond (.t 16) (.seq (.reg [⟨(some 17), .mv (.t 5), none⟩,
    ⟨(some 4), .mv (.t 17), none⟩] []) .ret) .skip)))) (.reg [⟨(some 18), .bin .add (.t 8) (.c (.i 1)), none⟩,
    ⟨(some 8), .mv (.t 18), none⟩] []))))
def A142R2 : ACode := (.seq (.reg [⟨(some 4), .mv (.c (.i (-1))), none⟩] []) .ret)
def A142 : ACode := (.seq (.reg [⟨(some 4), .mv (.c (.i 0)), none⟩] []) (.seqa (.reg [⟨(some 6), .mv (.t 0), none⟩,
    ⟨(some 7), .len (.t 6), none⟩,
    ⟨(some 8), .mv (.c (.i 0)), none⟩] []) (.blk 0 (.loop A142L1)) [] [] A142R2))
def V142 : List RV := [.t 4]
theorem m142 : mtcF Try.prog 142 2 A142 V142 = true := by kernel_rfl
def A118 : ACode := (.seq (.reg [⟨(some 4), .mv (.c (.b false)), none⟩] []) (.seq (.reg [⟨(some 5), .mv (.t 0), none⟩,
    ⟨(some 6), .mv (.t 1), none⟩,
    ⟨(some 7), .call 142 [(.t 5), (.t 6)], none⟩,
    ⟨(some 8), .bin .geq (.t 7) (.c (.i 0)), none⟩,
    ⟨(some 4), .mv (.t 8), none⟩] []) .ret))
def V118 : List RV := [.t 4]
theorem m118 : mtcF Try.prog 118 2 A118 V118 = true := by kernel_rfl
def A84L1 : ACode := (.seq (.reg [⟨(some 15), .bin .lss (.t 14) (.t 13), none⟩] []) (.seq (.cond (.t 15) .skip (.exit 0)) (.seq (.blk 1 (.seq (.reg [⟨(some 16), .mv (.t 14), none⟩,
    ⟨(some 6), .mv (.t 16), none⟩] []) (.reg [⟨(some 17), .mv (.t 5), none⟩,
    ⟨(some 18), .mv (.t 6), none⟩,
    ⟨(some 19), .bsl 1 false [(.t 18)], none⟩,
    ⟨(some 20), .app 1 8 true (.t 17) (.t 19), none⟩,
    ⟨(some 5), .mv (.t 20), none⟩] [5]))) (.reg [⟨(some 21), .bin .add (.t 14) (.c (.i 1)), none⟩,
    ⟨(some 14), .mv (.t 21), none⟩] []))))
def A84L3 : ACode := (.seq (.reg [⟨(some 31), .bin .lss (.t 30) (.t 29), none⟩] []) (.seq (.cond (.t 31) .skip (.exit 4)) (.seq (.blk 5 (.seq (.reg [⟨(some 32), .mv (.t 30), none⟩,
    ⟨(some 33), .idx 4 (.t 28) (.t 30), none⟩,
    ⟨(some 34), .load 4 true (.t 33), none⟩,
    ⟨(some 8), .alloc (.agg [.i 0, .i 0, .i 0, .i 0]), none⟩,
    ⟨(some 7), .mv (.t 32), none⟩,
    ⟨none, .store 4 (.t 8) (.t 34), none⟩] []) (.seq (.reg [⟨(some 35), .mv (.t 1), none⟩,
    ⟨(some 36), .mv (.t 7), none⟩,
    ⟨(some 37), .call 118 [(.t 35), (.t 36)], none⟩,
    ⟨(some 38), .un .not (.t 37), none⟩] []) (.cond (.t 38) (.seq (.drw [⟨(some 39), .mv (.t 5), none⟩,
    ⟨(some 40), .fad 0 (.t 8), none⟩,
    ⟨(some 41), .load 1 false (.t 40), none⟩,
    ⟨(some 42), .idx 1 (.t 39) (.t 41), none⟩,
    ⟨(some 43), .load 1 false (.t 42), none⟩,
    ⟨(some 44), .mv (.t 5), none⟩,
    ⟨(some 45), .fad 1 (.t 8), none⟩,
    ⟨(some 46), .load 1 false (.t 45), none⟩,
    ⟨(some 47), .idx 1 (.t 44) (.t 46), none⟩,
    ⟨(some 48), .load 1 false (.t 47), none⟩,
    ⟨(some 49), .mn (.t 43) (.t 48), none⟩,
    ⟨(some 9), .mv (.t 49), none⟩] []) (.drw [⟨(some 50), .mv (.t 5), none⟩,
    ⟨(some 51), .fad 0 (.t 8), none⟩,
    ⟨(some 52), .ldv 1 false (.t 51), none⟩,
    ⟨(some 53), .mv (.t 5), none⟩,
    ⟨(some 54), .fad 1 (.t 8), none⟩,
    ⟨(some 55), .ldv 1 false (.t 54), none⟩,
    ⟨(some 56), .mv (.t 9), none⟩,
    ⟨(some 57), .mv (.t 9), none⟩,
    ⟨(some 58), .idx 1 (.t 50) (.t 52), none⟩,
    ⟨none, .str 1 (.t 58) (.t 56), none⟩,
    ⟨(some 59), .idx 1 (.t 53) (.t 55), none⟩,
    ⟨none, .str 1 (.t 59) (.t 57), none⟩] [])) .skip)))) (.reg [⟨(some 60), .bin .add (.t 30) (.c (.i 1)), none⟩,
    ⟨(some 30), .mv (.t 60), none⟩] []))))
def A84R4 : ACode := (.reg [⟨(some 61), .bin .add (.t 25) (.c (.i 1)), none⟩,
    ⟨(some 25), .mv (.t 61), none⟩] [])
def A84L5 : ACode := (.seq (.reg [⟨(some 26), .bin .lss (.t 25) (.t 24), none⟩] []) (.seq (.cond (.t 26) .skip (.exit 2)) (.seqr (.blk 3 (.seq (.reg [⟨(some 27), .fad 1 (.t 2), none⟩,
    ⟨(some 28), .load 1 false (.t 27), none⟩,
    ⟨(some 29), .len (.t 28), none⟩,
    ⟨(some 30), .mv (.c (.i 0)), none⟩] []) (.blk 4 (.loop A84L3)))) [1, 2, 5, 24, 25] [2, 5] A84R4)))
def A84R6 : ACode := (.seq (.reg [⟨(some 62), .mv (.t 5), none⟩,
    ⟨(some 4), .mv (.t 62), none⟩] [4]) .ret)
def A84R2 : ACode := (.seqa (.reg [⟨(some 22), .fad 0 (.t 2), none⟩,
    ⟨(some 23), .load 1 false (.t 22), none⟩,
    ⟨(some 24), .len (.t 23), none⟩,
    ⟨(some 25), .mv (.c (.i 0)), none⟩] []) (.blk 2 (.loop A84L5)) [5] [5] A84R6)
def A84 : ACode := (.seq (.reg [⟨(some 2), .box 2 (.t 0), none⟩,
    ⟨(some 4), .mv (.c (.lst .u 1 [])), none⟩] [4]) (.seq (.reg [⟨(some 10), .bsl 1 false [], none⟩,
    ⟨(some 5), .mv (.t 10), none⟩] [5]) (.seqa (.reg [⟨(some 11), .fad 0 (.t 2), none⟩,
    ⟨(some 12), .load 1 false (.t 11), none⟩,
    ⟨(some 13), .len (.t 12), none⟩,
    ⟨(some 14), .mv (.c (.i 0)), none⟩] []) (.blk 0 (.loop A84L1)) [1, 2, 5] [2, 5] A84R2)))
def V84 : List RV := [.t 4]
theorem m84 : mtcF Try.prog 84 2 A84 V84 = true := by kernel_rfl
def A120 : ACode := (.seq (.reg [⟨(some 5), .mv (.c (.b false)), none⟩] []) (.seq (.reg [⟨(some 7), .load 2 true (.t 1), none⟩,
    ⟨(some 8), .mv (.t 0), none⟩,
    ⟨(some 9), .call 84 [(.t 7), (.t 8)], none⟩,
    ⟨(some 6), .mv (.t 9), none⟩] [6]) (.seq (.drw [⟨(some 10), .mv (.t 6), none⟩,
    ⟨(some 11), .load 1 false (.t 2), none⟩,
    ⟨(some 12), .idx 1 (.t 10) (.t 11), none⟩,
    ⟨(some 13), .load 1 false (.t 12), none⟩,
    ⟨(some 14), .mv (.t 6), none⟩,
    ⟨(some 15), .load 1 false (.t 3), none⟩,
    ⟨(some 16), .idx 1 (.t 14) (.t 15), none⟩,
    ⟨(some 17), .load 1 false (.t 16), none⟩,
    ⟨(some 18), .bin .eql (.t 13) (.t 17), none⟩,
    ⟨(some 5), .mv (.t 18), none⟩] []) .ret)))
def V120 : List RV := [.t 5]
theorem m120 : mtcF Try.prog 120 4 A120 V120 = true := by kernel_rfl
def A87 : ACode := (.seq (.reg [⟨(some 4), .box 2 (.t 0), none⟩,
    ⟨(some 5), .box 2 (.t 1), none⟩,
    ⟨(some 6), .box 1 (.t 2), none⟩,
    ⟨(some 7), .box 1 (.t 3), none⟩,
    ⟨(some 8), .mv (.c (.i 0)), none⟩] []) (.seq (.reg [⟨(some 9), .load 2 true (.t 4), none⟩,
    ⟨(some 10), .load 2 true (.t 5), none⟩,
    ⟨(some 11), .mkf 120 [(.t 5), (.t 6), (.t 7)], none⟩,
    ⟨(some 12), .call 81 [(.t 9), (.t 10), (.t 11)], none⟩,
    ⟨(some 8), .mv (.t 12), none⟩] []) .ret))
def V87 : List RV := [.t 8]
theorem m87 : mtcF Try.prog 87 4 A87 V87 = true := by kernel_rfl
def A32 : ACode := (.seq (.reg [⟨(some 4), .box 2 (.t 0), none⟩,
    ⟨(some 5), .box 2 (.t 1), none⟩,
    ⟨(some 8), .mv (.c (.i 0)), none⟩,
    ⟨(some 9), .mv (.c (.b false)), none⟩] []) (.seq (.seq (.reg [⟨(some 10), .load 2 true (.t 4), none⟩,
    ⟨(some 11), .load 2 true (.t 5), none⟩,
    ⟨(some 12), .mv (.t 2), none⟩,
    ⟨(some 13), .mv (.t 3), none⟩,
    ⟨(some 14), .call 86 [(.t 10), (.t 11), (.t 12), (.t 13)], none⟩,
    ⟨(some 15), .un .not (.t 14), none⟩] []) (.cond (.t 15) (.seq (.reg [⟨(some 8), .mv (.c (.i 0)), none⟩,
    ⟨(some 9), .mv (.c (.b false)), none⟩] []) .ret) .skip)) (.seq (.reg [⟨(some 16), .load 2 true (.t 5), none⟩,
    ⟨(some 17), .load 2 true (.t 4), none⟩,
    ⟨(some 18), .mv (.t 2), none⟩,
    ⟨(some 19), .mv (.t 3), none⟩,
    ⟨(some 20), .call 87 [(.t 16), (.t 17), (.t 18), (.t 19)], none⟩,
    ⟨(some 8), .mv (.t 20), none⟩,
    ⟨(some 9), .mv (.c (.b true)), none⟩] []) .ret)))
def V32 : List RV := [.t 8, .t 9]
theorem m32 : mtcF Try.prog 32 4 A32 V32 = true := by kernel_rfl
def A70L1 : ACode := (.seq (.seq (.reg [⟨(some 11), .mv (.t 5), none⟩,
    ⟨(some 12), .mv (.t 0), none⟩,
    ⟨(some 13), .len (.t 12), none⟩,
    ⟨(some 14), .bin .lss (.t 11) (.t 13), none⟩] []) (.cond (.t 14) .skip (.exit 0))) (.seq (.blk 1 (.seq (.drw [⟨(some 17), .mv (.t 0), none⟩,
    ⟨(some 18), .mv (.t 5), none⟩,
    ⟨(some 19), .idx 1 (.t 17) (.t 18), none⟩,
    ⟨(some 20), .load 1 false (.t 19), none⟩,
    ⟨(some 21), .mv (.t 1), none⟩,
    ⟨(some 22), .mv (.t 5), none⟩,
    ⟨(some 23), .idx 1 (.t 21) (.t 22), none⟩,
    ⟨(some 24), .load 1 false (.t 23), none⟩,
    ⟨(some 25), .bin .neq (.t 20) (.t 24), none⟩] []) (.cond (.t 25) (.seq (.reg [⟨(some 4), .mv (.c (.b false)), none⟩] []) .ret) .skip))) (.reg [⟨(some 15), .mv (.t 5), none⟩,
    ⟨(some 16), .bin .add (.t 15) (.c (.i 1)), none⟩,
    ⟨(some 5), .mv (.t 16), none⟩] [])))
def A70R2 : ACode := (.seq (.reg [⟨(some 4), .mv (.c (.b true)), none⟩] []) .ret)
def A70 : ACode := (.seq (.reg [⟨(some 4), .mv (.c (.b false)), none⟩] []) (.seq (.seq (.reg [⟨(some 6), .mv (.t 0), none⟩,
    ⟨(some 7), .len (.t 6), none⟩,
    ⟨(some 8), .mv (.t 1), none⟩,
    ⟨(some 9), .len (.t 8), none⟩,
    ⟨(some 10), .bin .neq (.t 7) (.t 9), none⟩] []) (.cond (.t 10) (.seq (.reg [⟨(some 4), .mv (.c (.b false)), none⟩] []) .ret) .skip)) (.seqa (.reg [⟨(some 5), .mv (.c (.i 0)), none⟩] []) (.blk 0 (.loop A70L1)) [] [] A70R2)))
def V70 : List RV := [.t 4]
theorem m70 : mtcF Try.prog 70 2 A70 V70 = true := by kernel_rfl
def A117 : ACode := (.seq (.reg [⟨(some 2), .box 4 (.t 0), none⟩,
    ⟨(some 3), .box 4 (.t 1), none⟩,
    ⟨(some 4), .mv (.c (.b false)), none⟩] []) (.seq (.seq (.reg [⟨(some 5), .fad 0 (.t 2), none⟩,
    ⟨(some 6), .load 1 false (.t 5), none⟩,
    ⟨(some 7), .fad 0 (.t 3), none⟩,
    ⟨(some 8), .load 1 false (.t 7), none⟩,
    ⟨(some 9), .bin .neq (.t 6) (.t 8), none⟩] []) (.cond (.t 9) (.seq (.reg [⟨(some 4), .mv (.c (.b false)), none⟩] []) .ret) .skip)) (.seq (.seq (.reg [⟨(some 10), .fad 1 (.t 2), none⟩,
    ⟨(some 11), .load 1 false (.t 10), none⟩,
    ⟨(some 12), .fad 1 (.t 3), none⟩,
    ⟨(some 13), .load 1 false (.t 12), none⟩,
    ⟨(some 14), .bin .neq (.t 11) (.t 13), none⟩] []) (.cond (.t 14) (.seq (.reg [⟨(some 4), .mv (.c (.b false)), none⟩] []) .ret) .skip)) (.seq (.seq (.reg [⟨(some 15), .fad 2 (.t 2), none⟩,
    ⟨(some 16), .load 1 false (.t 15), none⟩,
    ⟨(some 17), .fad 2 (.t 3), none⟩,
    ⟨(some 18), .load 1 false (.t 17), none⟩,
    ⟨(some 19), .bin .neq (.t 16) (.t 18), none⟩] []) (.cond (.t 19) (.seq (.reg [⟨(some 4), .mv (.c (.b false)), none⟩] []) .ret) .skip)) (.seq (.seq (.reg [⟨(some 20), .fad 3 (.t 2), none⟩,
    ⟨(some 21), .load 1 false (.t 20), none⟩,
    ⟨(some 22), .fad 3 (.t 3), none⟩,
    ⟨(some 23), .load 1 false (.t 22), none⟩,
    ⟨(some 24), .bin .neq (.t 21) (.t 23), none⟩] []) (.cond (.t 24) (.seq (.reg [⟨(some 4), .mv (.c (.b false)), none⟩] []) .ret) .skip)) (.seq (.reg [⟨(some 4), .mv (.c (.b true)), none⟩] []) .ret))))))
def V117 : List RV := [.t 4]
theorem m117 : mtcF Try.prog 117 2 A117 V117 = true := by kernel_rfl
def A71L1 : ACode := (.seq (.seq (.reg [⟨(some 11), .mv (.t 5), none⟩,
    ⟨(some 12), .mv (.t 0), none⟩,
    ⟨(some 13), .len (.t 12), none⟩,
    ⟨(some 14), .bin .lss (.t 11) (.t 13), none⟩] []) (.cond (.t 14) .skip (.exit 0))) (.seq (.blk 1 (.seq (.drw [⟨(some 17), .mv (.t 0), none⟩,
    ⟨(some 18), .mv (.t 5), none⟩,
    ⟨(some 19), .idx 4 (.t 17) (.t 18), none⟩,
    ⟨(some 20), .load 4 true (.t 19), none⟩,
    ⟨(some 21), .mv (.t 1), none⟩,
    ⟨(some 22), .mv (.t 5), none⟩,
    ⟨(some 23), .idx 4 (.t 21) (.t 22), none⟩,
    ⟨(some 24), .load 4 true (.t 23), none⟩,
    ⟨(some 25), .call 117 [(.t 20), (.t 24)], none⟩,
    ⟨(some 26), .un .not (.t 25), none⟩] []) (.cond (.t 26) (.seq (.reg [⟨(some 4), .mv (.c (.b false)), none⟩] []) .ret) .skip))) (.reg [⟨(some 15), .mv (.t 5), none⟩,
    ⟨(some 16), .bin .add (.t 15) (.c (.i 1)), none⟩,
    ⟨(some 5), .mv (.t 16), none⟩] [])))
def A71R2 : ACode := (.seq (.reg [⟨(some 4), .mv (.c (.b true)), none⟩] []) .ret)
def A71 : ACode := (.seq (.reg [⟨(some 4), .mv (.c (.b false)), none⟩] []) (.seq (.seq (.reg [⟨(some 6), .mv (.t 0), none⟩,
    ⟨(some 7), .len (.t 6), none⟩,
    ⟨(some 8), .mv (.t 1), none⟩,
    ⟨(some 9), .len (.t 8), none⟩,
    ⟨(some 10), .bin .neq (.t 7) (.t 9), none⟩] []) (.cond (.t 10) (.seq (.reg [⟨(some 4), .mv (.c (.b false)), none⟩] []) .ret) .skip)) (.seqa (.reg [⟨(some 5), .mv (.c (.i 0)), none⟩] []) (.blk 0 (.loop A71L1)) [] [] A71R2)))
def V71 : List RV := [.t 4]
theorem m71 : mtcF Try.prog 71 2 A71 V71 = true := by kernel_rfl
def A21 : ACode := (.seq (.reg [⟨(some 2), .box 2 (.t 0), none⟩,
    ⟨(some 3), .box 2 (.t 1), none⟩,
    ⟨(some 4), .mv (.c (.b false)), none⟩] []) (.seq (.seq (.reg [⟨(some 5), .fad 0 (.t 2), none⟩,
    ⟨(some 6), .load 1 false (.t 5), none⟩,
    ⟨(some 7), .fad 0 (.t 3), none⟩,
    ⟨(some 8), .load 1 false (.t 7), none⟩,
    ⟨(some 9), .call 70 [(.t 6), (.t 8)], none⟩,
    ⟨(some 10), .un .not (.t 9), none⟩] []) (.cond (.t 10) (.seq (.reg [⟨(some 4), .mv (.c (.b false)), none⟩] []) .ret) .skip)) (.seq (.seq (.reg [⟨(some 11), .fad 1 (.t 2), none⟩,
    ⟨(some 12), .load 1 false (.t 11), none⟩,
    ⟨(some 13), .fad 1 (.t 3), none⟩,
    ⟨(some 14), .load 1 false (.t 13), none⟩,
    ⟨(some 15), .call 71 [(.t 12), (.t 14)], none⟩,
    ⟨(some 16), .un .not (.t 15), none⟩] []) (.cond (.t 16) (.seq (.reg [⟨(some 4), .mv (.c (.b false)), none⟩] []) .ret) .skip)) (.seq (.reg [⟨(some 4), .mv (.c (.b true)), none⟩] []) .ret))))
def V21 : List RV := [.t 4]
theorem m21 : mtcF Try.prog 21 2 A21 V21 = true := by kernel_rfl
def A28L1 : ACode := (.seq (.seq (.reg [⟨(some 11), .mv (.t 5), none⟩,
    ⟨(some 12), .mv (.t 0), none⟩,
    ⟨(some 13), .len (.t 12), none⟩,
    ⟨(some 14), .bin .lss (.t 11) (.t 13), none⟩] []) (.cond (.t 14) .skip (.exit 0))) (.seq (.blk 1 (.seq (.drw [⟨(some 17), .mv (.t 0), none⟩,
    ⟨(some 18), .mv (.t 5), none⟩,
    ⟨(some 19), .idx 1 (.t 17) (.t 18), none⟩,
    ⟨(some 20), .load 1 false (.t 19), none⟩,
    ⟨(some 21), .mv (.t 1), none⟩,
    ⟨(some 22), .mv (.t 5), none⟩,
    ⟨(some 23), .idx 1 (.t 21) (.t 22), none⟩,
    ⟨(some 24), .load 1 false (.t 23), none⟩,
    ⟨(some 25), .bin .neq (.t 20) (.t 24), none⟩] []) (.cond (.t 25) (.seq (.reg [⟨(some 4), .mv (.c (.b false)), none⟩] []) .ret) .skip))) (.reg [⟨(some 15), .mv (.t 5), none⟩,
    ⟨(some 16), .bin .add (.t 15) (.c (.i 1)), none⟩,
    ⟨(some 5), .mv (.t 16), none⟩] [])))
def A28R2 : ACode := (.seq (.reg [⟨(some 4), .mv (.c (.b true)), none⟩] []) .ret)
def A28 : ACode := (.seq (.reg [⟨(some 4), .mv (.c (.b false)), none⟩] []) (.seq (.seq (.reg [⟨(some 6), .mv (.t 0), none⟩,
    ⟨(some 7), .len (.t 6), none⟩,
    ⟨(some 8), .mv (.t 1), none⟩,
    ⟨(some 9), .len (.t 8), none⟩,
    ⟨(some 10), .bin .neq (.t 7) (.t 9), none⟩] []) (.cond (.t 10) (.seq (.reg [⟨(some 4), .mv (.c (.b false)), none⟩] []) .ret) .skip)) (.seqa (.reg [⟨(some 5), .mv (.c (.i 0)), none⟩] []) (.blk 0 (.loop A28L1)) [] [] A28R2)))
def V28 : List RV := [.t 4]
theorem m28 : mtcF Try.prog 28 2 A28 V28 = true := by kernel_rfl
def A22 : ACode := (.seq (.reg [⟨(some 2), .box 2 (.t 0), none⟩,
    ⟨(some 3), .box 2 (.t 1), none⟩,
    ⟨(some 4), .mv (.c (.b false)), none⟩] []) (.seq (.seq (.reg [⟨(some 5), .fad 0 (.t 2), none⟩,
    ⟨(some 6), .load 1 false (.t 5), none⟩,
    ⟨(some 7), .fad 0 (.t 3), none⟩,
    ⟨(some 8), .load 1 false (.t 7), none⟩,
    ⟨(some 9), .bin .neq (.t 6) (.t 8), none⟩] []) (.cond (.t 9) (.seq (.reg [⟨(some 4), .mv (.c (.b false)), none⟩] []) .ret) .skip)) (.seq (.seq (.reg [⟨(some 10), .fad 1 (.t 2), none⟩,
    ⟨(some 11), .load 1 false (.t 10), none⟩,
    ⟨(some 12), .fad 1 (.t 3), none⟩,
    ⟨(some 13), .load 1 false (.t 12), none⟩,
    ⟨(some 14), .call 28 [(.t 11), (.t 13)], none⟩,
    ⟨(some 15), .un .not (.t 14), none⟩] []) (.cond (.t 15) (.seq (.reg [⟨(some 4), .mv (.c (.b false)), none⟩] []) .ret) .skip)) (.seq (.reg [⟨(some 4), .mv (.c (.b true)), none⟩] []) .ret))))
def V22 : List RV := [.t 4]
theorem m22 : mtcF Try.prog 22 2 A22 V22 = true := by kernel_rfl
def A7R1 : ACode := (.cond (.t 55) (.seq (.reg [⟨(some 8), .mv (.c (.b false)), none⟩] []) .ret) .skip)
def A7 : ACode := (.seq (.reg [⟨(some 4), .box 2 (.t 0), none⟩,
    ⟨(some 5), .box 2 (.t 1), none⟩,
    ⟨(some 8), .mv (.c (.b false)), none⟩] []) (.seq (.reg [⟨(some 9), .mv (.c (.i 1048576)), none⟩] []) (.seq (.reg [⟨(some 16), .load 2 true (.t 4), none⟩,
    ⟨(some 17), .mv (.t 9), none⟩,
    ⟨(some 18), .call 15 [(.t 16), (.t 17)], none⟩,
    ⟨(some 9), .mv (.t 18), none⟩] []) (.seq (.seq (.reg [⟨(some 19), .mv (.t 9), none⟩,
    ⟨(some 20), .bin .lss (.t 19) (.c (.i 0)), none⟩] []) (.cond (.t 20) (.seq (.reg [⟨(some 8), .mv (.c (.b true)), none⟩] []) .ret) .skip)) (.seq (.reg [⟨(some 21), .load 2 true (.t 5), none⟩,
    ⟨(some 22), .mv (.t 9), none⟩,
    ⟨(some 23), .call 16 [(.t 21), (.t 22)], none⟩,
    ⟨(some 9), .mv (.t 23), none⟩] []) (.seq (.seq (.reg [⟨(some 24), .mv (.t 9), none⟩,
    ⟨(some 25), .bin .lss (.t 24) (.c (.i 0)), none⟩] []) (.cond (.t 25) (.seq (.reg [⟨(some 8), .mv (.c (.b true)), none⟩] []) .ret) .skip)) (.seq (.drw [⟨(some 27), .load 2 true (.t 4), none⟩,
    ⟨(some 28), .call 18 [(.t 27)], none⟩,
    ⟨(some 29), .load 2 true (.t 5), none⟩,
    ⟨(some 30), .call 19 [(.t 29)], none⟩,
    ⟨(some 31), .mv (.t 2), none⟩,
    ⟨(some 32), .mv (.t 3), none⟩,
    ⟨(some 33), .call 31 [(.t 28), (.t 30), (.t 31), (.t 32)], none⟩,
    ⟨(some 26), .mv (.t 33), none⟩,
    ⟨(some 34), .ext (.t 26) 0, none⟩,
    ⟨(some 35), .ext (.t 26) 1, none⟩,
    ⟨(some 10), .mv (.t 34), none⟩,
    ⟨(some 11), .mv (.t 35), none⟩] []) (.seq (.reg [⟨(some 36), .load 2 true (.t 4), none⟩,
    ⟨(some 37), .call 18 [(.t 36)], none⟩,
    ⟨(some 12), .alloc (.agg [.lst .u 1 [], .lst .u 4 []]), none⟩,
    ⟨none, .store 2 (.t 12) (.t 37), none⟩] []) (.seq (.reg [⟨(some 38), .load 2 true (.t 5), none⟩,
    ⟨(some 39), .call 19 [(.t 38)], none⟩,
    ⟨(some 13), .alloc (.agg [.i 0, .lst .u 1 []]), none⟩,
    ⟨none, .store 2 (.t 13) (.t 39), none⟩] []) (.seq (.reg [⟨(some 41), .load 2 true (.t 12), none⟩,
    ⟨(some 42), .load 2 true (.t 13), none⟩,
    ⟨(some 43), .mv (.t 2), none⟩,
    ⟨(some 44), .mv (.t 3), none⟩,
    ⟨(some 45), .call 32 [(.t 41), (.t 42), (.t 43), (.t 44)], none⟩,
    ⟨(some 40), .mv (.t 45), none⟩,
    ⟨(some 46), .ext (.t 40) 0, none⟩,
    ⟨(some 47), .ext (.t 40) 1, none⟩,
    ⟨(some 14), .mv (.t 46), none⟩,
    ⟨(some 15), .mv (.t 47), none⟩] []) (.seq (.seqr (.reg [⟨(some 48), .mv (.t 14), none⟩,
    ⟨(some 49), .mv (.t 10), none⟩,
    ⟨(some 50), .bin .neq (.t 48) (.t 49), none⟩,
    ⟨(some 51), .mv (.t 50), none⟩,
    ⟨(some 52), .mv (.t 15), (some (51, false))⟩,
    ⟨(some 53), .mv (.t 11), (some (51, false))⟩,
    ⟨(some 54), .beq true (.t 52) (.t 53), (some (51, false))⟩,
    ⟨(some 55), .pick (.t 51) (.c (.b true)) (.t 54), none⟩] []) [4, 5, 12, 13, 55] [4, 5, 12, 13, 37, 39, 1037] A7R1) (.seq (.seq (.drw [⟨(some 56), .load 2 true (.t 12), none⟩,
    ⟨(some 57), .load 2 true (.t 4), none⟩,
    ⟨(some 58), .call 18 [(.t 57)], none⟩,
    ⟨(some 59), .call 21 [(.t 56), (.t 58)], none⟩,
    ⟨(some 60), .un .not (.t 59), none⟩] []) (.cond (.t 60) (.seq (.reg [⟨(some 8), .mv (.c (.b false)), none⟩] []) .ret) .skip)) (.seq (.seq (.drw [⟨(some 61), .load 2 true (.t 13), none⟩,
    ⟨(some 62), .load 2 true (.t 5), none⟩,
    ⟨(some 63), .call 19 [(.t 62)], none⟩,
    ⟨(some 64), .call 22 [(.t 61), (.t 63)], none⟩,
    ⟨(some 65), .un .not (.t 64), none⟩] []) (.cond (.t 65) (.seq (.reg [⟨(some 8), .mv (.c (.b false)), none⟩] []) .ret) .skip)) (.seq (.reg [⟨(some 8), .mv (.c (.b true)), none⟩] []) .ret))))))))))))))
def V7 : List RV := [.t 8]
theorem m7 : mtcF Try.prog 7 4 A7 V7 = true := by kernel_rfl
end Vs

