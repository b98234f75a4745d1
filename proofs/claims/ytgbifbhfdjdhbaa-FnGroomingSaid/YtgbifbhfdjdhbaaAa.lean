/-
  Part of the proof that the law FnGrooming returns true at every input; no condition beside the row's own.
-/
import Derived.Test.YtgbifbhfdjdhbaaFe
import Derived.Test.YtgbifbhfdjdhbaaChecked
import Derived.KernelRfl
set_option linter.defProp false
set_option linter.unusedSimpArgs false
set_option linter.unusedVariables false
namespace Vs
open Go
structure TLink where
  A : Int
  B : Int
  Capacity : Int
  deriving DecidableEq
def e_TLink (f : Fl) (x : TLink) : AV := .agg [.i x.A, .i x.B, .i x.Capacity]
theorem e_TLink_nrm (f : Fl) (x : TLink) : (e_TLink f x).nrm = e_TLink .o x := by simp [e_TLink, nrm_sc, nrm_lst, nrm_agg, nrm_sc]
theorem e_TLink_nrmm (f : Fl) (xs : List TLink) : (xs.map (e_TLink f)).map AV.nrm = xs.map (e_TLink .o) := by simp [e_TLink_nrm]
theorem e_TLink_als (f : Fl) (x : TLink) : (e_TLink f x).als = e_TLink f.als x := by simp [e_TLink, als_sc, als_lst, als_agg, nrm_sc]
theorem e_TLink_alsm (f : Fl) (xs : List TLink) : (xs.map (e_TLink f)).map AV.als = xs.map (e_TLink f.als) := by simp [e_TLink_als]
theorem e_TLink_fix (f : Fl) (x : TLink) : (e_TLink f x).fix = e_TLink f.fix x := by simp [e_TLink, fix_sc, fix_lst, fix_agg, nrm_sc]
theorem e_TLink_fixm (f : Fl) (xs : List TLink) : (xs.map (e_TLink f)).map AV.fix = xs.map (e_TLink f.fix) := by simp [e_TLink_fix]
theorem e_TLink_fz (x : TLink) : (e_TLink .o x).fz = true := by simp [e_TLink, AV.i, AV.b, AV.z, fz_sc, fz_lsto, fz_agg, fzL_nil, fzL_cons, fzL_mi, fzL_mb, fzL_mz, fzL_m8, fzL_m64, ouL_m8, ouL_m64, ou_sc, ou_lstu, ou_agg, ouL_nil, ouL_cons, ouL_mi, ouL_mb, ouL_mz]
theorem e_TLink_fzm (xs : List TLink) : fzL (xs.map (e_TLink .o)) = true := fzL_of e_TLink_fz xs
theorem e_TLink_ou (x : TLink) : (e_TLink .u x).ouB = true := by simp [e_TLink, AV.i, AV.b, AV.z, fz_sc, fz_lsto, fz_agg, fzL_nil, fzL_cons, fzL_mi, fzL_mb, fzL_mz, fzL_m8, fzL_m64, ouL_m8, ouL_m64, ou_sc, ou_lstu, ou_agg, ouL_nil, ouL_cons, ouL_mi, ouL_mb, ouL_mz]
theorem e_TLink_oum (xs : List TLink) : ouBL (xs.map (e_TLink .u)) = true := ouL_of e_TLink_ou xs
structure TTributary where
  From : Int
  To : Int
  Rate : Int
  deriving DecidableEq
def e_TTributary (f : Fl) (x : TTributary) : AV := .agg [.i x.From, .i x.To, .i x.Rate]
theorem e_TTributary_nrm (f : Fl) (x : TTributary) : (e_TTributary f x).nrm = e_TTributary .o x := by simp [e_TTributary, nrm_sc, nrm_lst, nrm_agg, nrm_sc]
theorem e_TTributary_nrmm (f : Fl) (xs : List TTributary) : (xs.map (e_TTributary f)).map AV.nrm = xs.map (e_TTributary .o) := by simp [e_TTributary_nrm]
theorem e_TTributary_als (f : Fl) (x : TTributary) : (e_TTributary f x).als = e_TTributary f.als x := by simp [e_TTributary, als_sc, als_lst, als_agg, nrm_sc]
theorem e_TTributary_alsm (f : Fl) (xs : List TTributary) : (xs.map (e_TTributary f)).map AV.als = xs.map (e_TTributary f.als) := by simp [e_TTributary_als]
theorem e_TTributary_fix (f : Fl) (x : TTributary) : (e_TTributary f x).fix = e_TTributary f.fix x := by simp [e_TTributary, fix_sc, fix_lst, fix_agg, nrm_sc]
theorem e_TTributary_fixm (f : Fl) (xs : List TTributary) : (xs.map (e_TTributary f)).map AV.fix = xs.map (e_TTributary f.fix) := by simp [e_TTributary_fix]
theorem e_TTributary_fz (x : TTributary) : (e_TTributary .o x).fz = true := by simp [e_TTributary, AV.i, AV.b, AV.z, fz_sc, fz_lsto, fz_agg, fzL_nil, fzL_cons, fzL_mi, fzL_mb, fzL_mz, fzL_m8, fzL_m64, ouL_m8, ouL_m64, ou_sc, ou_lstu, ou_agg, ouL_nil, ouL_cons, ouL_mi, ouL_mb, ouL_mz]
theorem e_TTributary_fzm (xs : List TTributary) : fzL (xs.map (e_TTributary .o)) = true := fzL_of e_TTributary_fz xs
theorem e_TTributary_ou (x : TTributary) : (e_TTributary .u x).ouB = true := by simp [e_TTributary, AV.i, AV.b, AV.z, fz_sc, fz_lsto, fz_agg, fzL_nil, fzL_cons, fzL_mi, fzL_mb, fzL_mz, fzL_m8, fzL_m64, ouL_m8, ouL_m64, ou_sc, ou_lstu, ou_agg, ouL_nil, ouL_cons, ouL_mi, ouL_mb, ouL_mz]
theorem e_TTributary_oum (xs : List TTributary) : ouBL (xs.map (e_TTributary .u)) = true := ouL_of e_TTributary_ou xs
structure Tl1Cur where
  code : List Int
  atF : Int
  seed : Int
  deriving DecidableEq
def e_Tl1Cur (f : Fl) (x : Tl1Cur) : AV := .agg [.lst f 1 (x.code.map AV.u8), .i x.atF, .sc (.int .u64 x.seed)]
theorem e_Tl1Cur_nrm (f : Fl) (x : Tl1Cur) : (e_Tl1Cur f x).nrm = e_Tl1Cur .o x := by simp [e_Tl1Cur, nrm_sc, nrm_lst, nrm_agg, map_nrm_i]
theorem e_Tl1Cur_nrmm (f : Fl) (xs : List Tl1Cur) : (xs.map (e_Tl1Cur f)).map AV.nrm = xs.map (e_Tl1Cur .o) := by simp [e_Tl1Cur_nrm]
theorem e_Tl1Cur_als (f : Fl) (x : Tl1Cur) : (e_Tl1Cur f x).als = e_Tl1Cur f.als x := by simp [e_Tl1Cur, als_sc, als_lst, als_agg, map_als_i]
theorem e_Tl1Cur_alsm (f : Fl) (xs : List Tl1Cur) : (xs.map (e_Tl1Cur f)).map AV.als = xs.map (e_Tl1Cur f.als) := by simp [e_Tl1Cur_als]
theorem e_Tl1Cur_fix (f : Fl) (x : Tl1Cur) : (e_Tl1Cur f x).fix = e_Tl1Cur f.fix x := by simp [e_Tl1Cur, fix_sc, fix_lst, fix_agg, map_fix_i]
theorem e_Tl1Cur_fixm (f : Fl) (xs : List Tl1Cur) : (xs.map (e_Tl1Cur f)).map AV.fix = xs.map (e_Tl1Cur f.fix) := by simp [e_Tl1Cur_fix]
theorem e_Tl1Cur_fz (x : Tl1Cur) : (e_Tl1Cur .o x).fz = true := by simp [e_Tl1Cur, AV.i, AV.b, AV.z, fz_sc, fz_lsto, fz_agg, fzL_nil, fzL_cons, fzL_mi, fzL_mb, fzL_mz, fzL_m8, fzL_m64, ouL_m8, ouL_m64, ou_sc, ou_lstu, ou_agg, ouL_nil, ouL_cons, ouL_mi, ouL_mb, ouL_mz]
theorem e_Tl1Cur_fzm (xs : List Tl1Cur) : fzL (xs.map (e_Tl1Cur .o)) = true := fzL_of e_Tl1Cur_fz xs
theorem e_Tl1Cur_ou (x : Tl1Cur) : (e_Tl1Cur .u x).ouB = true := by simp [e_Tl1Cur, AV.i, AV.b, AV.z, fz_sc, fz_lsto, fz_agg, fzL_nil, fzL_cons, fzL_mi, fzL_mb, fzL_mz, fzL_m8, fzL_m64, ouL_m8, ouL_m64, ou_sc, ou_lstu, ou_agg, ouL_nil, ouL_cons, ouL_mi, ouL_mb, ouL_mz]
theorem e_Tl1Cur_oum (xs : List Tl1Cur) : ouBL (xs.map (e_Tl1Cur .u)) = true := ouL_of e_Tl1Cur_ou xs
def e_Li (f : Fl) (xs : List Int) : AV := .lst f 1 (xs.map AV.i)
theorem e_Li_nrm (f : Fl) (x : List Int) : (e_Li f x).nrm = e_Li .o x := by simp [e_Li, nrm_sc, nrm_lst, nrm_agg, map_nrm_i]
theorem e_Li_nrmm (f : Fl) (xs : List (List Int)) : (xs.map (e_Li f)).map AV.nrm = xs.map (e_Li .o) := by simp [e_Li_nrm]
theorem e_Li_als (f : Fl) (x : List Int) : (e_Li f x).als = e_Li f.als x := by simp [e_Li, als_sc, als_lst, als_agg, map_als_i]
theorem e_Li_alsm (f : Fl) (xs : List (List Int)) : (xs.map (e_Li f)).map AV.als = xs.map (e_Li f.als) := by simp [e_Li_als]
theorem e_Li_fix (f : Fl) (x : List Int) : (e_Li f x).fix = e_Li f.fix x := by simp [e_Li, fix_sc, fix_lst, fix_agg, map_fix_i]
theorem e_Li_fixm (f : Fl) (xs : List (List Int)) : (xs.map (e_Li f)).map AV.fix = xs.map (e_Li f.fix) := by simp [e_Li_fix]
theorem e_Li_fz (x : List Int) : (e_Li .o x).fz = true := by simp [e_Li, AV.i, AV.b, AV.z, fz_sc, fz_lsto, fz_agg, fzL_nil, fzL_cons, fzL_mi, fzL_mb, fzL_mz, fzL_m8, fzL_m64, ouL_m8, ouL_m64, ou_sc, ou_lstu, ou_agg, ouL_nil, ouL_cons, ouL_mi, ouL_mb, ouL_mz]
theorem e_Li_fzm (xs : List (List Int)) : fzL (xs.map (e_Li .o)) = true := fzL_of e_Li_fz xs
theorem e_Li_ou (x : List Int) : (e_Li .u x).ouB = true := by simp [e_Li, AV.i, AV.b, AV.z, fz_sc, fz_lsto, fz_agg, fzL_nil, fzL_cons, fzL_mi, fzL_mb, fzL_mz, fzL_m8, fzL_m64, ouL_m8, ouL_m64, ou_sc, ou_lstu, ou_agg, ouL_nil, ouL_cons, ouL_mi, ouL_mb, ouL_mz]
theorem e_Li_oum (xs : List (List Int)) : ouBL (xs.map (e_Li .u)) = true := ouL_of e_Li_ou xs
structure TFiber where
  A : Int
  B : Int
  Length : Int
  Risk : Int
  deriving DecidableEq
def e_TFiber (f : Fl) (x : TFiber) : AV := .agg [.i x.A, .i x.B, .i x.Length, .i x.Risk]
theorem e_TFiber_nrm (f : Fl) (x : TFiber) : (e_TFiber f x).nrm = e_TFiber .o x := by simp [e_TFiber, nrm_sc, nrm_lst, nrm_agg, nrm_sc]
theorem e_TFiber_nrmm (f : Fl) (xs : List TFiber) : (xs.map (e_TFiber f)).map AV.nrm = xs.map (e_TFiber .o) := by simp [e_TFiber_nrm]
theorem e_TFiber_als (f : Fl) (x : TFiber) : (e_TFiber f x).als = e_TFiber f.als x := by simp [e_TFiber, als_sc, als_lst, als_agg, nrm_sc]
theorem e_TFiber_alsm (f : Fl) (xs : List TFiber) : (xs.map (e_TFiber f)).map AV.als = xs.map (e_TFiber f.als) := by simp [e_TFiber_als]
theorem e_TFiber_fix (f : Fl) (x : TFiber) : (e_TFiber f x).fix = e_TFiber f.fix x := by simp [e_TFiber, fix_sc, fix_lst, fix_agg, nrm_sc]
theorem e_TFiber_fixm (f : Fl) (xs : List TFiber) : (xs.map (e_TFiber f)).map AV.fix = xs.map (e_TFiber f.fix) := by simp [e_TFiber_fix]
theorem e_TFiber_fz (x : TFiber) : (e_TFiber .o x).fz = true := by simp [e_TFiber, AV.i, AV.b, AV.z, fz_sc, fz_lsto, fz_agg, fzL_nil, fzL_cons, fzL_mi, fzL_mb, fzL_mz, fzL_m8, fzL_m64, ouL_m8, ouL_m64, ou_sc, ou_lstu, ou_agg, ouL_nil, ouL_cons, ouL_mi, ouL_mb, ouL_mz]
theorem e_TFiber_fzm (xs : List TFiber) : fzL (xs.map (e_TFiber .o)) = true := fzL_of e_TFiber_fz xs
theorem e_TFiber_ou (x : TFiber) : (e_TFiber .u x).ouB = true := by simp [e_TFiber, AV.i, AV.b, AV.z, fz_sc, fz_lsto, fz_agg, fzL_nil, fzL_cons, fzL_mi, fzL_mb, fzL_mz, fzL_m8, fzL_m64, ouL_m8, ouL_m64, ou_sc, ou_lstu, ou_agg, ouL_nil, ouL_cons, ouL_mi, ouL_mb, ouL_mz]
theorem e_TFiber_oum (xs : List TFiber) : ouBL (xs.map (e_TFiber .u)) = true := ouL_of e_TFiber_ou xs
def M_laws_vBig (codeZ0 : List Int) : Option Bool :=
  some (decide (65536 < (codeZ0.length : Int)))
def M_spec_l1Cur_nextM1 (aaZ0 : Tl1Cur) : Option (Int × Tl1Cur) :=
  (cond (decide (((aaZ0).atF) < (((aaZ0).code).length : Int))) ((geti ((aaZ0).code) ((aaZ0).atF)).bind fun yZ2 => some (IntKind.wrap .i64 yZ2)) (some 0) : Option Int).bind fun oZ3 => cond (decide ((IntKind.wrap .i64 (((aaZ0).atF) + 1)) ≤ (((aaZ0).code).length : Int))) (some (oZ3, (⟨(aaZ0).code, IntKind.wrap .i64 (((aaZ0).atF) + 1), IntKind.wrap .u64 ((IntKind.wrap .u64 ((IntKind.wrap .u64 (((aaZ0).seed) * 6364136223846793005)) + (IntKind.wrap .u64 oZ3))) + 897897)⟩ : Tl1Cur))) (some (IntKind.wrap .i64 (bits .and .u64 (Int.fdiv (IntKind.wrap .u64 ((IntKind.wrap .u64 ((IntKind.wrap .u64 (((aaZ0).seed) * 6364136223846793005)) + (IntKind.wrap .u64 oZ3))) + 897897)) (2 ^ (min (Int.toNat 40) (IntKind.bits .u64)))) 255), (⟨(aaZ0).code, IntKind.wrap .i64 (((aaZ0).atF) + 1), IntKind.wrap .u64 ((IntKind.wrap .u64 ((IntKind.wrap .u64 (((aaZ0).seed) * 6364136223846793005)) + (IntKind.wrap .u64 oZ3))) + 897897)⟩ : Tl1Cur)))
def M_spec_l1Cur_pickM1 (aaZ0 : Int) (abZ0 : Tl1Cur) : Option (Int × Tl1Cur) :=
  cond (decide (aaZ0 ≤ 1)) (some (0, abZ0)) ((M_spec_l1Cur_nextM1 abZ0).bind fun rZ2 => cond (decide (200 < aaZ0)) ((M_spec_l1Cur_nextM1 rZ2.2).bind fun rZ4 => (grd (aaZ0 ≠ 0)).bind fun uZ5 => some (Int.tmod (IntKind.wrap .i64 ((IntKind.wrap .i64 (rZ2.1 * 256)) + rZ4.1)) aaZ0, rZ4.2)) ((grd (aaZ0 ≠ 0)).bind fun uZ6 => some (Int.tmod rZ2.1 aaZ0, rZ2.2)))
def M_spec_l1Cur_amongM1 (aaZ0 : Nat) (abZ0 : Nat) (acZ0 : Tl1Cur) (adZ0 : List Int) : Option (Int × Tl1Cur × List Int) :=
  (M_spec_l1Cur_pickM1 (abZ0 : Int) acZ0).bind fun rZ1 => (grd (0 ≤ rZ1.1 ∧ rZ1.1 < (abZ0 : Int))).bind fun kZ2 => (adZ0[(aaZ0 + (Int.toNat rZ1.1))]?).bind fun yZ3 => some (yZ3, rZ1.2, adZ0)
def M_spec_l1Cur_nodes18M1 (aaZ0 : Tl1Cur) : Option (Int × Tl1Cur) :=
  bnd ([2, 3, 4, 5, 6, 8, 1, 9]) fun lZ1 => (M_spec_l1Cur_pickM1 40 aaZ0).bind fun rZ4 => (grd (20 ≠ 0)).bind fun uZ5 => (grd (True ∧ 0 ≤ (IntKind.wrap .i64 (6 + (IntKind.wrap .i64 (Int.tdiv rZ4.1 20)))) ∧ True ∧ Int.toNat (IntKind.wrap .i64 (6 + (IntKind.wrap .i64 (Int.tdiv rZ4.1 20)))) ≤ 8)).bind fun uZ6 => (M_spec_l1Cur_amongM1 0 (Int.toNat (IntKind.wrap .i64 (6 + (IntKind.wrap .i64 (Int.tdiv rZ4.1 20))))) rZ4.2 lZ1).bind fun rZ7 => some (rZ7.1, rZ7.2.1)
def M_spec_l1Most (aZ0 : Int) (bZ0 : Int) : Option Int :=
  cond (decide (bZ0 < aZ0)) (some aZ0) (some bZ0)
def M_spec_l1Cur_amongM2 (aaZ0 : Tl1Cur) (abZ0 : List Int) : Option (Int × Tl1Cur × List Int) :=
  (M_spec_l1Cur_pickM1 (abZ0.length : Int) aaZ0).bind fun rZ1 => (grd (0 ≤ rZ1.1 ∧ rZ1.1 < (abZ0.length : Int))).bind fun kZ2 => (abZ0[(Int.toNat rZ1.1)]?).bind fun yZ3 => some (yZ3, rZ1.2, abZ0)
def M_spec_l1Cur_linksM1L1 (rZ1 : Int) (sZ3 : Int × List TLink × Tl1Cur) : Option ((Int × List TLink × Tl1Cur) ⊕ (List TLink × Tl1Cur)) :=
  cond (decide (0 < sZ3.1)) ((M_spec_l1Cur_pickM1 rZ1 sZ3.2.2).bind fun rZ5 => (M_spec_l1Cur_pickM1 (IntKind.wrap .i64 (rZ1 - 1)) rZ5.2).bind fun rZ6 => (grd (rZ1 ≠ 0)).bind fun uZ7 => bnd ([0, 3, 5, 10, 10, 20]) fun lZ8 => (M_spec_l1Cur_amongM2 rZ6.2 lZ8).bind fun rZ11 => bnd ([(⟨rZ5.1, Int.tmod (IntKind.wrap .i64 ((IntKind.wrap .i64 (rZ5.1 + 1)) + rZ6.1)) rZ1, rZ11.1⟩ : TLink)]) fun lZ12 => (grd ((sZ3.2.1.length + 1) * 24 ≤ 140737488355328)).bind fun uZ15 => bnd (sZ3.2.1 ++ lZ12) fun lZ16 => some (.inl (IntKind.wrap .i64 (sZ3.1 - 1), lZ16, rZ11.2.1))) (some (.inr (sZ3.2.1, sZ3.2.2)))
def M_spec_l1Cur_linksM1 (aaZ0 : Int) (abZ0 : Tl1Cur) : Option (List TLink × Tl1Cur) :=
  (M_spec_l1Most aaZ0 2).bind fun rZ1 => (M_spec_l1Cur_pickM1 9 abZ0).bind fun rZ2 => (iter (M_spec_l1Cur_linksM1L1 rZ1) N0 (rZ2.1, [], rZ2.2)).bind fun oZ19 => (M_spec_l1Cur_pickM1 40 oZ19.2).bind fun rZ20 => cond (rZ20.1 == 0) (bnd ([1, 8, (-1)]) fun lZ22 => (M_spec_l1Cur_amongM2 rZ20.2 lZ22).bind fun rZ25 => bnd ([(⟨1, rZ25.1, 5⟩ : TLink)]) fun lZ26 => (grd ((oZ19.1.length + 1) * 24 ≤ 140737488355328)).bind fun uZ29 => bnd (oZ19.1 ++ lZ26) fun lZ30 => some (lZ30, rZ25.2.1)) (cond (rZ20.1 == 1) (bnd ([(-1), 10001]) fun lZ34 => (M_spec_l1Cur_amongM2 rZ20.2 lZ34).bind fun rZ37 => bnd ([(⟨1, 0, rZ37.1⟩ : TLink)]) fun lZ38 => (grd ((oZ19.1.length + 1) * 24 ≤ 140737488355328)).bind fun uZ41 => bnd (oZ19.1 ++ lZ38) fun lZ42 => some (lZ42, rZ37.2.1)) (some (oZ19.1, rZ20.2)))
def M_spec_l1Cur_tributariesM1L1 (rZ1 : Int) (sZ3 : Int × List TTributary × Tl1Cur) : Option ((Int × List TTributary × Tl1Cur) ⊕ (List TTributary × Tl1Cur)) :=
  cond (decide (0 < sZ3.1)) ((M_spec_l1Cur_pickM1 rZ1 sZ3.2.2).bind fun rZ5 => (M_spec_l1Cur_pickM1 (IntKind.wrap .i64 (rZ1 - 1)) rZ5.2).bind fun rZ6 => (grd (rZ1 ≠ 0)).bind fun uZ7 => bnd ([1, 2, 3, 4, 5, 6, 7, 10]) fun lZ8 => (M_spec_l1Cur_amongM2 rZ6.2 lZ8).bind fun rZ11 => bnd ([(⟨rZ5.1, Int.tmod (IntKind.wrap .i64 ((IntKind.wrap .i64 (rZ5.1 + 1)) + rZ6.1)) rZ1, rZ11.1⟩ : TTributary)]) fun lZ12 => (grd ((sZ3.2.1.length + 1) * 24 ≤ 140737488355328)).bind fun uZ15 => bnd (sZ3.2.1 ++ lZ12) fun lZ16 => some (.inl (IntKind.wrap .i64 (sZ3.1 - 1), lZ16, rZ11.2.1))) (some (.inr (sZ3.2.1, sZ3.2.2)))
def M_spec_l1Cur_tributariesM1L2 (sZ46 : List TTributary × Tl1Cur) : Option ((List TTributary × Tl1Cur) ⊕ (List TTributary × Tl1Cur)) :=
  (M_spec_l1Cur_pickM1 2 sZ46.2).bind fun rZ47 => cond (decide ((sZ46.1.length : Int) < (IntKind.wrap .i64 (12 + rZ47.1)))) (bnd ([(⟨0, 1, 1⟩ : TTributary)]) fun lZ49 => (grd ((sZ46.1.length + 1) * 24 ≤ 140737488355328)).bind fun uZ52 => bnd (sZ46.1 ++ lZ49) fun lZ53 => some (.inl (lZ53, rZ47.2))) (some (.inr (sZ46.1, rZ47.2)))
def M_spec_l1Cur_tributariesM1 (aaZ0 : Int) (abZ0 : Tl1Cur) : Option (List TTributary × Tl1Cur) :=
  (M_spec_l1Most aaZ0 2).bind fun rZ1 => (M_spec_l1Cur_pickM1 8 abZ0).bind fun rZ2 => (iter (M_spec_l1Cur_tributariesM1L1 rZ1) N0 (rZ2.1, [], rZ2.2)).bind fun oZ19 => ((M_spec_l1Cur_pickM1 40 oZ19.2).bind fun rZ20 => cond (rZ20.1 == 0) (bnd ([0, 8, (-1)]) fun lZ22 => (M_spec_l1Cur_amongM2 rZ20.2 lZ22).bind fun rZ25 => bnd ([(⟨0, rZ25.1, 1⟩ : TTributary)]) fun lZ26 => (grd ((oZ19.1.length + 1) * 24 ≤ 140737488355328)).bind fun uZ29 => bnd (oZ19.1 ++ lZ26) fun lZ30 => some (lZ30, rZ25.2.1)) (cond (rZ20.1 == 1) (bnd ([0, 1001, 1000]) fun lZ34 => (M_spec_l1Cur_amongM2 rZ20.2 lZ34).bind fun rZ37 => bnd ([(⟨0, 1, rZ37.1⟩ : TTributary)]) fun lZ38 => (grd ((oZ19.1.length + 1) * 24 ≤ 140737488355328)).bind fun uZ41 => bnd (oZ19.1 ++ lZ38) fun lZ42 => some (lZ42, rZ37.2.1)) (cond (rZ20.1 == 2) ((iter (M_spec_l1Cur_tributariesM1L2) N0 (oZ19.1, rZ20.2)).bind fun oZ56 => some (oZ56.1, oZ56.2)) (some (oZ19.1, rZ20.2)))) : Option (List TTributary × Tl1Cur)).bind fun oZ58 => some (oZ58.1, oZ58.2)
def M_spec_DrawGroomAll (codeZ0 : List Int) : Option (List TLink × Int × List TTributary) :=
  (M_spec_l1Cur_nodes18M1 (⟨codeZ0, 0, 0⟩ : Tl1Cur)).bind fun rZ1 => (M_spec_l1Cur_linksM1 rZ1.1 rZ1.2).bind fun rZ2 => (M_spec_l1Cur_tributariesM1 rZ1.1 rZ2.2).bind fun rZ3 => some (rZ2.1, rZ1.1, rZ3.1)
def M_impl_within (nZ0 : Int) (lowZ0 : Int) (highZ0 : Int) : Option Bool :=
  cond (decide (lowZ0 ≤ nZ0)) (some (decide (nZ0 ≤ highZ0))) (some false)
def M_slices_IndexFunc_LinkL1 (sZ0 : List TLink) (fZ0 : TLink → Option Bool) (sZ1 : Int) : Option (Int ⊕ (Unit ⊕ Int)) :=
  cond (decide (sZ1 < (sZ0.length : Int))) ((geti sZ0 sZ1).bind fun yZ3 => (fZ0 yZ3).bind fun rZ4 => cond (rZ4) (some (.inr (.inr sZ1))) (some (.inl (IntKind.wrap .i64 (sZ1 + 1))))) (some (.inr (.inl ())))
def M_slices_IndexFunc_Link (sZ0 : List TLink) (fZ0 : TLink → Option Bool) : Option Int :=
  (iter (M_slices_IndexFunc_LinkL1 sZ0 fZ0) N0 0).bind fun oZ6 => (match oZ6 with | .inl vZ7 => some (-1) | .inr xZ8 => some xZ8)
def M_slices_ContainsFunc_Link (sZ0 : List TLink) (fZ0 : TLink → Option Bool) : Option Bool :=
  (M_slices_IndexFunc_Link sZ0 fZ0).bind fun rZ1 => some (decide (0 ≤ rZ1))
def M_impl_areEnds (aZ0 : Int) (bZ0 : Int) (nodesZ0 : Int) : Option Bool :=
  (M_impl_within aZ0 0 (IntKind.wrap .i64 (nodesZ0 - 1))).bind fun rZ1 => cond (rZ1) ((M_impl_within bZ0 0 (IntKind.wrap .i64 (nodesZ0 - 1))).bind fun rZ3 => cond (rZ3) (some (aZ0 != bZ0)) (some false)) (some false)
def M_impl_areLinks_c1 (lZ0 : TLink) (p1Z0 : Int) : Option Bool :=
  (M_impl_areEnds lZ0.A lZ0.B p1Z0).bind fun rZ1 => cond (!rZ1) (some true) ((M_impl_within lZ0.Capacity 0 10000).bind fun rZ3 => some (!rZ3))
def M_impl_areLinks (linksZ0 : List TLink) (nodesZ0 : Int) : Option Bool :=
  (M_impl_within nodesZ0 2 8).bind fun rZ1 => cond (rZ1) (cond (decide ((linksZ0.length : Int) ≤ 12)) ((M_slices_ContainsFunc_Link linksZ0 (fun x0 => M_impl_areLinks_c1 x0 nodesZ0)).bind fun rZ4 => some (!rZ4)) (some false)) (some false)
def M_slices_IndexFunc_TributaryL1 (sZ0 : List TTributary) (fZ0 : TTributary → Option Bool) (sZ1 : Int) : Option (Int ⊕ (Unit ⊕ Int)) :=
  cond (decide (sZ1 < (sZ0.length : Int))) ((geti sZ0 sZ1).bind fun yZ3 => (fZ0 yZ3).bind fun rZ4 => cond (rZ4) (some (.inr (.inr sZ1))) (some (.inl (IntKind.wrap .i64 (sZ1 + 1))))) (some (.inr (.inl ())))
def M_slices_IndexFunc_Tributary (sZ0 : List TTributary) (fZ0 : TTributary → Option Bool) : Option Int :=
  (iter (M_slices_IndexFunc_TributaryL1 sZ0 fZ0) N0 0).bind fun oZ6 => (match oZ6 with | .inl vZ7 => some (-1) | .inr xZ8 => some xZ8)
def M_slices_ContainsFunc_Tributary (sZ0 : List TTributary) (fZ0 : TTributary → Option Bool) : Option Bool :=
  (M_slices_IndexFunc_Tributary sZ0 fZ0).bind fun rZ1 => some (decide (0 ≤ rZ1))
def M_impl_IsValidTributaries_c1 (tZ0 : TTributary) (p1Z0 : Int) : Option Bool :=
  (M_impl_areEnds tZ0.From tZ0.To p1Z0).bind fun rZ1 => cond (!rZ1) (some true) ((M_impl_within tZ0.Rate 1 1000).bind fun rZ3 => some (!rZ3))
def M_impl_IsValidTributaries (listZ0 : List TTributary) (nodesZ0 : Int) : Option Bool :=
  (M_impl_within nodesZ0 2 8).bind fun rZ1 => cond (rZ1) (cond (decide ((listZ0.length : Int) ≤ 12)) ((M_slices_ContainsFunc_Tributary listZ0 (fun x0 => M_impl_IsValidTributaries_c1 x0 nodesZ0)).bind fun rZ4 => some (!rZ4)) (some false)) (some false)
def M_impl_isGrooming (linksZ0 : List TLink) (nodesZ0 : Int) (listZ0 : List TTributary) : Option Bool :=
  (M_impl_areLinks linksZ0 nodesZ0).bind fun rZ1 => cond (rZ1) ((M_impl_IsValidTributaries listZ0 nodesZ0).bind fun rZ3 => some rZ3) (some false)
def M_impl_otherEnd (fZ0 : TFiber) (nodeZ0 : Int) : Option Int :=
  cond (nodeZ0 == fZ0.A) (some fZ0.B) (cond (nodeZ0 == fZ0.B) (some fZ0.A) (some (-1)))
def M_impl_leadsL1 (linksZ0 : List TLink) (freeZ0 : List Int) (atZ0 : Int) (toZ0 : Int) (rateZ0 : Int) (countZ0 : Int) (seenZ0 : Int) (rcZ0 : List TLink → List Int → Int → Int → Int → Int → Int → Option (List Int × Bool)) (sZ3 : Int) : Option (Int ⊕ (Unit ⊕ (List Int × Bool))) :=
  cond (decide (sZ3 < (linksZ0.length : Int))) ((geti linksZ0 sZ3).bind fun yZ5 => (M_impl_otherEnd (⟨yZ5.A, yZ5.B, 0, 0⟩ : TFiber) atZ0).bind fun rZ6 => (cond (decide (rZ6 < 0)) (some true) ((geti freeZ0 sZ3).bind fun yZ8 => cond (decide (yZ8 < rateZ0)) (some true) ((grd (0 ≤ rZ6)).bind fun uZ10 => some ((bits .and .i64 (Int.fdiv seenZ0 (2 ^ (min (Int.toNat rZ6) (IntKind.bits .i64)))) 1) == 1))) : Option Bool).bind fun oZ11 => cond (oZ11) (some (.inl (IntKind.wrap .i64 (sZ3 + 1)))) ((grd (0 ≤ rZ6)).bind fun uZ13 => (rcZ0 linksZ0 freeZ0 rZ6 toZ0 rateZ0 (IntKind.wrap .i64 (countZ0 - 1)) (bits .or .i64 seenZ0 (IntKind.wrap .i64 (1 * 2 ^ (min (Int.toNat rZ6) (IntKind.bits .i64)))))).bind fun rZ14 => cond (rZ14.2) (bnd ([sZ3]) fun lZ16 => (grd ((1 + rZ14.1.length) * 8 ≤ 140737488355328)).bind fun uZ20 => bnd (lZ16 ++ rZ14.1) fun lZ21 => some (.inr (.inr (lZ21, true)))) (some (.inl (IntKind.wrap .i64 (sZ3 + 1)))))) (some (.inr (.inl ())))
def M_impl_leads_B (rcZ0 : List TLink → List Int → Int → Int → Int → Int → Int → Option (List Int × Bool)) (linksZ0 : List TLink) (freeZ0 : List Int) (atZ0 : Int) (toZ0 : Int) (rateZ0 : Int) (countZ0 : Int) (seenZ0 : Int) : Option (List Int × Bool) :=
  cond (atZ0 == toZ0) (some (([]), true)) (cond (countZ0 == 0) (some (([]), false)) ((iter (M_impl_leadsL1 linksZ0 freeZ0 atZ0 toZ0 rateZ0 countZ0 seenZ0 rcZ0) N0 0).bind fun oZ24 => (match oZ24 with | .inl vZ25 => some (([]), false) | .inr xZ26 => some xZ26)))
def M_impl_leads : Nat → List TLink → List Int → Int → Int → Int → Int → Int → Option (List Int × Bool)
  | 0, _, _, _, _, _, _, _ => none
  | n + 1, linksZ0, freeZ0, atZ0, toZ0, rateZ0, countZ0, seenZ0 => M_impl_leads_B (M_impl_leads n) linksZ0 freeZ0 atZ0 toZ0 rateZ0 countZ0 seenZ0
def M_impl_routedL1 (linksZ0 : List TLink) (freeZ0 : List Int) (tZ0 : TTributary) (sZ1 : Int) : Option (Int ⊕ (Unit ⊕ (List Int × Bool))) :=
  cond (decide (sZ1 < 8)) ((grd (0 ≤ tZ0.From)).bind fun uZ3 => (M_impl_leads N0 linksZ0 freeZ0 tZ0.From tZ0.To tZ0.Rate sZ1 (IntKind.wrap .i64 (1 * 2 ^ (min (Int.toNat tZ0.From) (IntKind.bits .i64))))).bind fun rZ4 => cond (rZ4.2) (some (.inr (.inr (rZ4.1, true)))) (some (.inl (IntKind.wrap .i64 (sZ1 + 1))))) (some (.inr (.inl ())))
def M_impl_routed (linksZ0 : List TLink) (freeZ0 : List Int) (tZ0 : TTributary) : Option (List Int × Bool) :=
  (iter (M_impl_routedL1 linksZ0 freeZ0 tZ0) N0 1).bind fun oZ6 => (match oZ6 with | .inl vZ7 => some (([]), false) | .inr xZ8 => some xZ8)
def M_impl_groomedL1 (linksZ0 : List TLink) (sZ1 : Int × List Int) : Option ((Int × List Int) ⊕ (List Int)) :=
  cond (decide (sZ1.1 < (linksZ0.length : Int))) ((geti linksZ0 sZ1.1).bind fun yZ3 => bnd ([yZ3.Capacity]) fun lZ4 => (grd ((sZ1.2.length + 1) * 8 ≤ 140737488355328)).bind fun uZ7 => bnd (sZ1.2 ++ lZ4) fun lZ8 => some (.inl (IntKind.wrap .i64 (sZ1.1 + 1), lZ8))) (some (.inr sZ1.2))
def M_impl_groomedL3 (yZ14 : TTributary) (rZ15 : List Int × Bool) (sZ18 : Int × List Int) : Option ((Int × List Int) ⊕ (List Int)) :=
  cond (decide (sZ18.1 < (rZ15.1.length : Int))) ((grd (0 ≤ sZ18.1 ∧ sZ18.1 < (rZ15.1.length : Int))).bind fun kZ20 => (rZ15.1[(Int.toNat sZ18.1)]?).bind fun yZ21 => (grd (0 ≤ yZ21 ∧ yZ21 < (sZ18.2.length : Int))).bind fun kZ22 => (sZ18.2[(Int.toNat yZ21)]?).bind fun yZ23 => bnd (sZ18.2.set (Int.toNat yZ21) (IntKind.wrap .i64 (yZ23 - yZ14.Rate))) fun lZ24 => some (.inl (IntKind.wrap .i64 (sZ18.1 + 1), lZ24))) (some (.inr sZ18.2))
def M_impl_groomedL2 (linksZ0 : List TLink) (listZ0 : List TTributary) (sZ12 : Int × Int × List (List Int) × List Int) : Option ((Int × Int × List (List Int) × List Int) ⊕ (Int × List (List Int) × List Int)) :=
  cond (decide (sZ12.2.1 < (listZ0.length : Int))) ((geti listZ0 sZ12.2.1).bind fun yZ14 => (M_impl_routed linksZ0 sZ12.2.2.2 yZ14).bind fun rZ15 => (cond (!rZ15.2) (some (IntKind.wrap .i64 (sZ12.1 + yZ14.Rate))) (some sZ12.1) : Option Int).bind fun oZ17 => (iter (M_impl_groomedL3 yZ14 rZ15) N0 (0, sZ12.2.2.2)).bind fun oZ26 => bnd ([rZ15.1]) fun lZ27 => (grd ((sZ12.2.2.1.length + 1) * 24 ≤ 140737488355328)).bind fun uZ30 => bnd (sZ12.2.2.1 ++ lZ27) fun lZ31 => some (.inl (oZ17, IntKind.wrap .i64 (sZ12.2.1 + 1), lZ31, oZ26))) (some (.inr (sZ12.1, sZ12.2.2.1, sZ12.2.2.2)))
def M_impl_groomed (linksZ0 : List TLink) (listZ0 : List TTributary) : Option (List (List Int) × List Int × Int) :=
  (iter (M_impl_groomedL1 linksZ0) N0 (0, [])).bind fun oZ11 => (iter (M_impl_groomedL2 linksZ0 listZ0) N0 (0, 0, [], oZ11)).bind fun oZ34 => some (oZ34.2.1, oZ34.2.2, oZ34.1)
def M_impl_GroomAll (linksZ0 : List TLink) (nodesZ0 : Int) (listZ0 : List TTributary) : Option (List (List Int) × List Int × Bool) :=
  (M_impl_isGrooming linksZ0 nodesZ0 listZ0).bind fun rZ1 => cond (!rZ1) (some (([]), ([]), false)) ((M_impl_groomed linksZ0 listZ0).bind fun rZ3 => some (rZ3.1, rZ3.2.1, true))
def M_spec_l1In (xZ0 : Int) (aZ0 : Int) (bZ0 : Int) : Option Bool :=
  cond (decide (aZ0 ≤ xZ0)) (some (decide (xZ0 ≤ bZ0))) (some false)
def M_spec_l18Pair (aZ0 : Int) (bZ0 : Int) (nodesZ0 : Int) : Option Bool :=
  (M_spec_l1In aZ0 0 (IntKind.wrap .i64 (nodesZ0 - 1))).bind fun rZ1 => cond (rZ1) ((M_spec_l1In bZ0 0 (IntKind.wrap .i64 (nodesZ0 - 1))).bind fun rZ3 => cond (rZ3) (some (aZ0 != bZ0)) (some false)) (some false)
def M_spec_l18LinksL1 (linksZ0 : List TLink) (nodesZ0 : Int) (sZ1 : Int) : Option (Int ⊕ (Unit ⊕ Bool)) :=
  (cond (decide (sZ1 < (linksZ0.length : Int))) (some (decide (sZ1 ≤ 12))) (some false) : Option Bool).bind fun oZ3 => cond (oZ3) (((geti linksZ0 sZ1).bind fun yZ5 => (M_spec_l18Pair yZ5.A yZ5.B nodesZ0).bind fun rZ6 => cond (!rZ6) (some true) ((M_spec_l1In yZ5.Capacity 0 10000).bind fun rZ8 => some (!rZ8)) : Option Bool).bind fun oZ9 => cond (oZ9) (some (.inr (.inr false))) (some (.inl (IntKind.wrap .i64 (sZ1 + 1))))) (some (.inr (.inl ())))
def M_spec_l18Links (linksZ0 : List TLink) (nodesZ0 : Int) : Option Bool :=
  (iter (M_spec_l18LinksL1 linksZ0 nodesZ0) N0 0).bind fun oZ11 => (match oZ11 with | .inl vZ12 => (M_spec_l1In nodesZ0 2 8).bind fun rZ14 => cond (rZ14) (some (decide ((linksZ0.length : Int) ≤ 12))) (some false) | .inr xZ13 => some xZ13)
def M_spec_l18GoodL1 (listZ0 : List TTributary) (nodesZ0 : Int) (sZ1 : Int) : Option (Int ⊕ (Unit ⊕ Bool)) :=
  (cond (decide (sZ1 < (listZ0.length : Int))) (some (decide (sZ1 ≤ 12))) (some false) : Option Bool).bind fun oZ3 => cond (oZ3) (((geti listZ0 sZ1).bind fun yZ5 => (M_spec_l18Pair yZ5.From yZ5.To nodesZ0).bind fun rZ6 => cond (!rZ6) (some true) ((M_spec_l1In yZ5.Rate 1 1000).bind fun rZ8 => some (!rZ8)) : Option Bool).bind fun oZ9 => cond (oZ9) (some (.inr (.inr false))) (some (.inl (IntKind.wrap .i64 (sZ1 + 1))))) (some (.inr (.inl ())))
def M_spec_l18Good (listZ0 : List TTributary) (nodesZ0 : Int) : Option Bool :=
  (iter (M_spec_l18GoodL1 listZ0 nodesZ0) N0 0).bind fun oZ11 => (match oZ11 with | .inl vZ12 => (M_spec_l1In nodesZ0 2 8).bind fun rZ14 => cond (rZ14) (some (decide ((listZ0.length : Int) ≤ 12))) (some false) | .inr xZ13 => some xZ13)
def M_spec_l1HasL1 (lZ0 : List Int) (nZ0 : Int) (sZ1 : Int) : Option (Int ⊕ (Unit ⊕ Bool)) :=
  cond (decide (sZ1 < (lZ0.length : Int))) ((geti lZ0 sZ1).bind fun yZ3 => cond (yZ3 == nZ0) (some (.inr (.inr true))) (some (.inl (IntKind.wrap .i64 (sZ1 + 1))))) (some (.inr (.inl ())))
def M_spec_l1Has (lZ0 : List Int) (nZ0 : Int) : Option Bool :=
  (iter (M_spec_l1HasL1 lZ0 nZ0) N0 0).bind fun oZ5 => (match oZ5 with | .inl vZ6 => some false | .inr xZ7 => some xZ7)
def M_spec_l1Own (lZ0 : List Int) : Option (List Int) :=
  (grd (lZ0.length * 8 ≤ 140737488355328)).bind fun uZ1 => some lZ0
def M_spec_l18FindL1 (linksZ0 : List TLink) (freeZ0 : List Int) (atZ0 : Int) (toZ0 : Int) (rateZ0 : Int) (kZ0 : Int) (seenZ0 : List Int) (rcZ0 : List TLink → List Int → Int → Int → Int → Int → List Int → Option (List Int)) (sZ1 : Int) : Option (Int ⊕ (Unit ⊕ (List Int))) :=
  (cond (decide (sZ1 < (linksZ0.length : Int))) (some (decide (0 < kZ0))) (some false) : Option Bool).bind fun oZ3 => cond (oZ3) (((geti linksZ0 sZ1).bind fun yZ5 => cond (yZ5.A == atZ0) (some yZ5.B) (some (-1)) : Option Int).bind fun oZ7 => ((geti linksZ0 sZ1).bind fun yZ8 => cond (yZ8.B == atZ0) (some yZ8.A) (some oZ7) : Option Int).bind fun oZ10 => (cond (decide (oZ10 < 0)) (some true) ((geti freeZ0 sZ1).bind fun yZ12 => cond (decide (yZ12 < rateZ0)) (some true) ((M_spec_l1Has seenZ0 oZ10).bind fun rZ14 => some rZ14)) : Option Bool).bind fun oZ15 => cond (oZ15) (some (.inl (IntKind.wrap .i64 (sZ1 + 1)))) (cond (oZ10 == toZ0) (cond (kZ0 == 1) (bnd ([sZ1]) fun lZ19 => some (.inr (.inr lZ19))) (some (.inl (IntKind.wrap .i64 (sZ1 + 1))))) ((M_spec_l1Own seenZ0).bind fun rZ23 => bnd ([oZ10]) fun lZ24 => (grd ((rZ23.length + 1) * 8 ≤ 140737488355328)).bind fun uZ27 => bnd (rZ23 ++ lZ24) fun lZ28 => (rcZ0 linksZ0 freeZ0 oZ10 toZ0 rateZ0 (IntKind.wrap .i64 (kZ0 - 1)) lZ28).bind fun rZ31 => cond (decide (0 < (rZ31.length : Int))) (bnd ([sZ1]) fun lZ33 => (grd ((1 + rZ31.length) * 8 ≤ 140737488355328)).bind fun uZ37 => bnd (lZ33 ++ rZ31) fun lZ38 => some (.inr (.inr lZ38))) (some (.inl (IntKind.wrap .i64 (sZ1 + 1))))))) (some (.inr (.inl ())))
def M_spec_l18Find_B (rcZ0 : List TLink → List Int → Int → Int → Int → Int → List Int → Option (List Int)) (linksZ0 : List TLink) (freeZ0 : List Int) (atZ0 : Int) (toZ0 : Int) (rateZ0 : Int) (kZ0 : Int) (seenZ0 : List Int) : Option (List Int) :=
  (iter (M_spec_l18FindL1 linksZ0 freeZ0 atZ0 toZ0 rateZ0 kZ0 seenZ0 rcZ0) N0 0).bind fun oZ41 => (match oZ41 with | .inl vZ42 => some ([]) | .inr xZ43 => some xZ43)
def M_spec_l18Find : Nat → List TLink → List Int → Int → Int → Int → Int → List Int → Option (List Int)
  | 0, _, _, _, _, _, _, _ => none
  | n + 1, linksZ0, freeZ0, atZ0, toZ0, rateZ0, kZ0, seenZ0 => M_spec_l18Find_B (M_spec_l18Find n) linksZ0 freeZ0 atZ0 toZ0 rateZ0 kZ0 seenZ0
def M_spec_l18RouteL1 (linksZ0 : List TLink) (freeZ0 : List Int) (tZ0 : TTributary) (sZ1 : Int) : Option (Int ⊕ (Unit ⊕ (List Int))) :=
  cond (decide (sZ1 < 8)) (bnd ([tZ0.From]) fun lZ3 => (M_spec_l18Find N0 linksZ0 freeZ0 tZ0.From tZ0.To tZ0.Rate sZ1 lZ3).bind fun rZ7 => cond (decide (0 < (rZ7.length : Int))) (some (.inr (.inr rZ7))) (some (.inl (IntKind.wrap .i64 (sZ1 + 1))))) (some (.inr (.inl ())))
def M_spec_l18Route (linksZ0 : List TLink) (freeZ0 : List Int) (tZ0 : TTributary) : Option (List Int) :=
  (iter (M_spec_l18RouteL1 linksZ0 freeZ0 tZ0) N0 1).bind fun oZ9 => (match oZ9 with | .inl vZ10 => some ([]) | .inr xZ11 => some xZ11)
def M_spec_GroomAllL1 (linksZ0 : List TLink) (sZ6 : Int × List Int) : Option ((Int × List Int) ⊕ (List Int)) :=
  cond (decide (sZ6.1 < (linksZ0.length : Int))) ((geti linksZ0 sZ6.1).bind fun yZ8 => bnd ([yZ8.Capacity]) fun lZ9 => (grd ((sZ6.2.length + 1) * 8 ≤ 140737488355328)).bind fun uZ12 => bnd (sZ6.2 ++ lZ9) fun lZ13 => some (.inl (IntKind.wrap .i64 (sZ6.1 + 1), lZ13))) (some (.inr sZ6.2))
def M_spec_GroomAllL3 (listZ0 : List TTributary) (sZ17 : Int × List (List Int) × List Int) (rZ20 : List Int) (sZ21 : Int × List Int) : Option ((Int × List Int) ⊕ (List Int)) :=
  cond (decide (sZ21.1 < (rZ20.length : Int))) ((grd (0 ≤ sZ21.1 ∧ sZ21.1 < (rZ20.length : Int))).bind fun kZ23 => (rZ20[(Int.toNat sZ21.1)]?).bind fun yZ24 => (grd (0 ≤ yZ24 ∧ yZ24 < (sZ21.2.length : Int))).bind fun kZ25 => (sZ21.2[(Int.toNat yZ24)]?).bind fun yZ26 => (geti listZ0 sZ17.1).bind fun yZ27 => bnd (sZ21.2.set (Int.toNat yZ24) (IntKind.wrap .i64 (yZ26 - yZ27.Rate))) fun lZ28 => some (.inl (IntKind.wrap .i64 (sZ21.1 + 1), lZ28))) (some (.inr sZ21.2))
def M_spec_GroomAllL2 (linksZ0 : List TLink) (listZ0 : List TTributary) (sZ17 : Int × List (List Int) × List Int) : Option ((Int × List (List Int) × List Int) ⊕ (List (List Int) × List Int)) :=
  cond (decide (sZ17.1 < (listZ0.length : Int))) ((geti listZ0 sZ17.1).bind fun yZ19 => (M_spec_l18Route linksZ0 sZ17.2.2 yZ19).bind fun rZ20 => (iter (M_spec_GroomAllL3 listZ0 sZ17 rZ20) N0 (0, sZ17.2.2)).bind fun oZ30 => bnd ([rZ20]) fun lZ31 => (grd ((sZ17.2.1.length + 1) * 24 ≤ 140737488355328)).bind fun uZ34 => bnd (sZ17.2.1 ++ lZ31) fun lZ35 => some (.inl (IntKind.wrap .i64 (sZ17.1 + 1), lZ35, oZ30))) (some (.inr (sZ17.2.1, sZ17.2.2)))
def M_spec_GroomAll (linksZ0 : List TLink) (nodesZ0 : Int) (listZ0 : List TTributary) : Option (List (List Int) × List Int × Bool) :=
  ((M_spec_l18Links linksZ0 nodesZ0).bind fun rZ1 => cond (!rZ1) (some true) ((M_spec_l18Good listZ0 nodesZ0).bind fun rZ3 => some (!rZ3)) : Option Bool).bind fun oZ4 => cond (oZ4) (some (([]), ([]), false)) ((iter (M_spec_GroomAllL1 linksZ0) N0 (0, [])).bind fun oZ16 => (iter (M_spec_GroomAllL2 linksZ0 listZ0) N0 (0, [], oZ16)).bind fun oZ38 => some (oZ38.1, oZ38.2, true))
def M_laws_vIntsL1 (aZ0 : List Int) (bZ0 : List Int) (sZ2 : Int) : Option (Int ⊕ (Unit ⊕ Bool)) :=
  cond (decide (sZ2 < (aZ0.length : Int))) ((geti aZ0 sZ2).bind fun yZ4 => (geti bZ0 sZ2).bind fun yZ5 => cond (yZ4 != yZ5) (some (.inr (.inr false))) (some (.inl (IntKind.wrap .i64 (sZ2 + 1))))) (some (.inr (.inl ())))
def M_laws_vInts (aZ0 : List Int) (bZ0 : List Int) : Option Bool :=
  cond ((aZ0.length : Int) != (bZ0.length : Int)) (some false) ((iter (M_laws_vIntsL1 aZ0 bZ0) N0 0).bind fun oZ7 => (match oZ7 with | .inl vZ8 => some true | .inr xZ9 => some xZ9))
def M_slices_Index_Lint_intL1 (sZ0 : List Int) (vZ0 : Int) (sZ1 : Int) : Option (Int ⊕ (Unit ⊕ Int)) :=
  cond (decide (sZ1 < (sZ0.length : Int))) ((geti sZ0 sZ1).bind fun yZ3 => cond (vZ0 == yZ3) (some (.inr (.inr sZ1))) (some (.inl (IntKind.wrap .i64 (sZ1 + 1))))) (some (.inr (.inl ())))
def M_slices_Index_Lint_int (sZ0 : List Int) (vZ0 : Int) : Option Int :=
  (iter (M_slices_Index_Lint_intL1 sZ0 vZ0) N0 0).bind fun oZ5 => (match oZ5 with | .inl vZ6 => some (-1) | .inr xZ7 => some xZ7)
def M_slices_Contains_Lint_int (sZ0 : List Int) (vZ0 : Int) : Option Bool :=
  (M_slices_Index_Lint_int sZ0 vZ0).bind fun rZ1 => some (decide (0 ≤ rZ1))
def M_impl_LinkLoadsL2 (linksZ0 : List TLink) (listZ0 : List TTributary) (sZ8 : Int × List Int) (yZ10 : List Int) (sZ11 : Int × List Int) : Option ((Int × List Int) ⊕ ((List Int) ⊕ (List Int × Bool))) :=
  cond (decide (sZ11.1 < (yZ10.length : Int))) ((geti yZ10 sZ11.1).bind fun yZ13 => ((M_impl_within yZ13 0 (IntKind.wrap .i64 ((linksZ0.length : Int) - 1))).bind fun rZ14 => cond (!rZ14) (some true) ((slT yZ10 sZ11.1).bind fun lZ16 => (M_slices_Contains_Lint_int lZ16 yZ13).bind fun rZ17 => some rZ17) : Option Bool).bind fun oZ18 => cond (oZ18) (some (.inr (.inr (([]), false)))) ((grd (0 ≤ yZ13 ∧ yZ13 < (sZ11.2.length : Int))).bind fun kZ20 => (sZ11.2[(Int.toNat yZ13)]?).bind fun yZ21 => (geti listZ0 sZ8.1).bind fun yZ22 => bnd (sZ11.2.set (Int.toNat yZ13) (IntKind.wrap .i64 (yZ21 + yZ22.Rate))) fun lZ23 => some (.inl (IntKind.wrap .i64 (sZ11.1 + 1), lZ23)))) (some (.inr (.inl sZ11.2)))
def M_impl_LinkLoadsL1 (linksZ0 : List TLink) (listZ0 : List TTributary) (routesZ0 : List (List Int)) (sZ8 : Int × List Int) : Option ((Int × List Int) ⊕ ((List Int) ⊕ (List Int × Bool))) :=
  cond (decide (sZ8.1 < (routesZ0.length : Int))) (((geti routesZ0 sZ8.1).bind fun yZ10 => (iter (M_impl_LinkLoadsL2 linksZ0 listZ0 sZ8 yZ10) N0 (0, sZ8.2)).bind fun oZ25 => (match oZ25 with | .inl vZ26 => some (.inl vZ26) | .inr xZ27 => some (.inr xZ27)) : Option ((List Int) ⊕ (List Int × Bool))).bind fun oZ30 => (match oZ30 with | .inl vZ31 => some (.inl (IntKind.wrap .i64 (sZ8.1 + 1), vZ31)) | .inr xZ32 => some (.inr (.inr xZ32)))) (some (.inr (.inl sZ8.2)))
def M_impl_LinkLoads (linksZ0 : List TLink) (nodesZ0 : Int) (listZ0 : List TTributary) (routesZ0 : List (List Int)) : Option (List Int × Bool) :=
  ((M_impl_isGrooming linksZ0 nodesZ0 listZ0).bind fun rZ1 => cond (!rZ1) (some true) (some ((routesZ0.length : Int) != (listZ0.length : Int))) : Option Bool).bind fun oZ3 => cond (oZ3) (some (([]), false)) ((grd (0 ≤ (linksZ0.length : Int) ∧ (linksZ0.length : Int) ≤ (linksZ0.length : Int) ∧ (linksZ0.length : Int) * ((8 : Nat) : Int) ≤ 140737488355328 ∧ (linksZ0.length : Int) ≤ 9223372036854775807)).bind fun uZ5 => bnd (List.replicate (Int.toNat (linksZ0.length : Int)) 0) fun lZ6 => (iter (M_impl_LinkLoadsL1 linksZ0 listZ0 routesZ0) N0 (0, lZ6)).bind fun oZ34 => (match oZ34 with | .inl vZ35 => some (vZ35, true) | .inr xZ36 => some xZ36))
def M_slices_IndexFunc_Lint_intL1 (sZ0 : List Int) (fZ0 : Int → Option Bool) (sZ1 : Int) : Option (Int ⊕ (Unit ⊕ Int)) :=
  cond (decide (sZ1 < (sZ0.length : Int))) ((geti sZ0 sZ1).bind fun yZ3 => (fZ0 yZ3).bind fun rZ4 => cond (rZ4) (some (.inr (.inr sZ1))) (some (.inl (IntKind.wrap .i64 (sZ1 + 1))))) (some (.inr (.inl ())))
def M_slices_IndexFunc_Lint_int (sZ0 : List Int) (fZ0 : Int → Option Bool) : Option Int :=
  (iter (M_slices_IndexFunc_Lint_intL1 sZ0 fZ0) N0 0).bind fun oZ6 => (match oZ6 with | .inl vZ7 => some (-1) | .inr xZ8 => some xZ8)
def M_slices_ContainsFunc_Lint_int (sZ0 : List Int) (fZ0 : Int → Option Bool) : Option Bool :=
  (M_slices_IndexFunc_Lint_int sZ0 fZ0).bind fun rZ1 => some (decide (0 ≤ rZ1))
def M_impl_RouteTributary_c1 (roomZ0 : Int) : Option Bool :=
  (M_impl_within roomZ0 0 10000).bind fun rZ1 => some (!rZ1)
def M_impl_RouteTributary (linksZ0 : List TLink) (freeZ0 : List Int) (nodesZ0 : Int) (tZ0 : TTributary) : Option (List Int × Bool × Bool) :=
  ((M_impl_areLinks linksZ0 nodesZ0).bind fun rZ1 => cond (!rZ1) (some true) (bnd ([tZ0]) fun lZ3 => (M_impl_IsValidTributaries lZ3 nodesZ0).bind fun rZ7 => cond (!rZ7) (some true) (cond ((freeZ0.length : Int) != (linksZ0.length : Int)) (some true) ((M_slices_ContainsFunc_Lint_int freeZ0 M_impl_RouteTributary_c1).bind fun rZ10 => some rZ10))) : Option Bool).bind fun oZ11 => cond (oZ11) (some (([]), false, false)) ((M_impl_routed linksZ0 freeZ0 tZ0).bind fun rZ13 => some (rZ13.1, rZ13.2, true))
def M_impl_BlockedRate (linksZ0 : List TLink) (nodesZ0 : Int) (listZ0 : List TTributary) : Option (Int × Bool) :=
  (M_impl_isGrooming linksZ0 nodesZ0 listZ0).bind fun rZ1 => cond (!rZ1) (some (0, false)) ((M_impl_groomed linksZ0 listZ0).bind fun rZ3 => some (rZ3.2.2, true))
def M_laws_FnGroomingL1 (rZ3 : List TLink × Int × List TTributary) (rZ4 : List (List Int) × List Int × Bool) (rZ14 : List Int × Bool) (sZ20 : Int) : Option (Int ⊕ (Unit ⊕ Bool)) :=
  cond (decide (sZ20 < (rZ3.1.length : Int))) (((grd (0 ≤ sZ20 ∧ sZ20 < (rZ14.1.length : Int))).bind fun kZ22 => (rZ14.1[(Int.toNat sZ20)]?).bind fun yZ23 => (grd (0 ≤ sZ20 ∧ sZ20 < (rZ4.2.1.length : Int))).bind fun kZ24 => (rZ4.2.1[(Int.toNat sZ20)]?).bind fun yZ25 => (grd (0 ≤ sZ20 ∧ sZ20 < (rZ3.1.length : Int))).bind fun kZ26 => (rZ3.1[(Int.toNat sZ20)]?).bind fun yZ27 => cond ((IntKind.wrap .i64 (yZ23 + yZ25)) != yZ27.Capacity) (some true) (some (decide (yZ25 < 0))) : Option Bool).bind fun oZ29 => cond (oZ29) (some (.inr (.inr false))) (some (.inl (IntKind.wrap .i64 (sZ20 + 1))))) (some (.inr (.inl ())))
def M_laws_FnGroomingL2 (rZ3 : List TLink × Int × List TTributary) (rZ4 : List (List Int) × List Int × Bool) (sZ34 : Int × Int) : Option ((Int × Int) ⊕ (Int ⊕ Bool)) :=
  cond (decide (sZ34.2 < (rZ3.2.2.length : Int))) ((grd (0 ≤ sZ34.2 ∧ sZ34.2 < (rZ4.1.length : Int))).bind fun kZ36 => (rZ4.1[(Int.toNat sZ34.2)]?).bind fun yZ37 => cond ((yZ37.length : Int) == 0) ((grd (0 ≤ sZ34.2 ∧ sZ34.2 < (rZ3.2.2.length : Int))).bind fun kZ39 => (rZ3.2.2[(Int.toNat sZ34.2)]?).bind fun yZ40 => (M_impl_RouteTributary rZ3.1 rZ4.2.1 rZ3.2.1 yZ40).bind fun rZ41 => (cond (rZ41.2.1) (some true) (some (!rZ41.2.2)) : Option Bool).bind fun oZ43 => cond (oZ43) (some (.inr (.inr false))) (some (.inl (IntKind.wrap .i64 (sZ34.1 + yZ40.Rate), IntKind.wrap .i64 (sZ34.2 + 1))))) (some (.inl (sZ34.1, IntKind.wrap .i64 (sZ34.2 + 1))))) (some (.inr (.inl sZ34.1)))
def M_laws_FnGrooming (codeZ0 : List Int) : Option Bool :=
  (M_laws_vBig codeZ0).bind fun rZ1 => cond (rZ1) (some true) ((M_spec_DrawGroomAll codeZ0).bind fun rZ3 => (M_impl_GroomAll rZ3.1 rZ3.2.1 rZ3.2.2).bind fun rZ4 => (M_spec_GroomAll rZ3.1 rZ3.2.1 rZ3.2.2).bind fun rZ5 => (cond (!(rZ4.2.2 == rZ5.2.2)) (some true) ((M_laws_vInts rZ4.2.1 rZ5.2.1).bind fun rZ7 => cond (!rZ7) (some true) (some (!rZ4.2.2))) : Option Bool).bind fun oZ9 => cond (oZ9) ((cond (rZ4.2.2 == rZ5.2.2) ((M_laws_vInts rZ4.2.1 rZ5.2.1).bind fun rZ12 => some rZ12) (some false) : Option Bool).bind fun oZ13 => some oZ13) ((M_impl_LinkLoads rZ3.1 rZ3.2.1 rZ3.2.2 rZ4.1).bind fun rZ14 => (cond (!rZ14.2) (some true) (cond ((rZ14.1.length : Int) != (rZ3.1.length : Int)) (some true) (cond ((rZ4.2.1.length : Int) != (rZ3.1.length : Int)) (some true) (some ((rZ4.1.length : Int) != (rZ3.2.2.length : Int))))) : Option Bool).bind fun oZ18 => cond (oZ18) (some false) ((iter (M_laws_FnGroomingL1 rZ3 rZ4 rZ14) N0 0).bind fun oZ31 => (match oZ31 with | .inl vZ32 => (iter (M_laws_FnGroomingL2 rZ3 rZ4) N0 (0, 0)).bind fun oZ45 => (match oZ45 with | .inl vZ46 => (M_impl_BlockedRate rZ3.1 rZ3.2.1 rZ3.2.2).bind fun rZ48 => cond (rZ48.2) (some (rZ48.1 == vZ46)) (some false) | .inr xZ47 => some xZ47) | .inr xZ33 => some xZ33))))
end Vs

namespace Vs
open Go Go.Proofs
theorem hmix : Try.prog.follows .mixedOrders = true := Try.checked.mixed
def A43 : ACode := (.seq (.reg [Zo 2 (.mv (.c (.b false)))] []) (.seq (.reg [Zm 3 0,Zk 4 3,Zd 5 .gtr 4 65536,Zm 2 5] []) .ret))
def V43 : List RV := [.t 2]
theorem m43 : mtcF Try.prog 43 1 A43 V43 = true := by kernel_rfl
def A116M1R1 : ACode := (.seq (.reg [Zm 25 0,Zo 26 (.nilc (Zt 25)),Za 27 1 26,Zl 28 27,Zd 29 .add 28 1,Zo 30 (.nilc (Zt 25)),Za 31 1 30,⟨none, .store 1 (Zt 31) (Zt 29), none⟩] []) (.seq (.reg [Zm 32 0,Zm 33 0,Zo 34 (.nilc (Zt 33)),Za 35 2 34,Zl 36 35,Zo 37 (.bin .mul (Zt 36) (.c (.sc (.int .u64 6364136223846793005)))),Zm 38 3,Zo 39 (.conv .u64 (Zt 38)),Zb 40 .add 37 39,Zo 41 (.bin .add (Zt 40) (.c (.sc (.int .u64 897897)))),Zo 42 (.nilc (Zt 32)),Za 43 2 42,⟨none, .store 1 (Zt 43) (Zt 41), none⟩] []) (.seq (.seq (.drw [Zm 44 0,Zo 45 (.nilc (Zt 44)),Za 46 1 45,Zl 47 46,Zm 48 0,Zo 49 (.nilc (Zt 48)),Za 50 0 49,Zl 51 50,Zk 52 51,Zb 53 .leq 47 52] []) (.cond (Zt 53) (.seq (.reg [Zm 54 3,Zm 2 54] []) .ret) .skip)) (.seq (.reg [Zm 55 0,Zo 56 (.nilc (Zt 55)),Za 57 2 56,Zl 58 57,Zo 59 (.bin .shr (Zt 58) (.c (.sc (.int .u64 40)))),Zo 60 (.bin .and (Zt 59) (.c (.sc (.int .u64 255)))),Zo 61 (.conv .i64 (Zt 60)),Zm 2 61] []) .ret))))
def A116M1 : ACode := (.seq (.reg [Zn 2 0] []) (.seq (.reg [Zn 3 0] []) (.seqr (.seq (.drw [Zm 4 0,Zo 5 (.nilc (Zt 4)),Za 6 1 5,Zl 7 6,Zm 8 0,Zo 9 (.nilc (Zt 8)),Za 10 0 9,Zl 11 10,Zk 12 11,Zb 13 .lss 7 12] []) (.cond (Zt 13) (.drw [Zm 14 0,Zo 15 (.nilc (Zt 14)),Za 16 0 15,Zl 17 16,Zm 18 0,Zo 19 (.nilc (Zt 18)),Za 20 1 19,Zl 21 20,Zx 22 1 17 21,Zl 23 22,Zo 24 (.conv .i64 (Zt 23)),Zm 3 24] []) .skip)) [0, 3] [1000000000] A116M1R1)))
def V116M1 : List RV := [.t 2]
theorem m116M1 : mtcF Try.prog 116 1 A116M1 V116M1 = true := by kernel_rfl
def A107M1 : ACode := (.seq (.reg [Zn 4 0] []) (.seq (.seq (.reg [Zm 6 1,Zd 7 .leq 6 1] []) (.cond (Zt 7) (.seq (.reg [Zn 4 0] []) .ret) .skip)) (.seq (.reg [Zm 8 0,Zo 9 (.callM 116 [(Zt 8)] [1000000000]),Zm 5 9] []) (.seq (.seq (.reg [Zm 10 1,Zd 11 .gtr 10 200] []) (.cond (Zt 11) (.reg [Zm 12 5,Zd 13 .mul 12 256,Zm 14 0,Zo 15 (.callM 116 [(Zt 14)] [1000000000]),Zb 16 .add 13 15,Zm 5 16] []) .skip)) (.seq (.reg [Zm 17 5,Zm 18 1,Zb 19 .rem 17 18,Zm 4 19] []) .ret)))))
def V107M1 : List RV := [.t 4]
theorem m107M1 : mtcF Try.prog 107 2 A107M1 V107M1 = true := by kernel_rfl
def A84M1 : ACode := (.seq (.reg [Zn 4 0] []) (.seq (.reg [Zm 5 1,Zm 6 0,Zm 7 1,Zk 8 7,Zo 9 (.callM 107 [(Zt 6), (Zt 8)] [1000000000]),Zx 10 1 5 9,Zl 11 10,Zm 4 11] []) .ret))
def V84M1 : List RV := [.t 4]
theorem m84M1 : mtcF Try.prog 84 2 A84M1 V84M1 = true := by kernel_rfl
def A81M1 : ACode := (.seq (.reg [Zn 2 0] []) (.seq (.reg [Zm 3 0,Zo 4 (.bsl 1 false [(.c (.i 2)), (.c (.i 3)), (.c (.i 4)), (.c (.i 5)), (.c (.i 6)), (.c (.i 8)), (.c (.i 1)), (.c (.i 9))]),Zm 5 0,Zo 6 (.callM 107 [(Zt 5), (.c (.i 40))] [1000000000]),Zd 7 .quo 6 20,Zo 8 (.bin .add (.c (.i 6)) (Zt 7)),Zo 9 (.slc 1 (Zt 4) none (some (Zt 8)) none),Zo 10 (.callM 84 [(Zt 3), (Zt 9)] [1000000000, 4]),Zm 2 10] []) .ret))
def V81M1 : List RV := [.t 2]
theorem m81M1 : mtcF Try.prog 81 1 A81M1 V81M1 = true := by kernel_rfl
def A88 : ACode := (.seq (.reg [Zn 4 0] []) (.seq (.seq (.reg [Zm 5 0,Zm 6 1,Zb 7 .gtr 5 6] []) (.cond (Zt 7) (.seq (.reg [Zm 8 0,Zm 4 8] []) .ret) .skip)) (.seq (.reg [Zm 9 1,Zm 4 9] []) .ret)))
def V88 : List RV := [.t 4]
theorem m88 : mtcF Try.prog 88 2 A88 V88 = true := by kernel_rfl
def A84M2 : ACode := (.seq (.reg [Zn 4 0] []) (.seq (.reg [Zm 5 1,Zm 6 0,Zm 7 1,Zk 8 7,Zo 9 (.callM 107 [(Zt 6), (Zt 8)] [1000000000]),Zx 10 1 5 9,Zl 11 10,Zm 4 11] []) .ret))
def V84M2 : List RV := [.t 4]
theorem m84M2 : mtcF Try.prog 84 2 A84M2 V84M2 = true := by kernel_rfl
def A82M1L1 : ACode := (.seq (.seq (.reg [Zm 14 7,Zd 15 .gtr 14 0] []) (.cond (Zt 15) .skip (.exit 0))) (.seq (.blk 1 (.seq (.reg [Zm 18 0,Zm 19 6,Zo 20 (.callM 107 [(Zt 18), (Zt 19)] [1000000000]),Zm 8 20] []) (.drw [Zm 21 5,Zm 22 8,Zm 23 8,Zd 24 .add 23 1,Zm 25 0,Zm 26 6,Zd 27 .sub 26 1,Zo 28 (.callM 107 [(Zt 25), (Zt 27)] [1000000000]),Zb 29 .add 24 28,Zm 30 6,Zb 31 .rem 29 30,Zm 32 0,Zo 33 (.bsl 1 true [(.c (.i 0)), (.c (.i 3)), (.c (.i 5)), (.c (.i 10)), (.c (.i 10)), (.c (.i 20))]),Zo 34 (.callM 84 [(Zt 32), (Zt 33)] [1000000000, 33]),Zo 35 (.build [.i 0, .i 0, .i 0] [(0, 1, (Zt 22)), (1, 1, (Zt 31)), (2, 1, (Zt 34))]),Zo 36 (.bsl 3 true [(Zt 35)]),Zo 37 (.app 3 24 true (Zt 21) (Zt 36)),Zm 5 37] [5]))) (.reg [Zm 16 7,Zd 17 .sub 16 1,Zm 7 17] [])))
def A82M1R2 : ACode := (.seq (.seq (.reg [Zm 38 0,Zo 39 (.callM 107 [(Zt 38), (.c (.i 40))] [1000000000])] []) (.blk 2 (.seq (.reg [Zd 41 .eql 39 0,Zm 40 41] []) (.cond (Zt 40) (.reg [Zm 42 5,Zm 43 0,Zo 44 (.bsl 1 false [(.c (.i 1)), (.c (.i 8)), (.c (.i (-1)))]),Zo 45 (.callM 84 [(Zt 43), (Zt 44)] [1000000000, 44]),Zo 46 (.build [.i 0, .i 0, .i 0] [(0, 1, (.c (.i 1))), (1, 1, (Zt 45)), (2, 1, (.c (.i 5)))]),Zo 47 (.bsl 3 false [(Zt 46)]),Zo 48 (.app 3 24 true (Zt 42) (Zt 47)),Zm 5 48] [5]) (.seq (.reg [Zd 50 .eql 39 1,Zm 49 50] []) (.cond (Zt 49) (.reg [Zm 51 5,Zm 52 0,Zo 53 (.bsl 1 false [(.c (.i (-1))), (.c (.i 10001))]),Zo 54 (.callM 84 [(Zt 52), (Zt 53)] [1000000000, 53]),Zo 55 (.build [.i 0, .i 0, .i 0] [(0, 1, (.c (.i 1))), (1, 1, (.c (.i 0))), (2, 1, (Zt 54))]),Zo 56 (.bsl 3 false [(Zt 55)]),Zo 57 (.app 3 24 true (Zt 51) (Zt 56)),Zm 5 57] [5]) .skip)))))) (.seq (.reg [Zm 58 5,Zm 4 58] [4]) .ret))
def A82M1 : ACode := (.seq (.reg [Zo 4 (.mv (.c (.lst .u 3 [])))] [4]) (.seq (.reg [Zo 9 (.bsl 3 false []),Zm 5 9] [5]) (.seq (.reg [Zm 10 1,Zo 11 (.call 88 [(Zt 10), (.c (.i 2))]),Zm 6 11] []) (.seqa (.reg [Zm 12 0,Zo 13 (.callM 107 [(Zt 12), (.c (.i 9))] [1000000000]),Zm 7 13] []) (.blk 0 (.loop A82M1L1)) [0, 5] [5, 1000000000] A82M1R2))))
def V82M1 : List RV := [.t 4]
theorem m82M1 : mtcF Try.prog 82 2 A82M1 V82M1 = true := by kernel_rfl
def A83M1L1 : ACode := (.seq (.seq (.reg [Zm 14 7,Zd 15 .gtr 14 0] []) (.cond (Zt 15) .skip (.exit 0))) (.seq (.blk 1 (.seq (.reg [Zm 18 0,Zm 19 6,Zo 20 (.callM 107 [(Zt 18), (Zt 19)] [1000000000]),Zm 8 20] []) (.drw [Zm 21 5,Zm 22 8,Zm 23 8,Zd 24 .add 23 1,Zm 25 0,Zm 26 6,Zd 27 .sub 26 1,Zo 28 (.callM 107 [(Zt 25), (Zt 27)] [1000000000]),Zb 29 .add 24 28,Zm 30 6,Zb 31 .rem 29 30,Zm 32 0,Zo 33 (.bsl 1 true [(.c (.i 1)), (.c (.i 2)), (.c (.i 3)), (.c (.i 4)), (.c (.i 5)), (.c (.i 6)), (.c (.i 7)), (.c (.i 10))]),Zo 34 (.callM 84 [(Zt 32), (Zt 33)] [1000000000, 33]),Zo 35 (.build [.i 0, .i 0, .i 0] [(0, 1, (Zt 22)), (1, 1, (Zt 31)), (2, 1, (Zt 34))]),Zo 36 (.bsl 3 true [(Zt 35)]),Zo 37 (.app 3 24 true (Zt 21) (Zt 36)),Zm 5 37] [5]))) (.reg [Zm 16 7,Zd 17 .sub 16 1,Zm 7 17] [])))
def A83M1L3 : ACode := (.seq (.seq (.reg [Zm 60 5,Zk 61 60,Zm 62 0,Zo 63 (.callM 107 [(Zt 62), (.c (.i 2))] [1000000000]),Zo 64 (.bin .add (.c (.i 12)) (Zt 63)),Zb 65 .lss 61 64] []) (.cond (Zt 65) .skip (.exit 3))) (.blk 4 (.reg [Zm 66 5,Zo 67 (.build [.i 0, .i 0, .i 0] [(0, 1, (.c (.i 0))), (1, 1, (.c (.i 1))), (2, 1, (.c (.i 1)))]),Zo 68 (.bsl 3 false [(Zt 67)]),Zo 69 (.app 3 24 true (Zt 66) (Zt 68)),Zm 5 69] [5])))
def A83M1R4 : ACode := (.seq (.reg [Zm 70 5,Zm 4 70] [4]) .ret)
def A83M1R2 : ACode := (.seqr (.seq (.reg [Zm 38 0,Zo 39 (.callM 107 [(Zt 38), (.c (.i 40))] [1000000000])] []) (.blk 2 (.seq (.reg [Zd 41 .eql 39 0,Zm 40 41] []) (.cond (Zt 40) (.reg [Zm 42 5,Zm 43 0,Zo 44 (.bsl 1 false [(.c (.i 0)), (.c (.i 8)), (.c (.i (-1)))]),Zo 45 (.callM 84 [(Zt 43), (Zt 44)] [1000000000, 44]),Zo 46 (.build [.i 0, .i 0, .i 0] [(0, 1, (.c (.i 0))), (1, 1, (Zt 45)), (2, 1, (.c (.i 1)))]),Zo 47 (.bsl 3 false [(Zt 46)]),Zo 48 (.app 3 24 true (Zt 42) (Zt 47)),Zm 5 48] [5]) (.seq (.reg [Zd 50 .eql 39 1,Zm 49 50] []) (.cond (Zt 49) (.reg [Zm 51 5,Zm 52 0,Zo 53 (.bsl 1 false [(.c (.i 0)), (.c (.i 1001)), (.c (.i 1000))]),Zo 54 (.callM 84 [(Zt 52), (Zt 53)] [1000000000, 53]),Zo 55 (.build [.i 0, .i 0, .i 0] [(0, 1, (.c (.i 0))), (1, 1, (.c (.i 1))), (2, 1, (Zt 54))]),Zo 56 (.bsl 3 false [(Zt 55)]),Zo 57 (.app 3 24 true (Zt 51) (Zt 56)),Zm 5 57] [5]) (.seq (.reg [Zd 59 .eql 39 2,Zm 58 59] []) (.cond (Zt 58) (.blk 3 (.loop A83M1L3)) .skip)))))))) [5] [5, 1000000000] A83M1R4)
def A83M1 : ACode := (.seq (.reg [Zo 4 (.mv (.c (.lst .u 3 [])))] [4]) (.seq (.reg [Zo 9 (.bsl 3 false []),Zm 5 9] [5]) (.seq (.reg [Zm 10 1,Zo 11 (.call 88 [(Zt 10), (.c (.i 2))]),Zm 6 11] []) (.seqa (.reg [Zm 12 0,Zo 13 (.callM 107 [(Zt 12), (.c (.i 8))] [1000000000]),Zm 7 13] []) (.blk 0 (.loop A83M1L1)) [0, 5] [5, 1000000000] A83M1R2))))
def V83M1 : List RV := [.t 4]
theorem m83M1 : mtcF Try.prog 83 2 A83M1 V83M1 = true := by kernel_rfl
def A44 : ACode := (.seq (.reg [Zo 2 (.mv (.c (.lst .u 3 []))),Zn 3 0,Zo 4 (.mv (.c (.lst .u 3 [])))] [2, 4]) (.seq (.reg [Zm 7 0,Zo 8 (.build [.lst .u 1 [], .i 0, .sc (.int .u64 0)] [(0, 1, (Zt 7))]),Zo 9 (.box 3 (Zt 8)),Zm 5 9] []) (.seq (.reg [Zm 10 5,Zo 11 (.callM 81 [(Zt 10)] [9]),Zm 6 11] []) (.seq (.reg [Zm 12 5,Zm 13 6,Zo 14 (.callM 82 [(Zt 12), (Zt 13)] [9]),Zm 15 6,Zm 16 5,Zm 17 6,Zo 18 (.callM 83 [(Zt 16), (Zt 17)] [9]),Zm 2 14,Zm 3 15,Zm 4 18] [2, 4]) .ret))))
def V44 : List RV := [.t 2, .t 3, .t 4]
theorem m44 : mtcF Try.prog 44 1 A44 V44 = true := by kernel_rfl
def A55 : ACode := (.seq (.reg [Zo 6 (.mv (.c (.b false)))] []) (.seq (.reg [Zm 7 1,Zm 8 0,Zb 9 .leq 7 8,Zm 10 9,⟨(some 11), .mv (Zt 0), (some (10, true))⟩,⟨(some 12), .mv (Zt 2), (some (10, true))⟩,⟨(some 13), .bin .leq (Zt 11) (Zt 12), (some (10, true))⟩,Zo 14 (.pick (Zt 10) (Zt 13) (.c (.b false))),Zm 6 14] []) .ret))
def V55 : List RV := [.t 6]
theorem m55 : mtcF Try.prog 55 3 A55 V55 = true := by kernel_rfl
def A113L1 : ACode := (.seq (.reg [Zb 9 .lss 8 7] []) (.seq (.cond (Zt 9) .skip (.exit 0)) (.seq (.blk 1 (.seq (.reg [Zm 10 8,Zm 5 10] []) (.seq (.reg [Zm 11 1,Zm 12 0,Zm 13 5,Zx 14 3 12 13,Zo 15 (.load 3 true (Zt 14)),Zo 16 (.dyn (Zt 11) [(Zt 15)])] []) (.cond (Zt 16) (.seq (.reg [Zm 17 5,Zm 4 17] []) .ret) .skip)))) (.reg [Zd 18 .add 8 1,Zm 8 18] []))))
def A113R2 : ACode := (.seq (.reg [Zn 4 (-1)] []) .ret)
def A113 : ACode := (.seq (.reg [Zn 4 0] []) (.seqa (.reg [Zm 6 0,Zk 7 6,Zn 8 0] []) (.blk 0 (.loop A113L1)) [] [] A113R2))
def V113 : List RV := [.t 4]
theorem m113 : mtcF Try.prog 113 2 A113 V113 = true := by kernel_rfl
def A101 : ACode := (.seq (.reg [Zo 4 (.mv (.c (.b false)))] []) (.seq (.reg [Zm 5 0,Zm 6 1,Zo 7 (.call 113 [(Zt 5), (Zt 6)]),Zd 8 .geq 7 0,Zm 4 8] []) .ret))
def V101 : List RV := [.t 4]
theorem m101 : mtcF Try.prog 101 2 A101 V101 = true := by kernel_rfl
def A58 : ACode := (.seq (.reg [Zo 6 (.mv (.c (.b false)))] []) (.seq (.reg [Zm 7 0,Zm 8 2,Zd 9 .sub 8 1,Zo 10 (.call 55 [(Zt 7), (.c (.i 0)), (Zt 9)]),Zm 11 10,⟨(some 12), .mv (Zt 1), (some (11, true))⟩,⟨(some 13), .mv (Zt 2), (some (11, true))⟩,⟨(some 14), .bin .sub (Zt 13) (.c (.i 1)), (some (11, true))⟩,⟨(some 15), .call 55 [(Zt 12), (.c (.i 0)), (Zt 14)], (some (11, true))⟩,Zo 16 (.pick (Zt 11) (Zt 15) (.c (.b false))),Zm 17 16,⟨(some 18), .mv (Zt 0), (some (17, true))⟩,⟨(some 19), .mv (Zt 1), (some (17, true))⟩,⟨(some 20), .bin .neq (Zt 18) (Zt 19), (some (17, true))⟩,Zo 21 (.pick (Zt 17) (Zt 20) (.c (.b false))),Zm 6 21] []) .ret))
def V58 : List RV := [.t 6]
theorem m58 : mtcF Try.prog 58 3 A58 V58 = true := by kernel_rfl
def A102 : ACode := (.seq (.reg [Zo 2 (.box 3 (Zt 0)),Zo 3 (.mv (.c (.b false)))] []) (.seq (.reg [Za 4 0 2,Zl 5 4,Za 6 1 2,Zl 7 6,Zl 8 1,Zo 9 (.call 58 [(Zt 5), (Zt 7), (Zt 8)]),Zo 10 (.un .not (Zt 9)),Zm 11 10,⟨(some 12), .fad 2 (Zt 2), (some (11, false))⟩,⟨(some 13), .load 1 false (Zt 12), (some (11, false))⟩,⟨(some 14), .call 55 [(Zt 13), (.c (.i 0)), (.c (.i 10000))], (some (11, false))⟩,⟨(some 15), .un .not (Zt 14), (some (11, false))⟩,Zo 16 (.pick (Zt 11) (.c (.b true)) (Zt 15)),Zm 3 16] []) .ret))
def V102 : List RV := [.t 3]
theorem m102 : mtcF Try.prog 102 2 A102 V102 = true := by kernel_rfl
def A70 : ACode := (.seq (.reg [Zo 3 (.box 1 (Zt 1)),Zo 4 (.mv (.c (.b false)))] []) (.seq (.reg [Zl 5 3,Zo 6 (.call 55 [(Zt 5), (.c (.i 2)), (.c (.i 8))]),Zm 7 6,⟨(some 8), .mv (Zt 0), (some (7, true))⟩,⟨(some 9), .len (Zt 8), (some (7, true))⟩,⟨(some 10), .bin .leq (Zt 9) (.c (.i 12)), (some (7, true))⟩,Zo 11 (.pick (Zt 7) (Zt 10) (.c (.b false))),Zm 12 11,⟨(some 13), .mv (Zt 0), (some (12, true))⟩,⟨(some 14), .mkf 102 [(Zt 3)], (some (12, true))⟩,⟨(some 15), .call 101 [(Zt 13), (Zt 14)], (some (12, true))⟩,⟨(some 16), .un .not (Zt 15), (some (12, true))⟩,Zo 17 (.pick (Zt 12) (Zt 16) (.c (.b false))),Zm 4 17] []) .ret))
def V70 : List RV := [.t 4]
theorem m70 : mtcF Try.prog 70 2 A70 V70 = true := by kernel_rfl
def A96L1 : ACode := (.seq (.reg [Zb 9 .lss 8 7] []) (.seq (.cond (Zt 9) .skip (.exit 0)) (.seq (.blk 1 (.seq (.reg [Zm 10 8,Zm 5 10] []) (.seq (.reg [Zm 11 1,Zm 12 0,Zm 13 5,Zx 14 3 12 13,Zo 15 (.load 3 true (Zt 14)),Zo 16 (.dyn (Zt 11) [(Zt 15)])] []) (.cond (Zt 16) (.seq (.reg [Zm 17 5,Zm 4 17] []) .ret) .skip)))) (.reg [Zd 18 .add 8 1,Zm 8 18] []))))
def A96R2 : ACode := (.seq (.reg [Zn 4 (-1)] []) .ret)
def A96 : ACode := (.seq (.reg [Zn 4 0] []) (.seqa (.reg [Zm 6 0,Zk 7 6,Zn 8 0] []) (.blk 0 (.loop A96L1)) [] [] A96R2))
def V96 : List RV := [.t 4]
theorem m96 : mtcF Try.prog 96 2 A96 V96 = true := by kernel_rfl
def A56 : ACode := (.seq (.reg [Zo 4 (.mv (.c (.b false)))] []) (.seq (.reg [Zm 5 0,Zm 6 1,Zo 7 (.call 96 [(Zt 5), (Zt 6)]),Zd 8 .geq 7 0,Zm 4 8] []) .ret))
def V56 : List RV := [.t 4]
theorem m56 : mtcF Try.prog 56 2 A56 V56 = true := by kernel_rfl
def A57 : ACode := (.seq (.reg [Zo 2 (.box 3 (Zt 0)),Zo 3 (.mv (.c (.b false)))] []) (.seq (.reg [Za 4 0 2,Zl 5 4,Za 6 1 2,Zl 7 6,Zl 8 1,Zo 9 (.call 58 [(Zt 5), (Zt 7), (Zt 8)]),Zo 10 (.un .not (Zt 9)),Zm 11 10,⟨(some 12), .fad 2 (Zt 2), (some (11, false))⟩,⟨(some 13), .load 1 false (Zt 12), (some (11, false))⟩,⟨(some 14), .call 55 [(Zt 13), (.c (.i 1)), (.c (.i 1000))], (some (11, false))⟩,⟨(some 15), .un .not (Zt 14), (some (11, false))⟩,Zo 16 (.pick (Zt 11) (.c (.b true)) (Zt 15)),Zm 3 16] []) .ret))
def V57 : List RV := [.t 3]
theorem m57 : mtcF Try.prog 57 2 A57 V57 = true := by kernel_rfl
def A17 : ACode := (.seq (.reg [Zo 3 (.box 1 (Zt 1)),Zo 4 (.mv (.c (.b false)))] []) (.seq (.reg [Zl 5 3,Zo 6 (.call 55 [(Zt 5), (.c (.i 2)), (.c (.i 8))]),Zm 7 6,⟨(some 8), .mv (Zt 0), (some (7, true))⟩,⟨(some 9), .len (Zt 8), (some (7, true))⟩,⟨(some 10), .bin .leq (Zt 9) (.c (.i 12)), (some (7, true))⟩,Zo 11 (.pick (Zt 7) (Zt 10) (.c (.b false))),Zm 12 11,⟨(some 13), .mv (Zt 0), (some (12, true))⟩,⟨(some 14), .mkf 57 [(Zt 3)], (some (12, true))⟩,⟨(some 15), .call 56 [(Zt 13), (Zt 14)], (some (12, true))⟩,⟨(some 16), .un .not (Zt 15), (some (12, true))⟩,Zo 17 (.pick (Zt 12) (Zt 16) (.c (.b false))),Zm 4 17] []) .ret))
def V17 : List RV := [.t 4]
theorem m17 : mtcF Try.prog 17 2 A17 V17 = true := by kernel_rfl
def A75 : ACode := (.seq (.reg [Zo 6 (.mv (.c (.b false)))] []) (.seq (.reg [Zm 7 0,Zm 8 1,Zo 9 (.call 70 [(Zt 7), (Zt 8)]),Zm 10 9,⟨(some 11), .mv (Zt 2), (some (10, true))⟩,⟨(some 12), .mv (Zt 1), (some (10, true))⟩,⟨(some 13), .call 17 [(Zt 11), (Zt 12)], (some (10, true))⟩,Zo 14 (.pick (Zt 10) (Zt 13) (.c (.b false))),Zm 6 14] []) .ret))
def V75 : List RV := [.t 6]
theorem m75 : mtcF Try.prog 75 3 A75 V75 = true := by kernel_rfl
def A114 : ACode := (.seq (.reg [Zo 2 (.box 4 (Zt 0)),Zn 4 0] []) (.seq (.seq (.reg [Zm 5 1] []) (.blk 0 (.seq (.reg [Za 7 0 2,Zl 8 7,Zb 9 .eql 5 8,Zm 6 9] []) (.cond (Zt 6) (.seq (.reg [Za 10 1 2,Zl 11 10,Zm 4 11] []) .ret) (.seq (.reg [Za 13 1 2,Zl 14 13,Zb 15 .eql 5 14,Zm 12 15] []) (.cond (Zt 12) (.seq (.reg [Za 16 0 2,Zl 17 16,Zm 4 17] []) .ret) .skip)))))) (.seq (.reg [Zn 4 (-1)] []) .ret)))
def V114 : List RV := [.t 4]
theorem m114 : mtcF Try.prog 114 2 A114 V114 = true := by kernel_rfl
def A103R1 : ACode := (.cond (Zt 57) (.exit 1) .skip)
def A103L2 : ACode := (.seq (.reg [Zb 30 .lss 29 28] []) (.seq (.cond (Zt 30) .skip (.exit 0)) (.seq (.blk 1 (.seq (.reg [Zm 31 29,Zx 32 3 27 29,Zo 33 (.load 3 true (Zt 32)),Zo 17 (.alloc (.agg [.i 0, .i 0, .i 0])),Zm 16 31,⟨none, .store 3 (Zt 17) (Zt 33), none⟩] []) (.seq (.reg [Za 34 0 17,Zl 35 34,Za 36 1 17,Zl 37 36,Zo 38 (.build [.i 0, .i 0, .i 0, .i 0] [(0, 1, (Zt 35)), (1, 1, (Zt 37))]),Zm 39 2,Zo 40 (.call 114 [(Zt 38), (Zt 39)]),Zm 18 40] []) (.seq (.seqr (.reg [Zm 41 18,Zd 42 .lss 41 0,Zm 43 42,⟨(some 44), .mv (Zt 1), (some (43, false))⟩,⟨(some 45), .mv (Zt 16), (some (43, false))⟩,⟨(some 46), .idx 1 (Zt 44) (Zt 45), (some (43, false))⟩,⟨(some 47), .load 1 false (Zt 46), (some (43, false))⟩,⟨(some 48), .mv (Zt 4), (some (43, false))⟩,⟨(some 49), .bin .lss (Zt 47) (Zt 48), (some (43, false))⟩,Zo 50 (.pick (Zt 43) (.c (.b true)) (Zt 49)),Zm 51 50,⟨(some 52), .mv (Zt 6), (some (51, false))⟩,⟨(some 53), .mv (Zt 18), (some (51, false))⟩,⟨(some 54), .bin .shr (Zt 52) (Zt 53), (some (51, false))⟩,⟨(some 55), .bin .and (Zt 54) (.c (.i 1)), (some (51, false))⟩,⟨(some 56), .bin .eql (Zt 55) (.c (.i 1)), (some (51, false))⟩,Zo 57 (.pick (Zt 51) (.c (.b true)) (Zt 56))] []) [0, 1, 2, 3, 4, 5, 6, 16, 18, 27, 28, 29, 57] [] A103R1) (.seq (.reg [Zm 59 0,Zm 60 1,Zm 61 18,Zm 62 3,Zm 63 4,Zm 64 5,Zd 65 .sub 64 1,Zm 66 6,Zm 67 18,Zo 68 (.bin .shl (.c (.i 1)) (Zt 67)),Zb 69 .or 66 68,Zo 70 (.call 103 [(Zt 59), (Zt 60), (Zt 61), (Zt 62), (Zt 63), (Zt 65), (Zt 69)]),Zm 58 70,Ze 71 58 0,Ze 72 58 1,Zm 19 71,Zm 20 72] [19]) (.seq (.reg [Zm 73 20] []) (.cond (Zt 73) (.seq (.reg [Zm 74 16,Zo 75 (.bsl 1 false [(Zt 74)]),Zm 76 19,Zo 77 (.app 1 8 false (Zt 75) (Zt 76)),Zm 14 77,Zo 15 (.mv (.c (.b true)))] [14]) .ret) .skip))))))) (.reg [Zd 78 .add 29 1,Zm 29 78] []))))
def A103R3 : ACode := (.seq (.reg [Zo 14 (.mv (.c (.lst .u 1 []))),Zo 15 (.mv (.c (.b false)))] [14]) .ret)
def A103 : ACode := (.seq (.reg [Zo 14 (.mv (.c (.lst .u 1 []))),Zo 15 (.mv (.c (.b false)))] [14]) (.seq (.seq (.reg [Zm 21 2,Zm 22 3,Zb 23 .eql 21 22] []) (.cond (Zt 23) (.seq (.reg [Zo 24 (.bsl 1 false []),Zm 14 24,Zo 15 (.mv (.c (.b true)))] [14]) .ret) .skip)) (.seq (.seq (.reg [Zm 25 5,Zd 26 .eql 25 0] []) (.cond (Zt 26) (.seq (.reg [Zo 14 (.mv (.c (.lst .u 1 []))),Zo 15 (.mv (.c (.b false)))] [14]) .ret) .skip)) (.seqa (.reg [Zm 27 0,Zk 28 27,Zn 29 0] []) (.blk 0 (.loop A103L2)) [] [] A103R3))))
def V103 : List RV := [.t 14, .t 15]
theorem m103 : mtcF Try.prog 103 7 A103 V103 = true := by kernel_rfl
def A73L1 : ACode := (.seq (.seq (.reg [Zm 11 8,Zd 12 .lss 11 8] []) (.cond (Zt 12) .skip (.exit 0))) (.seq (.blk 1 (.seq (.drw [Zm 16 0,Zm 17 1,Za 18 0 5,Zl 19 18,Za 20 1 5,Zl 21 20,Za 22 2 5,Zl 23 22,Zm 24 8,Za 25 0 5,Zl 26 25,Zo 27 (.bin .shl (.c (.i 1)) (Zt 26)),Zo 28 (.call 103 [(Zt 16), (Zt 17), (Zt 19), (Zt 21), (Zt 23), (Zt 24), (Zt 27)]),Zm 15 28,Ze 29 15 0,Ze 30 15 1,Zm 9 29,Zm 10 30] [9]) (.seq (.reg [Zm 31 10] []) (.cond (Zt 31) (.seq (.reg [Zm 32 9,Zm 6 32,Zo 7 (.mv (.c (.b true)))] [6]) .ret) .skip)))) (.reg [Zm 13 8,Zd 14 .add 13 1,Zm 8 14] [])))
def A73R2 : ACode := (.seq (.reg [Zo 6 (.mv (.c (.lst .u 1 []))),Zo 7 (.mv (.c (.b false)))] [6]) .ret)
def A73 : ACode := (.seq (.reg [Zo 5 (.box 3 (Zt 2)),Zo 6 (.mv (.c (.lst .u 1 []))),Zo 7 (.mv (.c (.b false)))] [6]) (.seqa (.reg [Zn 8 1] []) (.blk 0 (.loop A73L1)) [] [] A73R2))
def V73 : List RV := [.t 6, .t 7]
theorem m73 : mtcF Try.prog 73 3 A73 V73 = true := by kernel_rfl
def A76L1 : ACode := (.seq (.reg [Zb 23 .lss 22 21] []) (.seq (.cond (Zt 23) .skip (.exit 0)) (.seq (.blk 1 (.seq (.reg [Zx 24 3 20 22,Zo 25 (.load 3 true (Zt 24)),Zo 11 (.alloc (.agg [.i 0, .i 0, .i 0])),⟨none, .store 3 (Zt 11) (Zt 25), none⟩] []) (.reg [Zm 26 8,Za 27 2 11,Zl 28 27,Zo 29 (.bsl 1 false [(Zt 28)]),Zo 30 (.app 1 8 true (Zt 26) (Zt 29)),Zm 8 30] [8]))) (.reg [Zd 31 .add 22 1,Zm 22 31] []))))
def A76L4 : ACode := (.seq (.reg [Zb 54 .lss 53 52] []) (.seq (.cond (Zt 54) .skip (.exit 4)) (.seq (.blk 5 (.seq (.reg [Zx 55 1 51 53,Zl 56 55,Zm 17 56] []) (.drw [Zm 57 8,Zm 58 17,Zx 59 1 57 58,Zl 60 59,Za 61 2 13,Zl 62 61,Zb 63 .sub 60 62,Zx 64 1 57 58,⟨none, .store 1 (Zt 64) (Zt 63), none⟩] []))) (.reg [Zd 65 .add 53 1,Zm 53 65] []))))
def A76R5 : ACode := (.reg [Zm 66 7,Zm 67 14,Zo 68 (.bsl 1 false [(Zt 67)]),Zo 69 (.app 1 24 true (Zt 66) (Zt 68)),Zm 7 69] [7])
def A76R3 : ACode := (.seqa (.reg [Zm 51 14,Zk 52 51,Zn 53 0] []) (.blk 4 (.loop A76L4)) [0, 7, 8, 9, 14, 32, 33, 34] [7, 8, 14] A76R5)
def A76L6 : ACode := (.seq (.reg [Zb 35 .lss 34 33] []) (.seq (.cond (Zt 35) .skip (.exit 2)) (.seq (.blk 3 (.seq (.reg [Zx 36 3 32 34,Zo 37 (.load 3 true (Zt 36)),Zo 13 (.alloc (.agg [.i 0, .i 0, .i 0])),⟨none, .store 3 (Zt 13) (Zt 37), none⟩] []) (.seq (.reg [Zm 39 0,Zm 40 8,Zo 41 (.load 3 true (Zt 13)),Zo 42 (.call 73 [(Zt 39), (Zt 40), (Zt 41)]),Zm 38 42,Ze 43 38 0,Ze 44 38 1,Zm 14 43,Zm 15 44] [14]) (.seqr (.seq (.reg [Zm 45 15,Zo 46 (.un .not (Zt 45))] []) (.cond (Zt 46) (.reg [Zm 47 9,Za 48 2 13,Zl 49 48,Zb 50 .add 47 49,Zm 9 50] []) .skip)) [0, 7, 8, 9, 13, 14, 32, 33, 34] [7, 8, 13, 14] A76R3)))) (.reg [Zd 70 .add 34 1,Zm 34 70] []))))
def A76R7 : ACode := (.seq (.reg [Zm 71 7,Zm 72 8,Zm 73 9,Zm 4 71,Zm 5 72,Zm 6 73] [4, 5]) .ret)
def A76R2 : ACode := (.seqa (.reg [Zm 32 1,Zk 33 32,Zn 34 0] []) (.blk 2 (.loop A76L6)) [7, 8, 9] [7, 8] A76R7)
def A76 : ACode := (.seq (.reg [Zo 4 (.mv (.c (.lst .u 1 []))),Zo 5 (.mv (.c (.lst .u 1 []))),Zn 6 0] [4, 5]) (.seq (.reg [Zo 18 (.bsl 1 false []),Zo 19 (.bsl 1 false []),Zm 7 18,Zm 8 19,Zn 9 0] [7, 8]) (.seqa (.reg [Zm 20 0,Zk 21 20,Zn 22 0] []) (.blk 0 (.loop A76L1)) [0, 1, 7, 8, 9] [7, 8] A76R2)))
def V76 : List RV := [.t 4, .t 5, .t 6]
theorem m76 : mtcF Try.prog 76 2 A76 V76 = true := by kernel_rfl
def A45 : ACode := (.seq (.reg [Zo 6 (.mv (.c (.lst .u 1 []))),Zo 7 (.mv (.c (.lst .u 1 []))),Zo 8 (.mv (.c (.b false)))] [6, 7]) (.seq (.seq (.reg [Zm 12 0,Zm 13 1,Zm 14 2,Zo 15 (.call 75 [(Zt 12), (Zt 13), (Zt 14)]),Zo 16 (.un .not (Zt 15))] []) (.cond (Zt 16) (.seq (.reg [Zo 6 (.mv (.c (.lst .u 1 []))),Zo 7 (.mv (.c (.lst .u 1 []))),Zo 8 (.mv (.c (.b false)))] [6, 7]) .ret) .skip)) (.seq (.reg [Zm 18 0,Zm 19 2,Zo 20 (.call 76 [(Zt 18), (Zt 19)]),Zm 17 20,Ze 21 17 0,Ze 22 17 1,Ze 23 17 2,Zm 9 21,Zm 10 22,Zm 11 23] [9, 10]) (.seq (.reg [Zm 24 9,Zm 25 10,Zm 6 24,Zm 7 25,Zo 8 (.mv (.c (.b true)))] [6, 7]) .ret))))
def V45 : List RV := [.t 6, .t 7, .t 8]
theorem m45 : mtcF Try.prog 45 3 A45 V45 = true := by kernel_rfl
def A67 : ACode := (.seq (.reg [Zo 6 (.mv (.c (.b false)))] []) (.seq (.reg [Zm 7 0,Zm 8 1,Zb 9 .geq 7 8,Zm 10 9,⟨(some 11), .mv (Zt 0), (some (10, true))⟩,⟨(some 12), .mv (Zt 2), (some (10, true))⟩,⟨(some 13), .bin .leq (Zt 11) (Zt 12), (some (10, true))⟩,Zo 14 (.pick (Zt 10) (Zt 13) (.c (.b false))),Zm 6 14] []) .ret))
def V67 : List RV := [.t 6]
theorem m67 : mtcF Try.prog 67 3 A67 V67 = true := by kernel_rfl
def A95 : ACode := (.seq (.reg [Zo 6 (.mv (.c (.b false)))] []) (.seq (.reg [Zm 7 0,Zm 8 2,Zd 9 .sub 8 1,Zo 10 (.call 67 [(Zt 7), (.c (.i 0)), (Zt 9)]),Zm 11 10,⟨(some 12), .mv (Zt 1), (some (11, true))⟩,⟨(some 13), .mv (Zt 2), (some (11, true))⟩,⟨(some 14), .bin .sub (Zt 13) (.c (.i 1)), (some (11, true))⟩,⟨(some 15), .call 67 [(Zt 12), (.c (.i 0)), (Zt 14)], (some (11, true))⟩,Zo 16 (.pick (Zt 11) (Zt 15) (.c (.b false))),Zm 17 16,⟨(some 18), .mv (Zt 0), (some (17, true))⟩,⟨(some 19), .mv (Zt 1), (some (17, true))⟩,⟨(some 20), .bin .neq (Zt 18) (Zt 19), (some (17, true))⟩,Zo 21 (.pick (Zt 17) (Zt 20) (.c (.b false))),Zm 6 21] []) .ret))
def V95 : List RV := [.t 6]
theorem m95 : mtcF Try.prog 95 3 A95 V95 = true := by kernel_rfl
def A66R1 : ACode := (.cond (Zt 13) .skip (.exit 0))
def A66R2 : ACode := (.cond (Zt 37) (.seq (.reg [Zo 4 (.mv (.c (.b false)))] []) .ret) .skip)
def A66L3 : ACode := (.seq (.seqr (.reg [Zm 6 5,Zm 7 0,Zk 8 7,Zb 9 .lss 6 8,Zm 10 9,⟨(some 11), .mv (Zt 5), (some (10, true))⟩,⟨(some 12), .bin .leq (Zt 11) (.c (.i 12)), (some (10, true))⟩,Zo 13 (.pick (Zt 10) (Zt 12) (.c (.b false)))] []) [0, 1, 5, 13] [] A66R1) (.seq (.blk 1 (.seqr (.drw [Zm 16 0,Zm 17 5,Zx 18 3 16 17,Za 19 0 18,Zl 20 19,Zm 21 0,Zm 22 5,Zx 23 3 21 22,Za 24 1 23,Zl 25 24,Zm 26 1,Zo 27 (.call 95 [(Zt 20), (Zt 25), (Zt 26)]),Zo 28 (.un .not (Zt 27)),Zm 29 28,⟨(some 30), .mv (Zt 0), (some (29, false))⟩,⟨(some 31), .mv (Zt 5), (some (29, false))⟩,⟨(some 32), .idx 3 (Zt 30) (Zt 31), (some (29, false))⟩,⟨(some 33), .fad 2 (Zt 32), (some (29, false))⟩,⟨(some 34), .load 1 false (Zt 33), (some (29, false))⟩,⟨(some 35), .call 67 [(Zt 34), (.c (.i 0)), (.c (.i 10000))], (some (29, false))⟩,⟨(some 36), .un .not (Zt 35), (some (29, false))⟩,Zo 37 (.pick (Zt 29) (.c (.b true)) (Zt 36))] []) [0, 1, 5, 37] [] A66R2)) (.reg [Zm 14 5,Zd 15 .add 14 1,Zm 5 15] [])))
def A66R4 : ACode := (.seq (.reg [Zm 38 1,Zo 39 (.call 67 [(Zt 38), (.c (.i 2)), (.c (.i 8))]),Zm 40 39,⟨(some 41), .mv (Zt 0), (some (40, true))⟩,⟨(some 42), .len (Zt 41), (some (40, true))⟩,⟨(some 43), .bin .leq (Zt 42) (.c (.i 12)), (some (40, true))⟩,Zo 44 (.pick (Zt 40) (Zt 43) (.c (.b false))),Zm 4 44] []) .ret)
def A66 : ACode := (.seq (.reg [Zo 4 (.mv (.c (.b false)))] []) (.seqa (.reg [Zn 5 0] []) (.blk 0 (.loop A66L3)) [0, 1] [] A66R4))
def V66 : List RV := [.t 4]
theorem m66 : mtcF Try.prog 66 2 A66 V66 = true := by kernel_rfl
def A54R1 : ACode := (.cond (Zt 13) .skip (.exit 0))
def A54R2 : ACode := (.cond (Zt 37) (.seq (.reg [Zo 4 (.mv (.c (.b false)))] []) .ret) .skip)
def A54L3 : ACode := (.seq (.seqr (.reg [Zm 6 5,Zm 7 0,Zk 8 7,Zb 9 .lss 6 8,Zm 10 9,⟨(some 11), .mv (Zt 5), (some (10, true))⟩,⟨(some 12), .bin .leq (Zt 11) (.c (.i 12)), (some (10, true))⟩,Zo 13 (.pick (Zt 10) (Zt 12) (.c (.b false)))] []) [0, 1, 5, 13] [] A54R1) (.seq (.blk 1 (.seqr (.drw [Zm 16 0,Zm 17 5,Zx 18 3 16 17,Za 19 0 18,Zl 20 19,Zm 21 0,Zm 22 5,Zx 23 3 21 22,Za 24 1 23,Zl 25 24,Zm 26 1,Zo 27 (.call 95 [(Zt 20), (Zt 25), (Zt 26)]),Zo 28 (.un .not (Zt 27)),Zm 29 28,⟨(some 30), .mv (Zt 0), (some (29, false))⟩,⟨(some 31), .mv (Zt 5), (some (29, false))⟩,⟨(some 32), .idx 3 (Zt 30) (Zt 31), (some (29, false))⟩,⟨(some 33), .fad 2 (Zt 32), (some (29, false))⟩,⟨(some 34), .load 1 false (Zt 33), (some (29, false))⟩,⟨(some 35), .call 67 [(Zt 34), (.c (.i 1)), (.c (.i 1000))], (some (29, false))⟩,⟨(some 36), .un .not (Zt 35), (some (29, false))⟩,Zo 37 (.pick (Zt 29) (.c (.b true)) (Zt 36))] []) [0, 1, 5, 37] [] A54R2)) (.reg [Zm 14 5,Zd 15 .add 14 1,Zm 5 15] [])))
def A54R4 : ACode := (.seq (.reg [Zm 38 1,Zo 39 (.call 67 [(Zt 38), (.c (.i 2)), (.c (.i 8))]),Zm 40 39,⟨(some 41), .mv (Zt 0), (some (40, true))⟩,⟨(some 42), .len (Zt 41), (some (40, true))⟩,⟨(some 43), .bin .leq (Zt 42) (.c (.i 12)), (some (40, true))⟩,Zo 44 (.pick (Zt 40) (Zt 43) (.c (.b false))),Zm 4 44] []) .ret)
def A54 : ACode := (.seq (.reg [Zo 4 (.mv (.c (.b false)))] []) (.seqa (.reg [Zn 5 0] []) (.blk 0 (.loop A54L3)) [0, 1] [] A54R4))
def V54 : List RV := [.t 4]
theorem m54 : mtcF Try.prog 54 2 A54 V54 = true := by kernel_rfl
def A79L1 : ACode := (.seq (.seq (.reg [Zm 6 5,Zm 7 0,Zk 8 7,Zb 9 .lss 6 8] []) (.cond (Zt 9) .skip (.exit 0))) (.seq (.blk 1 (.seq (.reg [Zm 12 0,Zm 13 5,Zx 14 1 12 13,Zl 15 14,Zm 16 1,Zb 17 .eql 15 16] []) (.cond (Zt 17) (.seq (.reg [Zo 4 (.mv (.c (.b true)))] []) .ret) .skip))) (.reg [Zm 10 5,Zd 11 .add 10 1,Zm 5 11] [])))
def A79R2 : ACode := (.seq (.reg [Zo 4 (.mv (.c (.b false)))] []) .ret)
def A79 : ACode := (.seq (.reg [Zo 4 (.mv (.c (.b false)))] []) (.seqa (.reg [Zn 5 0] []) (.blk 0 (.loop A79L1)) [] [] A79R2))
def V79 : List RV := [.t 4]
theorem m79 : mtcF Try.prog 79 2 A79 V79 = true := by kernel_rfl
def A112 : ACode := (.seq (.reg [Zo 2 (.mv (.c (.lst .u 1 [])))] [2]) (.seq (.reg [Zo 3 (.bsl 1 false []),Zm 4 0,Zo 5 (.app 1 8 false (Zt 3) (Zt 4)),Zm 2 5] [2]) .ret))
def V112 : List RV := [.t 2]
theorem m112 : mtcF Try.prog 112 1 A112 V112 = true := by kernel_rfl
def A100R1 : ACode := (.cond (Zt 25) .skip (.exit 0))
def A100R4 : ACode := (.cond (Zt 66) (.exit 1) .skip)
def A100R3 : ACode := (.seq (.seqr (.reg [Zm 52 16,Zd 53 .lss 52 0,Zm 54 53,⟨(some 55), .mv (Zt 1), (some (54, false))⟩,⟨(some 56), .mv (Zt 15), (some (54, false))⟩,⟨(some 57), .idx 1 (Zt 55) (Zt 56), (some (54, false))⟩,⟨(some 58), .load 1 false (Zt 57), (some (54, false))⟩,⟨(some 59), .mv (Zt 4), (some (54, false))⟩,⟨(some 60), .bin .lss (Zt 58) (Zt 59), (some (54, false))⟩,Zo 61 (.pick (Zt 54) (.c (.b true)) (Zt 60)),Zm 62 61,⟨(some 63), .mv (Zt 6), (some (62, false))⟩,⟨(some 64), .mv (Zt 16), (some (62, false))⟩,⟨(some 65), .call 79 [(Zt 63), (Zt 64)], (some (62, false))⟩,Zo 66 (.pick (Zt 62) (.c (.b true)) (Zt 65))] []) [0, 1, 2, 3, 4, 5, 6, 15, 16, 66] [] A100R4) (.seq (.seq (.reg [Zm 67 16,Zm 68 3,Zb 69 .eql 67 68] []) (.cond (Zt 69) (.seq (.seq (.reg [Zm 70 5,Zd 71 .eql 70 1] []) (.cond (Zt 71) (.seq (.reg [Zm 72 15,Zo 73 (.bsl 1 false [(Zt 72)]),Zm 14 73] [14]) .ret) .skip)) (.exit 1)) .skip)) (.seq (.reg [Zm 74 0,Zm 75 1,Zm 76 16,Zm 77 3,Zm 78 4,Zm 79 5,Zd 80 .sub 79 1,Zm 81 6,Zo 82 (.call 112 [(Zt 81)]),Zm 83 16,Zo 84 (.bsl 1 false [(Zt 83)]),Zo 85 (.app 1 8 true (Zt 82) (Zt 84)),Zo 86 (.call 100 [(Zt 74), (Zt 75), (Zt 76), (Zt 77), (Zt 78), (Zt 80), (Zt 85)]),Zm 17 86] [17]) (.seq (.reg [Zm 87 17,Zk 88 87,Zd 89 .gtr 88 0] []) (.cond (Zt 89) (.seq (.reg [Zm 90 15,Zo 91 (.bsl 1 false [(Zt 90)]),Zm 92 17,Zo 93 (.app 1 8 false (Zt 91) (Zt 92)),Zm 14 93] [14]) .ret) .skip)))))
def A100R2 : ACode := (.seqr (.seq (.reg [Zm 40 0,Zm 41 15,Zx 42 3 40 41,Za 43 1 42,Zl 44 43,Zm 45 2,Zb 46 .eql 44 45] []) (.cond (Zt 46) (.reg [Zm 47 0,Zm 48 15,Zx 49 3 47 48,Za 50 0 49,Zl 51 50,Zm 16 51] []) .skip)) [0, 1, 2, 3, 4, 5, 6, 15, 16] [] A100R3)
def A100L5 : ACode := (.seq (.seqr (.reg [Zm 18 15,Zm 19 0,Zk 20 19,Zb 21 .lss 18 20,Zm 22 21,⟨(some 23), .mv (Zt 5), (some (22, true))⟩,⟨(some 24), .bin .gtr (Zt 23) (.c (.i 0)), (some (22, true))⟩,Zo 25 (.pick (Zt 22) (Zt 24) (.c (.b false)))] []) [0, 1, 2, 3, 4, 5, 6, 15, 25] [] A100R1) (.seq (.blk 1 (.seq (.reg [Zn 16 (-1)] []) (.seqr (.seq (.reg [Zm 28 0,Zm 29 15,Zx 30 3 28 29,Za 31 0 30,Zl 32 31,Zm 33 2,Zb 34 .eql 32 33] []) (.cond (Zt 34) (.reg [Zm 35 0,Zm 36 15,Zx 37 3 35 36,Za 38 1 37,Zl 39 38,Zm 16 39] []) .skip)) [0, 1, 2, 3, 4, 5, 6, 15, 16] [] A100R2))) (.reg [Zm 26 15,Zd 27 .add 26 1,Zm 15 27] [])))
def A100R6 : ACode := (.seq (.reg [Zo 94 (.bsl 1 false []),Zm 14 94] [14]) .ret)
def A100 : ACode := (.seq (.reg [Zo 14 (.mv (.c (.lst .u 1 [])))] [14]) (.seqa (.reg [Zn 15 0] []) (.blk 0 (.loop A100L5)) [] [] A100R6))
def V100 : List RV := [.t 14]
theorem m100 : mtcF Try.prog 100 7 A100 V100 = true := by kernel_rfl
def A68L1 : ACode := (.seq (.seq (.reg [Zm 9 7,Zd 10 .lss 9 8] []) (.cond (Zt 10) .skip (.exit 0))) (.seq (.blk 1 (.seq (.reg [Zm 13 0,Zm 14 1,Za 15 0 5,Zl 16 15,Za 17 1 5,Zl 18 17,Za 19 2 5,Zl 20 19,Zm 21 7,Za 22 0 5,Zl 23 22,Zo 24 (.bsl 1 false [(Zt 23)]),Zo 25 (.call 100 [(Zt 13), (Zt 14), (Zt 16), (Zt 18), (Zt 20), (Zt 21), (Zt 24)]),Zm 8 25] [8]) (.seq (.reg [Zm 26 8,Zk 27 26,Zd 28 .gtr 27 0] []) (.cond (Zt 28) (.seq (.reg [Zm 29 8,Zm 6 29] [6]) .ret) .skip)))) (.reg [Zm 11 7,Zd 12 .add 11 1,Zm 7 12] [])))
def A68R2 : ACode := (.seq (.reg [Zo 30 (.bsl 1 false []),Zm 6 30] [6]) .ret)
def A68 : ACode := (.seq (.reg [Zo 5 (.box 3 (Zt 2)),Zo 6 (.mv (.c (.lst .u 1 [])))] [6]) (.seqa (.reg [Zn 7 1] []) (.blk 0 (.loop A68L1)) [] [] A68R2))
def V68 : List RV := [.t 6]
theorem m68 : mtcF Try.prog 68 3 A68 V68 = true := by kernel_rfl
def A46R1 : ACode := (.cond (Zt 26) (.seq (.reg [Zm 27 9,Zm 28 10,Zm 6 27,Zm 7 28,Zo 8 (.mv (.c (.b false)))] [6, 7]) .ret) .skip)
def A46L2 : ACode := (.seq (.seq (.reg [Zm 29 11,Zm 30 0,Zk 31 30,Zb 32 .lss 29 31] []) (.cond (Zt 32) .skip (.exit 0))) (.seq (.blk 1 (.reg [Zm 35 10,Zm 36 0,Zm 37 11,Zx 38 3 36 37,Za 39 2 38,Zl 40 39,Zo 41 (.bsl 1 false [(Zt 40)]),Zo 42 (.app 1 8 true (Zt 35) (Zt 41)),Zm 10 42] [10])) (.reg [Zm 33 11,Zd 34 .add 33 1,Zm 11 34] [])))
def A46L4 : ACode := (.seq (.seq (.reg [Zm 56 14,Zm 57 13,Zk 58 57,Zb 59 .lss 56 58] []) (.cond (Zt 59) .skip (.exit 4))) (.seq (.blk 5 (.drw [Zm 62 10,Zm 63 13,Zm 64 14,Zx 65 1 63 64,Zl 66 65,Zm 67 10,Zm 68 13,Zm 69 14,Zx 70 1 68 69,Zl 71 70,Zx 72 1 67 71,Zl 73 72,Zm 74 2,Zm 75 12,Zx 76 3 74 75,Za 77 2 76,Zl 78 77,Zb 79 .sub 73 78,Zx 80 1 62 66,⟨none, .store 1 (Zt 80) (Zt 79), none⟩] [])) (.reg [Zm 60 14,Zd 61 .add 60 1,Zm 14 61] [])))
def A46R5 : ACode := (.reg [Zm 81 9,Zm 82 13,Zo 83 (.bsl 1 false [(Zt 82)]),Zo 84 (.app 1 24 true (Zt 81) (Zt 83)),Zm 9 84] [9])
def A46L6 : ACode := (.seq (.seq (.reg [Zm 43 12,Zm 44 2,Zk 45 44,Zb 46 .lss 43 45] []) (.cond (Zt 46) .skip (.exit 2))) (.seq (.blk 3 (.seq (.reg [Zm 49 0,Zm 50 10,Zm 51 2,Zm 52 12,Zx 53 3 51 52,Zo 54 (.load 3 true (Zt 53)),Zo 55 (.call 68 [(Zt 49), (Zt 50), (Zt 54)]),Zm 13 55] [13]) (.seqa (.reg [Zn 14 0] []) (.blk 4 (.loop A46L4)) [0, 2, 9, 10, 12, 13] [9, 10, 13] A46R5))) (.reg [Zm 47 12,Zd 48 .add 47 1,Zm 12 48] [])))
def A46R7 : ACode := (.seq (.reg [Zm 85 9,Zm 86 10,Zm 6 85,Zm 7 86,Zo 8 (.mv (.c (.b true)))] [6, 7]) .ret)
def A46R3 : ACode := (.seqa (.reg [Zn 12 0] []) (.blk 2 (.loop A46L6)) [9, 10] [9, 10] A46R7)
def A46 : ACode := (.seq (.reg [Zo 6 (.mv (.c (.lst .u 1 []))),Zo 7 (.mv (.c (.lst .u 1 []))),Zo 8 (.mv (.c (.b false)))] [6, 7]) (.seq (.reg [Zo 15 (.bsl 1 false []),Zm 9 15] [9]) (.seq (.reg [Zo 16 (.bsl 1 false []),Zm 10 16] [10]) (.seq (.seqr (.reg [Zm 17 0,Zm 18 1,Zo 19 (.call 66 [(Zt 17), (Zt 18)]),Zo 20 (.un .not (Zt 19)),Zm 21 20,⟨(some 22), .mv (Zt 2), (some (21, false))⟩,⟨(some 23), .mv (Zt 1), (some (21, false))⟩,⟨(some 24), .call 54 [(Zt 22), (Zt 23)], (some (21, false))⟩,⟨(some 25), .un .not (Zt 24), (some (21, false))⟩,Zo 26 (.pick (Zt 21) (.c (.b true)) (Zt 25))] []) [0, 2, 9, 10, 26] [9, 10] A46R1) (.seqa (.reg [Zn 11 0] []) (.blk 0 (.loop A46L2)) [0, 2, 9, 10] [9, 10] A46R3)))))
def V46 : List RV := [.t 6, .t 7, .t 8]
theorem m46 : mtcF Try.prog 46 3 A46 V46 = true := by kernel_rfl
def A47L1 : ACode := (.seq (.seq (.reg [Zm 11 5,Zm 12 0,Zk 13 12,Zb 14 .lss 11 13] []) (.cond (Zt 14) .skip (.exit 0))) (.seq (.blk 1 (.seq (.drw [Zm 17 0,Zm 18 5,Zx 19 1 17 18,Zl 20 19,Zm 21 1,Zm 22 5,Zx 23 1 21 22,Zl 24 23,Zb 25 .neq 20 24] []) (.cond (Zt 25) (.seq (.reg [Zo 4 (.mv (.c (.b false)))] []) .ret) .skip))) (.reg [Zm 15 5,Zd 16 .add 15 1,Zm 5 16] [])))
def A47R2 : ACode := (.seq (.reg [Zo 4 (.mv (.c (.b true)))] []) .ret)
def A47 : ACode := (.seq (.reg [Zo 4 (.mv (.c (.b false)))] []) (.seq (.seq (.reg [Zm 6 0,Zk 7 6,Zm 8 1,Zk 9 8,Zb 10 .neq 7 9] []) (.cond (Zt 10) (.seq (.reg [Zo 4 (.mv (.c (.b false)))] []) .ret) .skip)) (.seqa (.reg [Zn 5 0] []) (.blk 0 (.loop A47L1)) [] [] A47R2)))
def V47 : List RV := [.t 4]
theorem m47 : mtcF Try.prog 47 2 A47 V47 = true := by kernel_rfl
def A106L1 : ACode := (.seq (.reg [Zb 9 .lss 8 7] []) (.seq (.cond (Zt 9) .skip (.exit 0)) (.seq (.blk 1 (.seq (.reg [Zm 10 8,Zm 5 10] []) (.seq (.reg [Zm 11 1,Zm 12 0,Zm 13 5,Zx 14 1 12 13,Zl 15 14,Zb 16 .eql 11 15] []) (.cond (Zt 16) (.seq (.reg [Zm 17 5,Zm 4 17] []) .ret) .skip)))) (.reg [Zd 18 .add 8 1,Zm 8 18] []))))
def A106R2 : ACode := (.seq (.reg [Zn 4 (-1)] []) .ret)
def A106 : ACode := (.seq (.reg [Zn 4 0] []) (.seqa (.reg [Zm 6 0,Zk 7 6,Zn 8 0] []) (.blk 0 (.loop A106L1)) [] [] A106R2))
def V106 : List RV := [.t 4]
theorem m106 : mtcF Try.prog 106 2 A106 V106 = true := by kernel_rfl
def A80 : ACode := (.seq (.reg [Zo 4 (.mv (.c (.b false)))] []) (.seq (.reg [Zm 5 0,Zm 6 1,Zo 7 (.call 106 [(Zt 5), (Zt 6)]),Zd 8 .geq 7 0,Zm 4 8] []) .ret))
def V80 : List RV := [.t 4]
theorem m80 : mtcF Try.prog 80 2 A80 V80 = true := by kernel_rfl
def A39R1 : ACode := (.cond (Zt 26) (.seq (.reg [Zo 8 (.mv (.c (.lst .u 1 []))),Zo 9 (.mv (.c (.b false)))] [8]) .ret) .skip)
def A39R2 : ACode := (.cond (Zt 56) (.seq (.reg [Zo 8 (.mv (.c (.lst .u 1 []))),Zo 9 (.mv (.c (.b false)))] [8]) .ret) .skip)
def A39L3 : ACode := (.seq (.reg [Zb 40 .lss 39 38] []) (.seq (.cond (Zt 40) .skip (.exit 2)) (.seq (.blk 3 (.seq (.reg [Zm 41 39,Zx 42 1 37 39,Zl 43 42,Zm 13 41,Zm 14 43] []) (.seq (.seqr (.reg [Zm 44 14,Zm 45 0,Zk 46 45,Zd 47 .sub 46 1,Zo 48 (.call 55 [(Zt 44), (.c (.i 0)), (Zt 47)]),Zo 49 (.un .not (Zt 48)),Zm 50 49,⟨(some 51), .mv (Zt 12), (some (50, false))⟩,⟨(some 52), .mv (Zt 13), (some (50, false))⟩,⟨(some 53), .slc 1 (Zt 51) none (some (Zt 52)) none, (some (50, false))⟩,⟨(some 54), .mv (Zt 14), (some (50, false))⟩,⟨(some 55), .call 80 [(Zt 53), (Zt 54)], (some (50, false))⟩,Zo 56 (.pick (Zt 50) (.c (.b true)) (Zt 55))] []) [0, 2, 10, 11, 12, 14, 30, 31, 32, 37, 38, 39, 56] [10] A39R2) (.drw [Zm 57 10,Zm 58 14,Zx 59 1 57 58,Zl 60 59,Zm 61 2,Zm 62 11,Zx 63 3 61 62,Za 64 2 63,Zl 65 64,Zb 66 .add 60 65,Zx 67 1 57 58,⟨none, .store 1 (Zt 67) (Zt 66), none⟩] [])))) (.reg [Zd 68 .add 39 1,Zm 39 68] []))))
def A39R4 : ACode := (.reg [Zd 69 .add 32 1,Zm 32 69] [])
def A39L5 : ACode := (.seq (.reg [Zb 33 .lss 32 31] []) (.seq (.cond (Zt 33) .skip (.exit 0)) (.seqr (.blk 1 (.seq (.reg [Zm 34 32,Zx 35 1 30 32,Zl 36 35,Zm 11 34,Zm 12 36] [12]) (.seq (.reg [Zm 37 12,Zk 38 37,Zn 39 0] []) (.blk 2 (.loop A39L3))))) [0, 2, 10, 30, 31, 32] [10] A39R4)))
def A39R6 : ACode := (.seq (.reg [Zm 70 10,Zm 8 70,Zo 9 (.mv (.c (.b true)))] [8]) .ret)
def A39 : ACode := (.seq (.reg [Zo 8 (.mv (.c (.lst .u 1 []))),Zo 9 (.mv (.c (.b false)))] [8]) (.seq (.seqr (.reg [Zm 15 0,Zm 16 1,Zm 17 2,Zo 18 (.call 75 [(Zt 15), (Zt 16), (Zt 17)]),Zo 19 (.un .not (Zt 18)),Zm 20 19,⟨(some 21), .mv (Zt 3), (some (20, false))⟩,⟨(some 22), .len (Zt 21), (some (20, false))⟩,⟨(some 23), .mv (Zt 2), (some (20, false))⟩,⟨(some 24), .len (Zt 23), (some (20, false))⟩,⟨(some 25), .bin .neq (Zt 22) (Zt 24), (some (20, false))⟩,Zo 26 (.pick (Zt 20) (.c (.b true)) (Zt 25))] []) [0, 2, 3, 26] [] A39R1) (.seq (.reg [Zm 27 0,Zk 28 27,Zo 29 (.mks 1 (.i 0) 8 (Zt 28) (Zt 28)),Zm 10 29] [10]) (.seqa (.reg [Zm 30 3,Zk 31 30,Zn 32 0] []) (.blk 0 (.loop A39L5)) [10] [10] A39R6))))
def V39 : List RV := [.t 8, .t 9]
theorem m39 : mtcF Try.prog 39 4 A39 V39 = true := by kernel_rfl
def A98L1 : ACode := (.seq (.reg [Zb 9 .lss 8 7] []) (.seq (.cond (Zt 9) .skip (.exit 0)) (.seq (.blk 1 (.seq (.reg [Zm 10 8,Zm 5 10] []) (.seq (.reg [Zm 11 1,Zm 12 0,Zm 13 5,Zx 14 1 12 13,Zl 15 14,Zo 16 (.dyn (Zt 11) [(Zt 15)])] []) (.cond (Zt 16) (.seq (.reg [Zm 17 5,Zm 4 17] []) .ret) .skip)))) (.reg [Zd 18 .add 8 1,Zm 8 18] []))))
def A98R2 : ACode := (.seq (.reg [Zn 4 (-1)] []) .ret)
def A98 : ACode := (.seq (.reg [Zn 4 0] []) (.seqa (.reg [Zm 6 0,Zk 7 6,Zn 8 0] []) (.blk 0 (.loop A98L1)) [] [] A98R2))
def V98 : List RV := [.t 4]
theorem m98 : mtcF Try.prog 98 2 A98 V98 = true := by kernel_rfl
def A71 : ACode := (.seq (.reg [Zo 4 (.mv (.c (.b false)))] []) (.seq (.reg [Zm 5 0,Zm 6 1,Zo 7 (.call 98 [(Zt 5), (Zt 6)]),Zd 8 .geq 7 0,Zm 4 8] []) .ret))
def V71 : List RV := [.t 4]
theorem m71 : mtcF Try.prog 71 2 A71 V71 = true := by kernel_rfl
def A72 : ACode := (.seq (.reg [Zo 2 (.mv (.c (.b false)))] []) (.seq (.reg [Zm 3 0,Zo 4 (.call 55 [(Zt 3), (.c (.i 0)), (.c (.i 10000))]),Zo 5 (.un .not (Zt 4)),Zm 2 5] []) .ret))
def V72 : List RV := [.t 2]
theorem m72 : mtcF Try.prog 72 1 A72 V72 = true := by kernel_rfl
def A29R1 : ACode := (.cond (Zt 34) (.seq (.reg [Zo 8 (.mv (.c (.lst .u 1 []))),Zo 9 (.mv (.c (.b false))),Zo 10 (.mv (.c (.b false)))] [8]) .ret) .skip)
def A29 : ACode := (.seq (.reg [Zo 7 (.box 3 (Zt 3)),Zo 8 (.mv (.c (.lst .u 1 []))),Zo 9 (.mv (.c (.b false))),Zo 10 (.mv (.c (.b false)))] [8]) (.seq (.seqr (.reg [Zm 13 0,Zm 14 2,Zo 15 (.call 70 [(Zt 13), (Zt 14)]),Zo 16 (.un .not (Zt 15)),Zm 17 16,⟨(some 18), .load 3 true (Zt 7), (some (17, false))⟩,⟨(some 19), .bsl 3 false [(Zt 18)], (some (17, false))⟩,⟨(some 20), .mv (Zt 2), (some (17, false))⟩,⟨(some 21), .call 17 [(Zt 19), (Zt 20)], (some (17, false))⟩,⟨(some 22), .un .not (Zt 21), (some (17, false))⟩,Zo 23 (.pick (Zt 17) (.c (.b true)) (Zt 22)),Zm 24 23,⟨(some 25), .mv (Zt 1), (some (24, false))⟩,⟨(some 26), .len (Zt 25), (some (24, false))⟩,⟨(some 27), .mv (Zt 0), (some (24, false))⟩,⟨(some 28), .len (Zt 27), (some (24, false))⟩,⟨(some 29), .bin .neq (Zt 26) (Zt 28), (some (24, false))⟩,Zo 30 (.pick (Zt 24) (.c (.b true)) (Zt 29)),Zm 31 30,⟨(some 32), .mv (Zt 1), (some (31, false))⟩,⟨(some 33), .call 71 [(Zt 32), (.c (.fn 72 []))], (some (31, false))⟩,Zo 34 (.pick (Zt 31) (.c (.b true)) (Zt 33))] []) [0, 1, 7, 34] [7] A29R1) (.seq (.reg [Zm 36 0,Zm 37 1,Zo 38 (.load 3 true (Zt 7)),Zo 39 (.call 73 [(Zt 36), (Zt 37), (Zt 38)]),Zm 35 39,Ze 40 35 0,Ze 41 35 1,Zm 11 40,Zm 12 41] [11]) (.seq (.reg [Zm 42 11,Zm 43 12,Zm 8 42,Zm 9 43,Zo 10 (.mv (.c (.b true)))] [8]) .ret))))
def V29 : List RV := [.t 8, .t 9, .t 10]
theorem m29 : mtcF Try.prog 29 4 A29 V29 = true := by kernel_rfl
def A33 : ACode := (.seq (.reg [Zn 6 0,Zo 7 (.mv (.c (.b false)))] []) (.seq (.seq (.reg [Zm 11 0,Zm 12 1,Zm 13 2,Zo 14 (.call 75 [(Zt 11), (Zt 12), (Zt 13)]),Zo 15 (.un .not (Zt 14))] []) (.cond (Zt 15) (.seq (.reg [Zn 6 0,Zo 7 (.mv (.c (.b false)))] []) .ret) .skip)) (.seq (.reg [Zm 17 0,Zm 18 2,Zo 19 (.call 76 [(Zt 17), (Zt 18)]),Zm 16 19,Ze 20 16 0,Ze 21 16 1,Ze 22 16 2,Zm 8 20,Zm 9 21,Zm 10 22] [8, 9]) (.seq (.reg [Zm 23 10,Zm 6 23,Zo 7 (.mv (.c (.b true)))] []) .ret))))
def V33 : List RV := [.t 6, .t 7]
theorem m33 : mtcF Try.prog 33 3 A33 V33 = true := by kernel_rfl
def A9R2 : ACode := .ret
def A9R1 : ACode := (.cond (Zt 58) (.seqr (.reg [Zm 59 8,Zm 60 11,Zo 61 (.beq false (Zt 59) (Zt 60)),Zm 62 61,⟨(some 63), .mv (Zt 7), (some (62, true))⟩,⟨(some 64), .mv (Zt 10), (some (62, true))⟩,⟨(some 65), .call 47 [(Zt 63), (Zt 64)], (some (62, true))⟩,Zo 66 (.pick (Zt 62) (Zt 65) (.c (.b false))),Zm 2 66] []) [2] [] A9R2) .skip)
def A9R3 : ACode := (.cond (Zt 97) (.seq (.reg [Zo 2 (.mv (.c (.b false)))] []) .ret) .skip)
def A9R4 : ACode := (.cond (Zt 125) (.seq (.reg [Zo 2 (.mv (.c (.b false)))] []) .ret) .skip)
def A9L5 : ACode := (.seq (.seq (.reg [Zm 98 14,Zm 99 3,Zk 100 99,Zb 101 .lss 98 100] []) (.cond (Zt 101) .skip (.exit 0))) (.seq (.blk 1 (.seqr (.drw [Zm 104 12,Zm 105 14,Zx 106 1 104 105,Zl 107 106,Zm 108 7,Zm 109 14,Zx 110 1 108 109,Zl 111 110,Zb 112 .add 107 111,Zm 113 3,Zm 114 14,Zx 115 3 113 114,Za 116 2 115,Zl 117 116,Zb 118 .neq 112 117,Zm 119 118,⟨(some 120), .mv (Zt 7), (some (119, false))⟩,⟨(some 121), .mv (Zt 14), (some (119, false))⟩,⟨(some 122), .idx 1 (Zt 120) (Zt 121), (some (119, false))⟩,⟨(some 123), .load 1 false (Zt 122), (some (119, false))⟩,⟨(some 124), .bin .lss (Zt 123) (.c (.i 0)), (some (119, false))⟩,Zo 125 (.pick (Zt 119) (.c (.b true)) (Zt 124))] []) [3, 4, 5, 6, 7, 12, 14, 125] [3, 5, 6, 7, 12] A9R4)) (.reg [Zm 102 14,Zd 103 .add 102 1,Zm 14 103] [])))
def A9R7 : ACode := (.cond (Zt 161) (.seq (.reg [Zo 2 (.mv (.c (.b false)))] []) .ret) .skip)
def A9L8 : ACode := (.seq (.seq (.reg [Zm 126 16,Zm 127 5,Zk 128 127,Zb 129 .lss 126 128] []) (.cond (Zt 129) .skip (.exit 2))) (.seq (.blk 3 (.seq (.reg [Zm 132 6,Zm 133 16,Zx 134 1 132 133,Zl 135 134,Zk 136 135,Zd 137 .eql 136 0] []) (.cond (Zt 137) (.seq (.reg [Zm 138 15,Zm 139 5,Zm 140 16,Zx 141 3 139 140,Za 142 2 141,Zl 143 142,Zb 144 .add 138 143,Zm 15 144] []) (.seq (.reg [Zm 146 3,Zm 147 7,Zm 148 4,Zm 149 5,Zm 150 16,Zx 151 3 149 150,Zo 152 (.load 3 true (Zt 151)),Zo 153 (.call 29 [(Zt 146), (Zt 147), (Zt 148), (Zt 152)]),Zm 145 153,Ze 154 145 0,Ze 155 145 1,Ze 156 145 2,Zm 17 154,Zm 18 155,Zm 19 156] [17]) (.seqr (.reg [Zm 157 18,Zm 158 157,⟨(some 159), .mv (Zt 19), (some (158, false))⟩,⟨(some 160), .un .not (Zt 159), (some (158, false))⟩,Zo 161 (.pick (Zt 158) (.c (.b true)) (Zt 160))] []) [3, 4, 5, 6, 7, 15, 16, 161] [3, 5, 6, 7] A9R7))) .skip))) (.reg [Zm 130 16,Zd 131 .add 130 1,Zm 16 131] [])))
def A9R9 : ACode := (.seq (.reg [Zm 163 3,Zm 164 4,Zm 165 5,Zo 166 (.call 33 [(Zt 163), (Zt 164), (Zt 165)]),Zm 162 166,Ze 167 162 0,Ze 168 162 1,Zm 20 167,Zm 21 168] []) (.seq (.reg [Zm 169 21,Zm 170 169,⟨(some 171), .mv (Zt 20), (some (170, true))⟩,⟨(some 172), .mv (Zt 15), (some (170, true))⟩,⟨(some 173), .bin .eql (Zt 171) (Zt 172), (some (170, true))⟩,Zo 174 (.pick (Zt 170) (Zt 173) (.c (.b false))),Zm 2 174] []) .ret))
def A9R6 : ACode := (.seq (.reg [Zn 15 0] []) (.seqa (.reg [Zn 16 0] []) (.blk 2 (.loop A9L8)) [3, 4, 5, 15] [3, 5] A9R9))
def A9 : ACode := (.seq (.reg [Zo 2 (.mv (.c (.b false)))] []) (.seq (.seq (.reg [Zm 22 0,Zo 23 (.call 43 [(Zt 22)])] []) (.cond (Zt 23) (.seq (.reg [Zo 2 (.mv (.c (.b true)))] []) .ret) .skip)) (.seq (.reg [Zm 25 0,Zo 26 (.call 44 [(Zt 25)]),Zm 24 26,Ze 27 24 0,Ze 28 24 1,Ze 29 24 2,Zm 3 27,Zm 4 28,Zm 5 29] [3, 5]) (.seq (.reg [Zm 31 3,Zm 32 4,Zm 33 5,Zo 34 (.call 45 [(Zt 31), (Zt 32), (Zt 33)]),Zm 30 34,Ze 35 30 0,Ze 36 30 1,Ze 37 30 2,Zm 6 35,Zm 7 36,Zm 8 37] [6, 7]) (.seq (.reg [Zm 39 3,Zm 40 4,Zm 41 5,Zo 42 (.call 46 [(Zt 39), (Zt 40), (Zt 41)]),Zm 38 42,Ze 43 38 0,Ze 44 38 1,Ze 45 38 2,Zm 9 43,Zm 10 44,Zm 11 45] [9, 10]) (.seq (.seqr (.reg [Zm 46 8,Zm 47 11,Zo 48 (.beq true (Zt 46) (Zt 47)),Zm 49 48,⟨(some 50), .mv (Zt 7), (some (49, false))⟩,⟨(some 51), .mv (Zt 10), (some (49, false))⟩,⟨(some 52), .call 47 [(Zt 50), (Zt 51)], (some (49, false))⟩,⟨(some 53), .un .not (Zt 52), (some (49, false))⟩,Zo 54 (.pick (Zt 49) (.c (.b true)) (Zt 53)),Zm 55 54,⟨(some 56), .mv (Zt 8), (some (55, false))⟩,⟨(some 57), .un .not (Zt 56), (some (55, false))⟩,Zo 58 (.pick (Zt 55) (.c (.b true)) (Zt 57))] []) [3, 4, 5, 6, 7, 8, 10, 11, 58] [3, 5, 6, 7, 10] A9R1) (.seq (.reg [Zm 68 3,Zm 69 4,Zm 70 5,Zm 71 6,Zo 72 (.call 39 [(Zt 68), (Zt 69), (Zt 70), (Zt 71)]),Zm 67 72,Ze 73 67 0,Ze 74 67 1,Zm 12 73,Zm 13 74] [12]) (.seq (.seqr (.reg [Zm 75 13,Zo 76 (.un .not (Zt 75)),Zm 77 76,⟨(some 78), .mv (Zt 12), (some (77, false))⟩,⟨(some 79), .len (Zt 78), (some (77, false))⟩,⟨(some 80), .mv (Zt 3), (some (77, false))⟩,⟨(some 81), .len (Zt 80), (some (77, false))⟩,⟨(some 82), .bin .neq (Zt 79) (Zt 81), (some (77, false))⟩,Zo 83 (.pick (Zt 77) (.c (.b true)) (Zt 82)),Zm 84 83,⟨(some 85), .mv (Zt 7), (some (84, false))⟩,⟨(some 86), .len (Zt 85), (some (84, false))⟩,⟨(some 87), .mv (Zt 3), (some (84, false))⟩,⟨(some 88), .len (Zt 87), (some (84, false))⟩,⟨(some 89), .bin .neq (Zt 86) (Zt 88), (some (84, false))⟩,Zo 90 (.pick (Zt 84) (.c (.b true)) (Zt 89)),Zm 91 90,⟨(some 92), .mv (Zt 6), (some (91, false))⟩,⟨(some 93), .len (Zt 92), (some (91, false))⟩,⟨(some 94), .mv (Zt 5), (some (91, false))⟩,⟨(some 95), .len (Zt 94), (some (91, false))⟩,⟨(some 96), .bin .neq (Zt 93) (Zt 95), (some (91, false))⟩,Zo 97 (.pick (Zt 91) (.c (.b true)) (Zt 96))] []) [3, 4, 5, 6, 7, 12, 97] [3, 5, 6, 7, 12] A9R3) (.seqa (.reg [Zn 14 0] []) (.blk 0 (.loop A9L5)) [3, 4, 5, 6, 7] [3, 5, 6, 7] A9R6)))))))))
def V9 : List RV := [.t 2]
theorem m9 : mtcF Try.prog 9 1 A9 V9 = true := by kernel_rfl
end Vs

