/-
  Part of the proof that the law FnExactLinkLoads returns true at every input; no condition beside the row's own.
-/
import Derived.Test.YtgbifbhfdjdhbaaFe
import Derived.Test.YtgbifbhfdjdhbaaChecked
import Derived.KernelRfl
set_option linter.unusedSimpArgs false
set_option linter.unusedVariables false
namespace Vs
open Go
structure TLink where
  A : Int
  B : Int
  Capacity : Int
  deriving DecidableEq
def e_TLink (f : Fl) (x : TLink) : AV := .agg [.i x.A, .i x.B, .i x.Capacity]
theorem e_TLink_nrm (f : Fl) (x : TLink) : (e_TLink f x).nrm = e_TLink .o x := by simp [e_TLink, nrm_sc, nrm_lst, nrm_agg, nrm_sc]
theorem e_TLink_nrmm (f : Fl) (xs : List TLink) : (xs.map (e_TLink f)).map AV.nrm = xs.map (e_TLink .o) := by simp [e_TLink_nrm]
theorem e_TLink_als (f : Fl) (x : TLink) : (e_TLink f x).als = e_TLink f.als x := by simp [e_TLink, als_sc, als_lst, als_agg, nrm_sc]
theorem e_TLink_alsm (f : Fl) (xs : List TLink) : (xs.map (e_TLink f)).map AV.als = xs.map (e_TLink f.als) := by simp [e_TLink_als]
theorem e_TLink_fix (f : Fl) (x : TLink) : (e_TLink f x).fix = e_TLink f.fix x := by simp [e_TLink, fix_sc, fix_lst, fix_agg, nrm_sc]
theorem e_TLink_fixm (f : Fl) (xs : List TLink) : (xs.map (e_TLink f)).map AV.fix = xs.map (e_TLink f.fix) := by simp [e_TLink_fix]
theorem e_TLink_fz (x : TLink) : (e_TLink .o x).fz = true := by simp [e_TLink, AV.i, AV.b, AV.z, fz_sc, fz_lsto, fz_agg, fzL_nil, fzL_cons, fzL_mi, fzL_mb, fzL_mz, fzL_m8, fzL_m64, ouL_m8, ouL_m64, ou_sc, ou_lstu, ou_agg, ouL_nil, ouL_cons, ouL_mi, ouL_mb, ouL_mz]
theorem e_TLink_fzm (xs : List TLink) : fzL (xs.map (e_TLink .o)) = true := fzL_of e_TLink_fz xs
theorem e_TLink_ou (x : TLink) : (e_TLink .u x).ouB = true := by simp [e_TLink, AV.i, AV.b, AV.z, fz_sc, fz_lsto, fz_agg, fzL_nil, fzL_cons, fzL_mi, fzL_mb, fzL_mz, fzL_m8, fzL_m64, ouL_m8, ouL_m64, ou_sc, ou_lstu, ou_agg, ouL_nil, ouL_cons, ouL_mi, ouL_mb, ouL_mz]
theorem e_TLink_oum (xs : List TLink) : ouBL (xs.map (e_TLink .u)) = true := ouL_of e_TLink_ou xs
structure TTributary where
  From : Int
  To : Int
  Rate : Int
  deriving DecidableEq
def e_TTributary (f : Fl) (x : TTributary) : AV := .agg [.i x.From, .i x.To, .i x.Rate]
theorem e_TTributary_nrm (f : Fl) (x : TTributary) : (e_TTributary f x).nrm = e_TTributary .o x := by simp [e_TTributary, nrm_sc, nrm_lst, nrm_agg, nrm_sc]
theorem e_TTributary_nrmm (f : Fl) (xs : List TTributary) : (xs.map (e_TTributary f)).map AV.nrm = xs.map (e_TTributary .o) := by simp [e_TTributary_nrm]
theorem e_TTributary_als (f : Fl) (x : TTributary) : (e_TTributary f x).als = e_TTributary f.als x := by simp [e_TTributary, als_sc, als_lst, als_agg, nrm_sc]
theorem e_TTributary_alsm (f : Fl) (xs : List TTributary) : (xs.map (e_TTributary f)).map AV.als = xs.map (e_TTributary f.als) := by simp [e_TTributary_als]
theorem e_TTributary_fix (f : Fl) (x : TTributary) : (e_TTributary f x).fix = e_TTributary f.fix x := by simp [e_TTributary, fix_sc, fix_lst, fix_agg, nrm_sc]
theorem e_TTributary_fixm (f : Fl) (xs : List TTributary) : (xs.map (e_TTributary f)).map AV.fix = xs.map (e_TTributary f.fix) := by simp [e_TTributary_fix]
theorem e_TTributary_fz (x : TTributary) : (e_TTributary .o x).fz = true := by simp [e_TTributary, AV.i, AV.b, AV.z, fz_sc, fz_lsto, fz_agg, fzL_nil, fzL_cons, fzL_mi, fzL_mb, fzL_mz, fzL_m8, fzL_m64, ouL_m8, ouL_m64, ou_sc, ou_lstu, ou_agg, ouL_nil, ouL_cons, ouL_mi, ouL_mb, ouL_mz]
theorem e_TTributary_fzm (xs : List TTributary) : fzL (xs.map (e_TTributary .o)) = true := fzL_of e_TTributary_fz xs
theorem e_TTributary_ou (x : TTributary) : (e_TTributary .u x).ouB = true := by simp [e_TTributary, AV.i, AV.b, AV.z, fz_sc, fz_lsto, fz_agg, fzL_nil, fzL_cons, fzL_mi, fzL_mb, fzL_mz, fzL_m8, fzL_m64, ouL_m8, ouL_m64, ou_sc, ou_lstu, ou_agg, ouL_nil, ouL_cons, ouL_mi, ouL_mb, ouL_mz]
theorem e_TTributary_oum (xs : List TTributary) : ouBL (xs.map (e_TTributary .u)) = true := ouL_of e_TTributary_ou xs
def e_Li (f : Fl) (xs : List Int) : AV := .lst f 1 (xs.map AV.i)
theorem e_Li_nrm (f : Fl) (x : List Int) : (e_Li f x).nrm = e_Li .o x := by simp [e_Li, nrm_sc, nrm_lst, nrm_agg, map_nrm_i]
theorem e_Li_nrmm (f : Fl) (xs : List (List Int)) : (xs.map (e_Li f)).map AV.nrm = xs.map (e_Li .o) := by simp [e_Li_nrm]
theorem e_Li_als (f : Fl) (x : List Int) : (e_Li f x).als = e_Li f.als x := by simp [e_Li, als_sc, als_lst, als_agg, map_als_i]
theorem e_Li_alsm (f : Fl) (xs : List (List Int)) : (xs.map (e_Li f)).map AV.als = xs.map (e_Li f.als) := by simp [e_Li_als]
theorem e_Li_fix (f : Fl) (x : List Int) : (e_Li f x).fix = e_Li f.fix x := by simp [e_Li, fix_sc, fix_lst, fix_agg, map_fix_i]
theorem e_Li_fixm (f : Fl) (xs : List (List Int)) : (xs.map (e_Li f)).map AV.fix = xs.map (e_Li f.fix) := by simp [e_Li_fix]
theorem e_Li_fz (x : List Int) : (e_Li .o x).fz = true := by simp [e_Li, AV.i, AV.b, AV.z, fz_sc, fz_lsto, fz_agg, fzL_nil, fzL_cons, fzL_mi, fzL_mb, fzL_mz, fzL_m8, fzL_m64, ouL_m8, ouL_m64, ou_sc, ou_lstu, ou_agg, ouL_nil, ouL_cons, ouL_mi, ouL_mb, ouL_mz]
theorem e_Li_fzm (xs : List (List Int)) : fzL (xs.map (e_Li .o)) = true := fzL_of e_Li_fz xs
theorem e_Li_ou (x : List Int) : (e_Li .u x).ouB = true := by simp [e_Li, AV.i, AV.b, AV.z, fz_sc, fz_lsto, fz_agg, fzL_nil, fzL_cons, fzL_mi, fzL_mb, fzL_mz, fzL_m8, fzL_m64, ouL_m8, ouL_m64, ou_sc, ou_lstu, ou_agg, ouL_nil, ouL_cons, ouL_mi, ouL_mb, ouL_mz]
theorem e_Li_oum (xs : List (List Int)) : ouBL (xs.map (e_Li .u)) = true := ouL_of e_Li_ou xs
def M_laws_szLinkS (aZ0 : List TLink) (leftZ0 : Int) : Option Int :=
  cond (decide ((IntKind.wrap .i64 (leftZ0 - (aZ0.length : Int))) < 0)) (some (-1)) (some (IntKind.wrap .i64 (leftZ0 - (aZ0.length : Int))))
def M_laws_szTributaryS (aZ0 : List TTributary) (leftZ0 : Int) : Option Int :=
  cond (decide ((IntKind.wrap .i64 (leftZ0 - (aZ0.length : Int))) < 0)) (some (-1)) (some (IntKind.wrap .i64 (leftZ0 - (aZ0.length : Int))))
def M_laws_szIntS (aZ0 : List Int) (leftZ0 : Int) : Option Int :=
  cond (decide ((IntKind.wrap .i64 (leftZ0 - (aZ0.length : Int))) < 0)) (some (-1)) (some (IntKind.wrap .i64 (leftZ0 - (aZ0.length : Int))))
def M_laws_szIntSSL1 (aZ0 : List (List Int)) (sZ2 : Int × Int) : Option ((Int × Int) ⊕ (Int ⊕ Int)) :=
  cond (decide (sZ2.2 < (aZ0.length : Int))) ((geti aZ0 sZ2.2).bind fun yZ4 => (M_laws_szIntS yZ4 sZ2.1).bind fun rZ5 => cond (decide (rZ5 < 0)) (some (.inr (.inr (-1)))) (some (.inl (rZ5, IntKind.wrap .i64 (sZ2.2 + 1))))) (some (.inr (.inl sZ2.1)))
def M_laws_szIntSS (aZ0 : List (List Int)) (leftZ0 : Int) : Option Int :=
  cond (decide ((IntKind.wrap .i64 (leftZ0 - (aZ0.length : Int))) < 0)) (some (-1)) ((iter (M_laws_szIntSSL1 aZ0) N0 (IntKind.wrap .i64 (leftZ0 - (aZ0.length : Int)), 0)).bind fun oZ7 => (match oZ7 with | .inl vZ8 => some vZ8 | .inr xZ9 => some xZ9))
def M_laws_toLink (aZ0 : TLink) : Option TLink :=
  some (⟨aZ0.A, aZ0.B, aZ0.Capacity⟩ : TLink)
def M_laws_toLinkSL1 (aZ0 : List TLink) (sZ4 : Int × List TLink) : Option ((Int × List TLink) ⊕ (List TLink)) :=
  cond (decide (sZ4.1 < (aZ0.length : Int))) ((geti aZ0 sZ4.1).bind fun yZ6 => (M_laws_toLink yZ6).bind fun rZ7 => (grd (0 ≤ sZ4.1 ∧ sZ4.1 < (sZ4.2.length : Int))).bind fun kZ8 => (sZ4.2[(Int.toNat sZ4.1)]?).bind fun yZ9 => bnd (sZ4.2.set (Int.toNat sZ4.1) rZ7) fun lZ10 => some (.inl (IntKind.wrap .i64 (sZ4.1 + 1), lZ10))) (some (.inr sZ4.2))
def M_laws_toLinkS (aZ0 : List TLink) : Option (List TLink) :=
  (grd (0 ≤ (aZ0.length : Int) ∧ (aZ0.length : Int) ≤ (aZ0.length : Int) ∧ (aZ0.length : Int) * ((24 : Nat) : Int) ≤ 140737488355328 ∧ (aZ0.length : Int) ≤ 9223372036854775807)).bind fun uZ1 => bnd (List.replicate (Int.toNat (aZ0.length : Int)) (⟨0, 0, 0⟩ : TLink)) fun lZ2 => (iter (M_laws_toLinkSL1 aZ0) N0 (0, lZ2)).bind fun oZ12 => some oZ12
def M_laws_toTributary (aZ0 : TTributary) : Option TTributary :=
  some (⟨aZ0.From, aZ0.To, aZ0.Rate⟩ : TTributary)
def M_laws_toTributarySL1 (aZ0 : List TTributary) (sZ4 : Int × List TTributary) : Option ((Int × List TTributary) ⊕ (List TTributary)) :=
  cond (decide (sZ4.1 < (aZ0.length : Int))) ((geti aZ0 sZ4.1).bind fun yZ6 => (M_laws_toTributary yZ6).bind fun rZ7 => (grd (0 ≤ sZ4.1 ∧ sZ4.1 < (sZ4.2.length : Int))).bind fun kZ8 => (sZ4.2[(Int.toNat sZ4.1)]?).bind fun yZ9 => bnd (sZ4.2.set (Int.toNat sZ4.1) rZ7) fun lZ10 => some (.inl (IntKind.wrap .i64 (sZ4.1 + 1), lZ10))) (some (.inr sZ4.2))
def M_laws_toTributaryS (aZ0 : List TTributary) : Option (List TTributary) :=
  (grd (0 ≤ (aZ0.length : Int) ∧ (aZ0.length : Int) ≤ (aZ0.length : Int) ∧ (aZ0.length : Int) * ((24 : Nat) : Int) ≤ 140737488355328 ∧ (aZ0.length : Int) ≤ 9223372036854775807)).bind fun uZ1 => bnd (List.replicate (Int.toNat (aZ0.length : Int)) (⟨0, 0, 0⟩ : TTributary)) fun lZ2 => (iter (M_laws_toTributarySL1 aZ0) N0 (0, lZ2)).bind fun oZ12 => some oZ12
def M_laws_toIntSL1 (aZ0 : List Int) (sZ4 : Int × List Int) : Option ((Int × List Int) ⊕ (List Int)) :=
  cond (decide (sZ4.1 < (aZ0.length : Int))) ((geti aZ0 sZ4.1).bind fun yZ6 => (grd (0 ≤ sZ4.1 ∧ sZ4.1 < (sZ4.2.length : Int))).bind fun kZ7 => (sZ4.2[(Int.toNat sZ4.1)]?).bind fun yZ8 => bnd (sZ4.2.set (Int.toNat sZ4.1) yZ6) fun lZ9 => some (.inl (IntKind.wrap .i64 (sZ4.1 + 1), lZ9))) (some (.inr sZ4.2))
def M_laws_toIntS (aZ0 : List Int) : Option (List Int) :=
  (grd (0 ≤ (aZ0.length : Int) ∧ (aZ0.length : Int) ≤ (aZ0.length : Int) ∧ (aZ0.length : Int) * ((8 : Nat) : Int) ≤ 140737488355328 ∧ (aZ0.length : Int) ≤ 9223372036854775807)).bind fun uZ1 => bnd (List.replicate (Int.toNat (aZ0.length : Int)) 0) fun lZ2 => (iter (M_laws_toIntSL1 aZ0) N0 (0, lZ2)).bind fun oZ11 => some oZ11
def M_laws_toIntSSL1 (aZ0 : List (List Int)) (sZ4 : Int × List (List Int)) : Option ((Int × List (List Int)) ⊕ (List (List Int))) :=
  cond (decide (sZ4.1 < (aZ0.length : Int))) ((geti aZ0 sZ4.1).bind fun yZ6 => (M_laws_toIntS yZ6).bind fun rZ7 => (grd (0 ≤ sZ4.1 ∧ sZ4.1 < (sZ4.2.length : Int))).bind fun kZ8 => (sZ4.2[(Int.toNat sZ4.1)]?).bind fun yZ9 => bnd (sZ4.2.set (Int.toNat sZ4.1) rZ7) fun lZ10 => some (.inl (IntKind.wrap .i64 (sZ4.1 + 1), lZ10))) (some (.inr sZ4.2))
def M_laws_toIntSS (aZ0 : List (List Int)) : Option (List (List Int)) :=
  (grd (0 ≤ (aZ0.length : Int) ∧ (aZ0.length : Int) ≤ (aZ0.length : Int) ∧ (aZ0.length : Int) * ((24 : Nat) : Int) ≤ 140737488355328 ∧ (aZ0.length : Int) ≤ 9223372036854775807)).bind fun uZ1 => bnd (List.replicate (Int.toNat (aZ0.length : Int)) ([])) fun lZ2 => (iter (M_laws_toIntSSL1 aZ0) N0 (0, lZ2)).bind fun oZ12 => some oZ12
def M_spec_l1In (xZ0 : Int) (aZ0 : Int) (bZ0 : Int) : Option Bool :=
  cond (decide (aZ0 ≤ xZ0)) (some (decide (xZ0 ≤ bZ0))) (some false)
def M_spec_l18Pair (aZ0 : Int) (bZ0 : Int) (nodesZ0 : Int) : Option Bool :=
  (M_spec_l1In aZ0 0 (IntKind.wrap .i64 (nodesZ0 - 1))).bind fun rZ1 => cond (rZ1) ((M_spec_l1In bZ0 0 (IntKind.wrap .i64 (nodesZ0 - 1))).bind fun rZ3 => cond (rZ3) (some (aZ0 != bZ0)) (some false)) (some false)
def M_spec_l18LinksL1 (linksZ0 : List TLink) (nodesZ0 : Int) (sZ1 : Int) : Option (Int ⊕ (Unit ⊕ Bool)) :=
  (cond (decide (sZ1 < (linksZ0.length : Int))) (some (decide (sZ1 ≤ 12))) (some false) : Option Bool).bind fun oZ3 => cond (oZ3) (((geti linksZ0 sZ1).bind fun yZ5 => (M_spec_l18Pair yZ5.A yZ5.B nodesZ0).bind fun rZ6 => cond (!rZ6) (some true) ((M_spec_l1In yZ5.Capacity 0 10000).bind fun rZ8 => some (!rZ8)) : Option Bool).bind fun oZ9 => cond (oZ9) (some (.inr (.inr false))) (some (.inl (IntKind.wrap .i64 (sZ1 + 1))))) (some (.inr (.inl ())))
def M_spec_l18Links (linksZ0 : List TLink) (nodesZ0 : Int) : Option Bool :=
  (iter (M_spec_l18LinksL1 linksZ0 nodesZ0) N0 0).bind fun oZ11 => (match oZ11 with | .inl vZ12 => (M_spec_l1In nodesZ0 2 8).bind fun rZ14 => cond (rZ14) (some (decide ((linksZ0.length : Int) ≤ 12))) (some false) | .inr xZ13 => some xZ13)
def M_spec_l18GoodL1 (listZ0 : List TTributary) (nodesZ0 : Int) (sZ1 : Int) : Option (Int ⊕ (Unit ⊕ Bool)) :=
  (cond (decide (sZ1 < (listZ0.length : Int))) (some (decide (sZ1 ≤ 12))) (some false) : Option Bool).bind fun oZ3 => cond (oZ3) (((geti listZ0 sZ1).bind fun yZ5 => (M_spec_l18Pair yZ5.From yZ5.To nodesZ0).bind fun rZ6 => cond (!rZ6) (some true) ((M_spec_l1In yZ5.Rate 1 1000).bind fun rZ8 => some (!rZ8)) : Option Bool).bind fun oZ9 => cond (oZ9) (some (.inr (.inr false))) (some (.inl (IntKind.wrap .i64 (sZ1 + 1))))) (some (.inr (.inl ())))
def M_spec_l18Good (listZ0 : List TTributary) (nodesZ0 : Int) : Option Bool :=
  (iter (M_spec_l18GoodL1 listZ0 nodesZ0) N0 0).bind fun oZ11 => (match oZ11 with | .inl vZ12 => (M_spec_l1In nodesZ0 2 8).bind fun rZ14 => cond (rZ14) (some (decide ((listZ0.length : Int) ≤ 12))) (some false) | .inr xZ13 => some xZ13)
def M_spec_l1HasL1 (lZ0 : List Int) (nZ0 : Int) (sZ1 : Int) : Option (Int ⊕ (Unit ⊕ Bool)) :=
  cond (decide (sZ1 < (lZ0.length : Int))) ((geti lZ0 sZ1).bind fun yZ3 => cond (yZ3 == nZ0) (some (.inr (.inr true))) (some (.inl (IntKind.wrap .i64 (sZ1 + 1))))) (some (.inr (.inl ())))
def M_spec_l1Has (lZ0 : List Int) (nZ0 : Int) : Option Bool :=
  (iter (M_spec_l1HasL1 lZ0 nZ0) N0 0).bind fun oZ5 => (match oZ5 with | .inl vZ6 => some false | .inr xZ7 => some xZ7)
def M_spec_LinkLoadsL2 (linksZ0 : List TLink) (listZ0 : List TTributary) (routesZ0 : List (List Int)) (sZ10 : Int × List Int) (sZ12 : Int × List Int) : Option ((Int × List Int) ⊕ ((List Int) ⊕ (List Int × Bool))) :=
  (geti routesZ0 sZ10.1).bind fun yZ13 => cond (decide (sZ12.1 < (yZ13.length : Int))) (((geti yZ13 sZ12.1).bind fun yZ15 => (M_spec_l1In yZ15 0 (IntKind.wrap .i64 ((linksZ0.length : Int) - 1))).bind fun rZ16 => cond (!rZ16) (some true) ((slT yZ13 sZ12.1).bind fun lZ18 => (M_spec_l1Has lZ18 yZ15).bind fun rZ19 => some rZ19) : Option Bool).bind fun oZ20 => cond (oZ20) (some (.inr (.inr (([]), false)))) ((geti yZ13 sZ12.1).bind fun yZ22 => (grd (0 ≤ yZ22 ∧ yZ22 < (sZ12.2.length : Int))).bind fun kZ23 => (sZ12.2[(Int.toNat yZ22)]?).bind fun yZ24 => (geti listZ0 sZ10.1).bind fun yZ25 => bnd (sZ12.2.set (Int.toNat yZ22) (IntKind.wrap .i64 (yZ24 + yZ25.Rate))) fun lZ26 => some (.inl (IntKind.wrap .i64 (sZ12.1 + 1), lZ26)))) (some (.inr (.inl sZ12.2)))
def M_spec_LinkLoadsL1 (linksZ0 : List TLink) (listZ0 : List TTributary) (routesZ0 : List (List Int)) (sZ10 : Int × List Int) : Option ((Int × List Int) ⊕ ((List Int) ⊕ (List Int × Bool))) :=
  cond (decide (sZ10.1 < (routesZ0.length : Int))) (((iter (M_spec_LinkLoadsL2 linksZ0 listZ0 routesZ0 sZ10) N0 (0, sZ10.2)).bind fun oZ28 => (match oZ28 with | .inl vZ29 => some (.inl vZ29) | .inr xZ30 => some (.inr xZ30)) : Option ((List Int) ⊕ (List Int × Bool))).bind fun oZ33 => (match oZ33 with | .inl vZ34 => some (.inl (IntKind.wrap .i64 (sZ10.1 + 1), vZ34)) | .inr xZ35 => some (.inr (.inr xZ35)))) (some (.inr (.inl sZ10.2)))
def M_spec_LinkLoads (linksZ0 : List TLink) (nodesZ0 : Int) (listZ0 : List TTributary) (routesZ0 : List (List Int)) : Option (List Int × Bool) :=
  ((M_spec_l18Links linksZ0 nodesZ0).bind fun rZ1 => cond (!rZ1) (some true) ((M_spec_l18Good listZ0 nodesZ0).bind fun rZ3 => cond (!rZ3) (some true) (some ((routesZ0.length : Int) != (listZ0.length : Int)))) : Option Bool).bind fun oZ5 => cond (oZ5) (some (([]), false)) ((grd (0 ≤ (linksZ0.length : Int) ∧ (linksZ0.length : Int) ≤ (linksZ0.length : Int) ∧ (linksZ0.length : Int) * ((8 : Nat) : Int) ≤ 140737488355328 ∧ (linksZ0.length : Int) ≤ 9223372036854775807)).bind fun uZ7 => bnd (List.replicate (Int.toNat (linksZ0.length : Int)) 0) fun lZ8 => (iter (M_spec_LinkLoadsL1 linksZ0 listZ0 routesZ0) N0 (0, lZ8)).bind fun oZ37 => (match oZ37 with | .inl vZ38 => some (vZ38, true) | .inr xZ39 => some xZ39))
def M_impl_within (nZ0 : Int) (lowZ0 : Int) (highZ0 : Int) : Option Bool :=
  cond (decide (lowZ0 ≤ nZ0)) (some (decide (nZ0 ≤ highZ0))) (some false)
def M_slices_IndexFunc_LinkL1 (sZ0 : List TLink) (fZ0 : TLink → Option Bool) (sZ1 : Int) : Option (Int ⊕ (Unit ⊕ Int)) :=
  cond (decide (sZ1 < (sZ0.length : Int))) ((geti sZ0 sZ1).bind fun yZ3 => (fZ0 yZ3).bind fun rZ4 => cond (rZ4) (some (.inr (.inr sZ1))) (some (.inl (IntKind.wrap .i64 (sZ1 + 1))))) (some (.inr (.inl ())))
def M_slices_IndexFunc_Link (sZ0 : List TLink) (fZ0 : TLink → Option Bool) : Option Int :=
  (iter (M_slices_IndexFunc_LinkL1 sZ0 fZ0) N0 0).bind fun oZ6 => (match oZ6 with | .inl vZ7 => some (-1) | .inr xZ8 => some xZ8)
def M_slices_ContainsFunc_Link (sZ0 : List TLink) (fZ0 : TLink → Option Bool) : Option Bool :=
  (M_slices_IndexFunc_Link sZ0 fZ0).bind fun rZ1 => some (decide (0 ≤ rZ1))
def M_impl_areEnds (aZ0 : Int) (bZ0 : Int) (nodesZ0 : Int) : Option Bool :=
  (M_impl_within aZ0 0 (IntKind.wrap .i64 (nodesZ0 - 1))).bind fun rZ1 => cond (rZ1) ((M_impl_within bZ0 0 (IntKind.wrap .i64 (nodesZ0 - 1))).bind fun rZ3 => cond (rZ3) (some (aZ0 != bZ0)) (some false)) (some false)
def M_impl_areLinks_c1 (lZ0 : TLink) (p1Z0 : Int) : Option Bool :=
  (M_impl_areEnds lZ0.A lZ0.B p1Z0).bind fun rZ1 => cond (!rZ1) (some true) ((M_impl_within lZ0.Capacity 0 10000).bind fun rZ3 => some (!rZ3))
def M_impl_areLinks (linksZ0 : List TLink) (nodesZ0 : Int) : Option Bool :=
  (M_impl_within nodesZ0 2 8).bind fun rZ1 => cond (rZ1) (cond (decide ((linksZ0.length : Int) ≤ 12)) ((M_slices_ContainsFunc_Link linksZ0 (fun x0 => M_impl_areLinks_c1 x0 nodesZ0)).bind fun rZ4 => some (!rZ4)) (some false)) (some false)
def M_slices_IndexFunc_TributaryL1 (sZ0 : List TTributary) (fZ0 : TTributary → Option Bool) (sZ1 : Int) : Option (Int ⊕ (Unit ⊕ Int)) :=
  cond (decide (sZ1 < (sZ0.length : Int))) ((geti sZ0 sZ1).bind fun yZ3 => (fZ0 yZ3).bind fun rZ4 => cond (rZ4) (some (.inr (.inr sZ1))) (some (.inl (IntKind.wrap .i64 (sZ1 + 1))))) (some (.inr (.inl ())))
def M_slices_IndexFunc_Tributary (sZ0 : List TTributary) (fZ0 : TTributary → Option Bool) : Option Int :=
  (iter (M_slices_IndexFunc_TributaryL1 sZ0 fZ0) N0 0).bind fun oZ6 => (match oZ6 with | .inl vZ7 => some (-1) | .inr xZ8 => some xZ8)
def M_slices_ContainsFunc_Tributary (sZ0 : List TTributary) (fZ0 : TTributary → Option Bool) : Option Bool :=
  (M_slices_IndexFunc_Tributary sZ0 fZ0).bind fun rZ1 => some (decide (0 ≤ rZ1))
def M_impl_IsValidTributaries_c1 (tZ0 : TTributary) (p1Z0 : Int) : Option Bool :=
  (M_impl_areEnds tZ0.From tZ0.To p1Z0).bind fun rZ1 => cond (!rZ1) (some true) ((M_impl_within tZ0.Rate 1 1000).bind fun rZ3 => some (!rZ3))
def M_impl_IsValidTributaries (listZ0 : List TTributary) (nodesZ0 : Int) : Option Bool :=
  (M_impl_within nodesZ0 2 8).bind fun rZ1 => cond (rZ1) (cond (decide ((listZ0.length : Int) ≤ 12)) ((M_slices_ContainsFunc_Tributary listZ0 (fun x0 => M_impl_IsValidTributaries_c1 x0 nodesZ0)).bind fun rZ4 => some (!rZ4)) (some false)) (some false)
def M_impl_isGrooming (linksZ0 : List TLink) (nodesZ0 : Int) (listZ0 : List TTributary) : Option Bool :=
  (M_impl_areLinks linksZ0 nodesZ0).bind fun rZ1 => cond (rZ1) ((M_impl_IsValidTributaries listZ0 nodesZ0).bind fun rZ3 => some rZ3) (some false)
def M_slices_Index_Lint_intL1 (sZ0 : List Int) (vZ0 : Int) (sZ1 : Int) : Option (Int ⊕ (Unit ⊕ Int)) :=
  cond (decide (sZ1 < (sZ0.length : Int))) ((geti sZ0 sZ1).bind fun yZ3 => cond (vZ0 == yZ3) (some (.inr (.inr sZ1))) (some (.inl (IntKind.wrap .i64 (sZ1 + 1))))) (some (.inr (.inl ())))
def M_slices_Index_Lint_int (sZ0 : List Int) (vZ0 : Int) : Option Int :=
  (iter (M_slices_Index_Lint_intL1 sZ0 vZ0) N0 0).bind fun oZ5 => (match oZ5 with | .inl vZ6 => some (-1) | .inr xZ7 => some xZ7)
def M_slices_Contains_Lint_int (sZ0 : List Int) (vZ0 : Int) : Option Bool :=
  (M_slices_Index_Lint_int sZ0 vZ0).bind fun rZ1 => some (decide (0 ≤ rZ1))
def M_impl_LinkLoadsL2 (linksZ0 : List TLink) (listZ0 : List TTributary) (sZ8 : Int × List Int) (yZ10 : List Int) (sZ11 : Int × List Int) : Option ((Int × List Int) ⊕ ((List Int) ⊕ (List Int × Bool))) :=
  cond (decide (sZ11.1 < (yZ10.length : Int))) ((geti yZ10 sZ11.1).bind fun yZ13 => ((M_impl_within yZ13 0 (IntKind.wrap .i64 ((linksZ0.length : Int) - 1))).bind fun rZ14 => cond (!rZ14) (some true) ((slT yZ10 sZ11.1).bind fun lZ16 => (M_slices_Contains_Lint_int lZ16 yZ13).bind fun rZ17 => some rZ17) : Option Bool).bind fun oZ18 => cond (oZ18) (some (.inr (.inr (([]), false)))) ((grd (0 ≤ yZ13 ∧ yZ13 < (sZ11.2.length : Int))).bind fun kZ20 => (sZ11.2[(Int.toNat yZ13)]?).bind fun yZ21 => (geti listZ0 sZ8.1).bind fun yZ22 => bnd (sZ11.2.set (Int.toNat yZ13) (IntKind.wrap .i64 (yZ21 + yZ22.Rate))) fun lZ23 => some (.inl (IntKind.wrap .i64 (sZ11.1 + 1), lZ23)))) (some (.inr (.inl sZ11.2)))
def M_impl_LinkLoadsL1 (linksZ0 : List TLink) (listZ0 : List TTributary) (routesZ0 : List (List Int)) (sZ8 : Int × List Int) : Option ((Int × List Int) ⊕ ((List Int) ⊕ (List Int × Bool))) :=
  cond (decide (sZ8.1 < (routesZ0.length : Int))) (((geti routesZ0 sZ8.1).bind fun yZ10 => (iter (M_impl_LinkLoadsL2 linksZ0 listZ0 sZ8 yZ10) N0 (0, sZ8.2)).bind fun oZ25 => (match oZ25 with | .inl vZ26 => some (.inl vZ26) | .inr xZ27 => some (.inr xZ27)) : Option ((List Int) ⊕ (List Int × Bool))).bind fun oZ30 => (match oZ30 with | .inl vZ31 => some (.inl (IntKind.wrap .i64 (sZ8.1 + 1), vZ31)) | .inr xZ32 => some (.inr (.inr xZ32)))) (some (.inr (.inl sZ8.2)))
def M_impl_LinkLoads (linksZ0 : List TLink) (nodesZ0 : Int) (listZ0 : List TTributary) (routesZ0 : List (List Int)) : Option (List Int × Bool) :=
  ((M_impl_isGrooming linksZ0 nodesZ0 listZ0).bind fun rZ1 => cond (!rZ1) (some true) (some ((routesZ0.length : Int) != (listZ0.length : Int))) : Option Bool).bind fun oZ3 => cond (oZ3) (some (([]), false)) ((grd (0 ≤ (linksZ0.length : Int) ∧ (linksZ0.length : Int) ≤ (linksZ0.length : Int) ∧ (linksZ0.length : Int) * ((8 : Nat) : Int) ≤ 140737488355328 ∧ (linksZ0.length : Int) ≤ 9223372036854775807)).bind fun uZ5 => bnd (List.replicate (Int.toNat (linksZ0.length : Int)) 0) fun lZ6 => (iter (M_impl_LinkLoadsL1 linksZ0 listZ0 routesZ0) N0 (0, lZ6)).bind fun oZ34 => (match oZ34 with | .inl vZ35 => some (vZ35, true) | .inr xZ36 => some xZ36))
def M_laws_eqIntSL1 (aZ0 : List Int) (bZ0 : List Int) (sZ2 : Int) : Option (Int ⊕ (Unit ⊕ Bool)) :=
  cond (decide (sZ2 < (aZ0.length : Int))) ((geti aZ0 sZ2).bind fun yZ4 => (geti bZ0 sZ2).bind fun yZ5 => cond (yZ4 != yZ5) (some (.inr (.inr false))) (some (.inl (IntKind.wrap .i64 (sZ2 + 1))))) (some (.inr (.inl ())))
def M_laws_eqIntS (aZ0 : List Int) (bZ0 : List Int) : Option Bool :=
  cond ((aZ0.length : Int) != (bZ0.length : Int)) (some false) ((iter (M_laws_eqIntSL1 aZ0 bZ0) N0 0).bind fun oZ7 => (match oZ7 with | .inl vZ8 => some true | .inr xZ9 => some xZ9))
def M_laws_eqLink (aZ0 : TLink) (bZ0 : TLink) : Option Bool :=
  cond (aZ0.A != bZ0.A) (some false) (cond (aZ0.B != bZ0.B) (some false) (cond (aZ0.Capacity != bZ0.Capacity) (some false) (some true)))
def M_laws_eqLinkSL1 (aZ0 : List TLink) (bZ0 : List TLink) (sZ2 : Int) : Option (Int ⊕ (Unit ⊕ Bool)) :=
  cond (decide (sZ2 < (aZ0.length : Int))) ((geti aZ0 sZ2).bind fun yZ4 => (geti bZ0 sZ2).bind fun yZ5 => (M_laws_eqLink yZ4 yZ5).bind fun rZ6 => cond (!rZ6) (some (.inr (.inr false))) (some (.inl (IntKind.wrap .i64 (sZ2 + 1))))) (some (.inr (.inl ())))
def M_laws_eqLinkS (aZ0 : List TLink) (bZ0 : List TLink) : Option Bool :=
  cond ((aZ0.length : Int) != (bZ0.length : Int)) (some false) ((iter (M_laws_eqLinkSL1 aZ0 bZ0) N0 0).bind fun oZ8 => (match oZ8 with | .inl vZ9 => some true | .inr xZ10 => some xZ10))
def M_laws_eqTributary (aZ0 : TTributary) (bZ0 : TTributary) : Option Bool :=
  cond (aZ0.From != bZ0.From) (some false) (cond (aZ0.To != bZ0.To) (some false) (cond (aZ0.Rate != bZ0.Rate) (some false) (some true)))
def M_laws_eqTributarySL1 (aZ0 : List TTributary) (bZ0 : List TTributary) (sZ2 : Int) : Option (Int ⊕ (Unit ⊕ Bool)) :=
  cond (decide (sZ2 < (aZ0.length : Int))) ((geti aZ0 sZ2).bind fun yZ4 => (geti bZ0 sZ2).bind fun yZ5 => (M_laws_eqTributary yZ4 yZ5).bind fun rZ6 => cond (!rZ6) (some (.inr (.inr false))) (some (.inl (IntKind.wrap .i64 (sZ2 + 1))))) (some (.inr (.inl ())))
def M_laws_eqTributaryS (aZ0 : List TTributary) (bZ0 : List TTributary) : Option Bool :=
  cond ((aZ0.length : Int) != (bZ0.length : Int)) (some false) ((iter (M_laws_eqTributarySL1 aZ0 bZ0) N0 0).bind fun oZ8 => (match oZ8 with | .inl vZ9 => some true | .inr xZ10 => some xZ10))
def M_laws_eqIntSSL1 (aZ0 : List (List Int)) (bZ0 : List (List Int)) (sZ2 : Int) : Option (Int ⊕ (Unit ⊕ Bool)) :=
  cond (decide (sZ2 < (aZ0.length : Int))) ((geti aZ0 sZ2).bind fun yZ4 => (geti bZ0 sZ2).bind fun yZ5 => (M_laws_eqIntS yZ4 yZ5).bind fun rZ6 => cond (!rZ6) (some (.inr (.inr false))) (some (.inl (IntKind.wrap .i64 (sZ2 + 1))))) (some (.inr (.inl ())))
def M_laws_eqIntSS (aZ0 : List (List Int)) (bZ0 : List (List Int)) : Option Bool :=
  cond ((aZ0.length : Int) != (bZ0.length : Int)) (some false) ((iter (M_laws_eqIntSSL1 aZ0 bZ0) N0 0).bind fun oZ8 => (match oZ8 with | .inl vZ9 => some true | .inr xZ10 => some xZ10))
def M_laws_markLinkSM1L1 (sZ1 : Int × Int × List TLink) : Option ((Int × Int × List TLink) ⊕ (Int × List TLink)) :=
  cond (decide (sZ1.2.1 < (sZ1.2.2.length : Int))) ((grd (0 ≤ sZ1.2.1 ∧ sZ1.2.1 < (sZ1.2.2.length : Int))).bind fun kZ3 => (sZ1.2.2[(Int.toNat sZ1.2.1)]?).bind fun yZ4 => bnd (sZ1.2.2.set (Int.toNat sZ1.2.1) (⟨sZ1.1, yZ4.B, yZ4.Capacity⟩ : TLink)) fun lZ5 => (lZ5[(Int.toNat sZ1.2.1)]?).bind fun yZ7 => bnd (lZ5.set (Int.toNat sZ1.2.1) (⟨yZ7.A, IntKind.wrap .i64 (sZ1.1 + 1), yZ7.Capacity⟩ : TLink)) fun lZ8 => (lZ8[(Int.toNat sZ1.2.1)]?).bind fun yZ10 => bnd (lZ8.set (Int.toNat sZ1.2.1) (⟨yZ10.A, yZ10.B, IntKind.wrap .i64 ((IntKind.wrap .i64 (sZ1.1 + 1)) + 1)⟩ : TLink)) fun lZ11 => some (.inl (IntKind.wrap .i64 ((IntKind.wrap .i64 ((IntKind.wrap .i64 (sZ1.1 + 1)) + 1)) + 1), IntKind.wrap .i64 (sZ1.2.1 + 1), lZ11))) (some (.inr (sZ1.1, sZ1.2.2)))
def M_laws_markLinkSM1 (aaZ0 : Int) (abZ0 : List TLink) : Option (Int × List TLink) :=
  (iter (M_laws_markLinkSM1L1) N0 (aaZ0, 0, abZ0)).bind fun oZ13 => some (oZ13.1, oZ13.2)
def M_laws_markTributarySM1L1 (sZ1 : Int × Int × List TTributary) : Option ((Int × Int × List TTributary) ⊕ (Int × List TTributary)) :=
  cond (decide (sZ1.2.1 < (sZ1.2.2.length : Int))) ((grd (0 ≤ sZ1.2.1 ∧ sZ1.2.1 < (sZ1.2.2.length : Int))).bind fun kZ3 => (sZ1.2.2[(Int.toNat sZ1.2.1)]?).bind fun yZ4 => bnd (sZ1.2.2.set (Int.toNat sZ1.2.1) (⟨sZ1.1, yZ4.To, yZ4.Rate⟩ : TTributary)) fun lZ5 => (lZ5[(Int.toNat sZ1.2.1)]?).bind fun yZ7 => bnd (lZ5.set (Int.toNat sZ1.2.1) (⟨yZ7.From, IntKind.wrap .i64 (sZ1.1 + 1), yZ7.Rate⟩ : TTributary)) fun lZ8 => (lZ8[(Int.toNat sZ1.2.1)]?).bind fun yZ10 => bnd (lZ8.set (Int.toNat sZ1.2.1) (⟨yZ10.From, yZ10.To, IntKind.wrap .i64 ((IntKind.wrap .i64 (sZ1.1 + 1)) + 1)⟩ : TTributary)) fun lZ11 => some (.inl (IntKind.wrap .i64 ((IntKind.wrap .i64 ((IntKind.wrap .i64 (sZ1.1 + 1)) + 1)) + 1), IntKind.wrap .i64 (sZ1.2.1 + 1), lZ11))) (some (.inr (sZ1.1, sZ1.2.2)))
def M_laws_markTributarySM1 (aaZ0 : Int) (abZ0 : List TTributary) : Option (Int × List TTributary) :=
  (iter (M_laws_markTributarySM1L1) N0 (aaZ0, 0, abZ0)).bind fun oZ13 => some (oZ13.1, oZ13.2)
def M_laws_markIntSM1L1 (sZ1 : Int × Int × List Int) : Option ((Int × Int × List Int) ⊕ (Int × List Int)) :=
  cond (decide (sZ1.2.1 < (sZ1.2.2.length : Int))) ((grd (0 ≤ sZ1.2.1 ∧ sZ1.2.1 < (sZ1.2.2.length : Int))).bind fun kZ3 => (sZ1.2.2[(Int.toNat sZ1.2.1)]?).bind fun yZ4 => bnd (sZ1.2.2.set (Int.toNat sZ1.2.1) sZ1.1) fun lZ5 => some (.inl (IntKind.wrap .i64 (sZ1.1 + 1), IntKind.wrap .i64 (sZ1.2.1 + 1), lZ5))) (some (.inr (sZ1.1, sZ1.2.2)))
def M_laws_markIntSM1 (aaZ0 : Int) (abZ0 : List Int) : Option (Int × List Int) :=
  (iter (M_laws_markIntSM1L1) N0 (aaZ0, 0, abZ0)).bind fun oZ7 => some (oZ7.1, oZ7.2)
def M_laws_markIntSSM1L1 (sZ1 : Int × Int × List (List Int)) : Option ((Int × Int × List (List Int)) ⊕ (Int × List (List Int))) :=
  cond (decide (sZ1.2.1 < (sZ1.2.2.length : Int))) ((grd (0 ≤ sZ1.2.1 ∧ sZ1.2.1 < (sZ1.2.2.length : Int))).bind fun kZ3 => (sZ1.2.2[(Int.toNat sZ1.2.1)]?).bind fun yZ4 => (M_laws_markIntSM1 sZ1.1 yZ4).bind fun rZ5 => bnd (sZ1.2.2.set (Int.toNat sZ1.2.1) rZ5.2) fun lZ6 => some (.inl (rZ5.1, IntKind.wrap .i64 (sZ1.2.1 + 1), lZ6))) (some (.inr (sZ1.1, sZ1.2.2)))
def M_laws_markIntSSM1 (aaZ0 : Int) (abZ0 : List (List Int)) : Option (Int × List (List Int)) :=
  (iter (M_laws_markIntSSM1L1) N0 (aaZ0, 0, abZ0)).bind fun oZ8 => some (oZ8.1, oZ8.2)
def M_laws_heldIntSL1 (aZ0 : List Int) (sZ1 : Int × Int) : Option ((Int × Int) ⊕ (Int ⊕ Int)) :=
  cond (decide (sZ1.2 < (aZ0.length : Int))) ((geti aZ0 sZ1.2).bind fun yZ3 => cond (yZ3 != sZ1.1) (some (.inr (.inr (-1)))) (some (.inl (IntKind.wrap .i64 (sZ1.1 + 1), IntKind.wrap .i64 (sZ1.2 + 1))))) (some (.inr (.inl sZ1.1)))
def M_laws_heldIntS (aZ0 : List Int) (kZ0 : Int) : Option Int :=
  (iter (M_laws_heldIntSL1 aZ0) N0 (kZ0, 0)).bind fun oZ5 => (match oZ5 with | .inl vZ6 => some vZ6 | .inr xZ7 => some xZ7)
def M_laws_FnExactLinkLoads (aLinksZ0 : List TLink) (aNodesZ0 : Int) (aListZ0 : List TTributary) (aRoutesZ0 : List (List Int)) : Option Bool :=
  (M_laws_szLinkS aLinksZ0 1048576).bind fun rZ1 => cond (decide (rZ1 < 0)) (some true) ((M_laws_szTributaryS aListZ0 rZ1).bind fun rZ3 => cond (decide (rZ3 < 0)) (some true) ((M_laws_szIntSS aRoutesZ0 rZ3).bind fun rZ5 => cond (decide (rZ5 < 0)) (some true) ((M_laws_toLinkS aLinksZ0).bind fun rZ7 => (M_laws_toTributaryS aListZ0).bind fun rZ8 => (M_laws_toIntSS aRoutesZ0).bind fun rZ9 => (M_spec_LinkLoads rZ7 aNodesZ0 rZ8 rZ9).bind fun rZ10 => (M_laws_toLinkS aLinksZ0).bind fun rZ11 => (M_laws_toTributaryS aListZ0).bind fun rZ12 => (M_laws_toIntSS aRoutesZ0).bind fun rZ13 => (M_impl_LinkLoads rZ11 aNodesZ0 rZ12 rZ13).bind fun rZ14 => ((M_laws_eqIntS rZ14.1 rZ10.1).bind fun rZ15 => cond (!rZ15) (some true) (some (!(rZ14.2 == rZ10.2))) : Option Bool).bind fun oZ17 => cond (oZ17) (some false) ((M_laws_toLinkS aLinksZ0).bind fun rZ19 => (M_laws_eqLinkS rZ11 rZ19).bind fun rZ20 => cond (!rZ20) (some false) ((M_laws_toTributaryS aListZ0).bind fun rZ22 => (M_laws_eqTributaryS rZ12 rZ22).bind fun rZ23 => cond (!rZ23) (some false) ((M_laws_toIntSS aRoutesZ0).bind fun rZ25 => (M_laws_eqIntSS rZ13 rZ25).bind fun rZ26 => cond (!rZ26) (some false) ((M_laws_markLinkSM1 1 rZ11).bind fun rZ28 => (M_laws_markTributarySM1 rZ28.1 rZ12).bind fun rZ29 => (M_laws_markIntSSM1 rZ29.1 rZ13).bind fun rZ30 => (cond (decide (rZ30.1 < 0)) (some true) ((M_laws_eqIntS rZ14.1 rZ10.1).bind fun rZ32 => cond (!rZ32) (some true) (some (!(rZ14.2 == rZ10.2)))) : Option Bool).bind fun oZ34 => cond (oZ34) (some false) ((M_laws_markIntSM1 1 rZ14.1).bind fun rZ36 => bnd (subT rZ36.2 0 rZ14.1.length) fun lZ37 => (M_laws_heldIntS lZ37 1).bind fun rZ39 => cond (decide (rZ39 < 0)) (some false) (cond (rZ39 != rZ36.1) (some false) ((M_laws_toLinkS aLinksZ0).bind fun rZ42 => (M_laws_toTributaryS aListZ0).bind fun rZ43 => (M_laws_toIntSS aRoutesZ0).bind fun rZ44 => (M_impl_LinkLoads rZ42 aNodesZ0 rZ43 rZ44).bind fun rZ45 => ((M_laws_eqIntS rZ45.1 rZ10.1).bind fun rZ46 => cond (!rZ46) (some true) (some (!(rZ45.2 == rZ10.2))) : Option Bool).bind fun oZ48 => cond (oZ48) (some false) ((M_laws_heldIntS lZ37 1).bind fun rZ50 => cond (decide (rZ50 < 0)) (some false) (cond (rZ50 != rZ36.1) (some false) (some true)))))))))))))
end Vs

namespace Vs
open Go Go.Proofs
theorem hmix : Try.prog.follows .mixedOrders = true := Try.checked.mixed
def A25 : ACode := (.seq (.reg [⟨(some 4), .mv (.c (.i 0)), none⟩] []) (.seq (.reg [⟨(some 5), .mv (.t 1), none⟩,
    ⟨(some 6), .mv (.t 0), none⟩,
    ⟨(some 7), .len (.t 6), none⟩,
    ⟨(some 8), .bin .sub (.t 5) (.t 7), none⟩,
    ⟨(some 1), .mv (.t 8), none⟩] []) (.seq (.seq (.reg [⟨(some 9), .mv (.t 1), none⟩,
    ⟨(some 10), .bin .lss (.t 9) (.c (.i 0)), none⟩] []) (.cond (.t 10) (.seq (.reg [⟨(some 4), .mv (.c (.i (-1))), none⟩] []) .ret) .skip)) (.seq (.reg [⟨(some 11), .mv (.t 1), none⟩,
    ⟨(some 4), .mv (.t 11), none⟩] []) .ret))))
def V25 : List RV := [.t 4]
theorem m25 : mtcF Try.prog 25 2 A25 V25 = true := by kernel_rfl
def A14 : ACode := (.seq (.reg [⟨(some 4), .mv (.c (.i 0)), none⟩] []) (.seq (.reg [⟨(some 5), .mv (.t 1), none⟩,
    ⟨(some 6), .mv (.t 0), none⟩,
    ⟨(some 7), .len (.t 6), none⟩,
    ⟨(some 8), .bin .sub (.t 5) (.t 7), none⟩,
    ⟨(some 1), .mv (.t 8), none⟩] []) (.seq (.seq (.reg [⟨(some 9), .mv (.t 1), none⟩,
    ⟨(some 10), .bin .lss (.t 9) (.c (.i 0)), none⟩] []) (.cond (.t 10) (.seq (.reg [⟨(some 4), .mv (.c (.i (-1))), none⟩] []) .ret) .skip)) (.seq (.reg [⟨(some 11), .mv (.t 1), none⟩,
    ⟨(some 4), .mv (.t 11), none⟩] []) .ret))))
def V14 : List RV := [.t 4]
theorem m14 : mtcF Try.prog 14 2 A14 V14 = true := by kernel_rfl
def A78 : ACode := (.seq (.reg [⟨(some 4), .mv (.c (.i 0)), none⟩] []) (.seq (.reg [⟨(some 5), .mv (.t 1), none⟩,
    ⟨(some 6), .mv (.t 0), none⟩,
    ⟨(some 7), .len (.t 6), none⟩,
    ⟨(some 8), .bin .sub (.t 5) (.t 7), none⟩,
    ⟨(some 1), .mv (.t 8), none⟩] []) (.seq (.seq (.reg [⟨(some 9), .mv (.t 1), none⟩,
    ⟨(some 10), .bin .lss (.t 9) (.c (.i 0)), none⟩] []) (.cond (.t 10) (.seq (.reg [⟨(some 4), .mv (.c (.i (-1))), none⟩] []) .ret) .skip)) (.seq (.reg [⟨(some 11), .mv (.t 1), none⟩,
    ⟨(some 4), .mv (.t 11), none⟩] []) .ret))))
def V78 : List RV := [.t 4]
theorem m78 : mtcF Try.prog 78 2 A78 V78 = true := by kernel_rfl
def A36L1 : ACode := (.seq (.seq (.reg [⟨(some 12), .mv (.t 5), none⟩,
    ⟨(some 13), .mv (.t 0), none⟩,
    ⟨(some 14), .len (.t 13), none⟩,
    ⟨(some 15), .bin .lss (.t 12) (.t 14), none⟩] []) (.cond (.t 15) .skip (.exit 0))) (.seq (.blk 1 (.seq (.reg [⟨(some 18), .mv (.t 0), none⟩,
    ⟨(some 19), .mv (.t 5), none⟩,
    ⟨(some 20), .idx 1 (.t 18) (.t 19), none⟩,
    ⟨(some 21), .load 1 false (.t 20), none⟩,
    ⟨(some 22), .mv (.t 1), none⟩,
    ⟨(some 23), .call 78 [(.t 21), (.t 22)], none⟩,
    ⟨(some 1), .mv (.t 23), none⟩] []) (.seq (.reg [⟨(some 24), .mv (.t 1), none⟩,
    ⟨(some 25), .bin .lss (.t 24) (.c (.i 0)), none⟩] []) (.cond (.t 25) (.seq (.reg [⟨(some 4), .mv (.c (.i (-1))), none⟩] []) .ret) .skip)))) (.reg [⟨(some 16), .mv (.t 5), none⟩,
    ⟨(some 17), .bin .add (.t 16) (.c (.i 1)), none⟩,
    ⟨(some 5), .mv (.t 17), none⟩] [])))
def A36R2 : ACode := (.seq (.reg [⟨(some 26), .mv (.t 1), none⟩,
    ⟨(some 4), .mv (.t 26), none⟩] []) .ret)
def A36 : ACode := (.seq (.reg [⟨(some 4), .mv (.c (.i 0)), none⟩] []) (.seq (.reg [⟨(some 6), .mv (.t 1), none⟩,
    ⟨(some 7), .mv (.t 0), none⟩,
    ⟨(some 8), .len (.t 7), none⟩,
    ⟨(some 9), .bin .sub (.t 6) (.t 8), none⟩,
    ⟨(some 1), .mv (.t 9), none⟩] []) (.seq (.seq (.reg [⟨(some 10), .mv (.t 1), none⟩,
    ⟨(some 11), .bin .lss (.t 10) (.c (.i 0)), none⟩] []) (.cond (.t 11) (.seq (.reg [⟨(some 4), .mv (.c (.i (-1))), none⟩] []) .ret) .skip)) (.seqa (.reg [⟨(some 5), .mv (.c (.i 0)), none⟩] []) (.blk 0 (.loop A36L1)) [1] [] A36R2))))
def V36 : List RV := [.t 4]
theorem m36 : mtcF Try.prog 36 2 A36 V36 = true := by kernel_rfl
def A69 : ACode := (.seq (.reg [⟨(some 1), .box 3 (.t 0), none⟩,
    ⟨(some 2), .alloc (.agg [.i 0, .i 0, .i 0]), none⟩] []) (.seq (.reg [⟨(some 3), .alloc (.agg [.i 0, .i 0, .i 0]), none⟩] []) (.seq (.reg [⟨(some 4), .fad 0 (.t 1), none⟩,
    ⟨(some 5), .load 1 false (.t 4), none⟩,
    ⟨(some 6), .fad 0 (.t 3), none⟩,
    ⟨none, .store 1 (.t 6) (.t 5), none⟩] []) (.seq (.reg [⟨(some 7), .fad 1 (.t 1), none⟩,
    ⟨(some 8), .load 1 false (.t 7), none⟩,
    ⟨(some 9), .fad 1 (.t 3), none⟩,
    ⟨none, .store 1 (.t 9) (.t 8), none⟩] []) (.seq (.reg [⟨(some 10), .fad 2 (.t 1), none⟩,
    ⟨(some 11), .load 1 false (.t 10), none⟩,
    ⟨(some 12), .fad 2 (.t 3), none⟩,
    ⟨none, .store 1 (.t 12) (.t 11), none⟩] []) (.seq (.reg [⟨(some 13), .load 3 true (.t 3), none⟩,
    ⟨none, .store 3 (.t 2) (.t 13), none⟩] []) .ret))))))
def V69 : List RV := [.c 2 3 true]
theorem m69 : mtcF Try.prog 69 1 A69 V69 = true := by kernel_rfl
def A27L1 : ACode := (.seq (.seq (.reg [⟨(some 8), .mv (.t 4), none⟩,
    ⟨(some 9), .mv (.t 0), none⟩,
    ⟨(some 10), .len (.t 9), none⟩,
    ⟨(some 11), .bin .lss (.t 8) (.t 10), none⟩] []) (.cond (.t 11) .skip (.exit 0))) (.seq (.blk 1 (.reg [⟨(some 14), .mv (.t 3), none⟩,
    ⟨(some 15), .mv (.t 4), none⟩,
    ⟨(some 16), .mv (.t 0), none⟩,
    ⟨(some 17), .mv (.t 4), none⟩,
    ⟨(some 18), .idx 3 (.t 16) (.t 17), none⟩,
    ⟨(some 19), .load 3 true (.t 18), none⟩,
    ⟨(some 20), .call 69 [(.t 19)], none⟩,
    ⟨(some 21), .idx 3 (.t 14) (.t 15), none⟩,
    ⟨none, .store 3 (.t 21) (.t 20), none⟩] [])) (.reg [⟨(some 12), .mv (.t 4), none⟩,
    ⟨(some 13), .bin .add (.t 12) (.c (.i 1)), none⟩,
    ⟨(some 4), .mv (.t 13), none⟩] [])))
def A27R2 : ACode := (.seq (.reg [⟨(some 22), .mv (.t 3), none⟩,
    ⟨(some 2), .mv (.t 22), none⟩] [2]) .ret)
def A27 : ACode := (.seq (.reg [⟨(some 2), .mv (.c (.lst .u 3 [])), none⟩] [2]) (.seq (.reg [⟨(some 5), .mv (.t 0), none⟩,
    ⟨(some 6), .len (.t 5), none⟩,
    ⟨(some 7), .mks 3 (.agg [.i 0, .i 0, .i 0]) 24 (.t 6) (.t 6), none⟩,
    ⟨(some 3), .mv (.t 7), none⟩] [3]) (.seqa (.reg [⟨(some 4), .mv (.c (.i 0)), none⟩] []) (.blk 0 (.loop A27L1)) [3] [3] A27R2)))
def V27 : List RV := [.t 2]
theorem m27 : mtcF Try.prog 27 1 A27 V27 = true := by kernel_rfl
def A28 : ACode := (.seq (.reg [⟨(some 1), .box 3 (.t 0), none⟩,
    ⟨(some 2), .alloc (.agg [.i 0, .i 0, .i 0]), none⟩] []) (.seq (.reg [⟨(some 3), .alloc (.agg [.i 0, .i 0, .i 0]), none⟩] []) (.seq (.reg [⟨(some 4), .fad 0 (.t 1), none⟩,
    ⟨(some 5), .load 1 false (.t 4), none⟩,
    ⟨(some 6), .fad 0 (.t 3), none⟩,
    ⟨none, .store 1 (.t 6) (.t 5), none⟩] []) (.seq (.reg [⟨(some 7), .fad 1 (.t 1), none⟩,
    ⟨(some 8), .load 1 false (.t 7), none⟩,
    ⟨(some 9), .fad 1 (.t 3), none⟩,
    ⟨none, .store 1 (.t 9) (.t 8), none⟩] []) (.seq (.reg [⟨(some 10), .fad 2 (.t 1), none⟩,
    ⟨(some 11), .load 1 false (.t 10), none⟩,
    ⟨(some 12), .fad 2 (.t 3), none⟩,
    ⟨none, .store 1 (.t 12) (.t 11), none⟩] []) (.seq (.reg [⟨(some 13), .load 3 true (.t 3), none⟩,
    ⟨none, .store 3 (.t 2) (.t 13), none⟩] []) .ret))))))
def V28 : List RV := [.c 2 3 true]
theorem m28 : mtcF Try.prog 28 1 A28 V28 = true := by kernel_rfl
def A16L1 : ACode := (.seq (.seq (.reg [⟨(some 8), .mv (.t 4), none⟩,
    ⟨(some 9), .mv (.t 0), none⟩,
    ⟨(some 10), .len (.t 9), none⟩,
    ⟨(some 11), .bin .lss (.t 8) (.t 10), none⟩] []) (.cond (.t 11) .skip (.exit 0))) (.seq (.blk 1 (.reg [⟨(some 14), .mv (.t 3), none⟩,
    ⟨(some 15), .mv (.t 4), none⟩,
    ⟨(some 16), .mv (.t 0), none⟩,
    ⟨(some 17), .mv (.t 4), none⟩,
    ⟨(some 18), .idx 3 (.t 16) (.t 17), none⟩,
    ⟨(some 19), .load 3 true (.t 18), none⟩,
    ⟨(some 20), .call 28 [(.t 19)], none⟩,
    ⟨(some 21), .idx 3 (.t 14) (.t 15), none⟩,
    ⟨none, .store 3 (.t 21) (.t 20), none⟩] [])) (.reg [⟨(some 12), .mv (.t 4), none⟩,
    ⟨(some 13), .bin .add (.t 12) (.c (.i 1)), none⟩,
    ⟨(some 4), .mv (.t 13), none⟩] [])))
def A16R2 : ACode := (.seq (.reg [⟨(some 22), .mv (.t 3), none⟩,
    ⟨(some 2), .mv (.t 22), none⟩] [2]) .ret)
def A16 : ACode := (.seq (.reg [⟨(some 2), .mv (.c (.lst .u 3 [])), none⟩] [2]) (.seq (.reg [⟨(some 5), .mv (.t 0), none⟩,
    ⟨(some 6), .len (.t 5), none⟩,
    ⟨(some 7), .mks 3 (.agg [.i 0, .i 0, .i 0]) 24 (.t 6) (.t 6), none⟩,
    ⟨(some 3), .mv (.t 7), none⟩] [3]) (.seqa (.reg [⟨(some 4), .mv (.c (.i 0)), none⟩] []) (.blk 0 (.loop A16L1)) [3] [3] A16R2)))
def V16 : List RV := [.t 2]
theorem m16 : mtcF Try.prog 16 1 A16 V16 = true := by kernel_rfl
def A20L1 : ACode := (.seq (.seq (.reg [⟨(some 8), .mv (.t 4), none⟩,
    ⟨(some 9), .mv (.t 0), none⟩,
    ⟨(some 10), .len (.t 9), none⟩,
    ⟨(some 11), .bin .lss (.t 8) (.t 10), none⟩] []) (.cond (.t 11) .skip (.exit 0))) (.seq (.blk 1 (.reg [⟨(some 14), .mv (.t 3), none⟩,
    ⟨(some 15), .mv (.t 4), none⟩,
    ⟨(some 16), .mv (.t 0), none⟩,
    ⟨(some 17), .mv (.t 4), none⟩,
    ⟨(some 18), .idx 1 (.t 16) (.t 17), none⟩,
    ⟨(some 19), .load 1 false (.t 18), none⟩,
    ⟨(some 20), .idx 1 (.t 14) (.t 15), none⟩,
    ⟨none, .store 1 (.t 20) (.t 19), none⟩] [])) (.reg [⟨(some 12), .mv (.t 4), none⟩,
    ⟨(some 13), .bin .add (.t 12) (.c (.i 1)), none⟩,
    ⟨(some 4), .mv (.t 13), none⟩] [])))
def A20R2 : ACode := (.seq (.reg [⟨(some 21), .mv (.t 3), none⟩,
    ⟨(some 2), .mv (.t 21), none⟩] [2]) .ret)
def A20 : ACode := (.seq (.reg [⟨(some 2), .mv (.c (.lst .u 1 [])), none⟩] [2]) (.seq (.reg [⟨(some 5), .mv (.t 0), none⟩,
    ⟨(some 6), .len (.t 5), none⟩,
    ⟨(some 7), .mks 1 (.i 0) 8 (.t 6) (.t 6), none⟩,
    ⟨(some 3), .mv (.t 7), none⟩] [3]) (.seqa (.reg [⟨(some 4), .mv (.c (.i 0)), none⟩] []) (.blk 0 (.loop A20L1)) [3] [3] A20R2)))
def V20 : List RV := [.t 2]
theorem m20 : mtcF Try.prog 20 1 A20 V20 = true := by kernel_rfl
def A38L1 : ACode := (.seq (.seq (.reg [⟨(some 8), .mv (.t 4), none⟩,
    ⟨(some 9), .mv (.t 0), none⟩,
    ⟨(some 10), .len (.t 9), none⟩,
    ⟨(some 11), .bin .lss (.t 8) (.t 10), none⟩] []) (.cond (.t 11) .skip (.exit 0))) (.seq (.blk 1 (.reg [⟨(some 14), .mv (.t 3), none⟩,
    ⟨(some 15), .mv (.t 4), none⟩,
    ⟨(some 16), .mv (.t 0), none⟩,
    ⟨(some 17), .mv (.t 4), none⟩,
    ⟨(some 18), .idx 1 (.t 16) (.t 17), none⟩,
    ⟨(some 19), .load 1 false (.t 18), none⟩,
    ⟨(some 20), .call 20 [(.t 19)], none⟩,
    ⟨(some 21), .idx 1 (.t 14) (.t 15), none⟩,
    ⟨none, .store 1 (.t 21) (.t 20), none⟩] [])) (.reg [⟨(some 12), .mv (.t 4), none⟩,
    ⟨(some 13), .bin .add (.t 12) (.c (.i 1)), none⟩,
    ⟨(some 4), .mv (.t 13), none⟩] [])))
def A38R2 : ACode := (.seq (.reg [⟨(some 22), .mv (.t 3), none⟩,
    ⟨(some 2), .mv (.t 22), none⟩] [2]) .ret)
def A38 : ACode := (.seq (.reg [⟨(some 2), .mv (.c (.lst .u 1 [])), none⟩] [2]) (.seq (.reg [⟨(some 5), .mv (.t 0), none⟩,
    ⟨(some 6), .len (.t 5), none⟩,
    ⟨(some 7), .mks 1 (.lst .u 1 []) 24 (.t 6) (.t 6), none⟩,
    ⟨(some 3), .mv (.t 7), none⟩] [3]) (.seqa (.reg [⟨(some 4), .mv (.c (.i 0)), none⟩] []) (.blk 0 (.loop A38L1)) [3] [3] A38R2)))
def V38 : List RV := [.t 2]
theorem m38 : mtcF Try.prog 38 1 A38 V38 = true := by kernel_rfl
def A67 : ACode := (.seq (.reg [⟨(some 6), .mv (.c (.b false)), none⟩] []) (.seq (.reg [⟨(some 7), .mv (.t 0), none⟩,
    ⟨(some 8), .mv (.t 1), none⟩,
    ⟨(some 9), .bin .geq (.t 7) (.t 8), none⟩,
    ⟨(some 10), .mv (.t 9), none⟩,
    ⟨(some 11), .mv (.t 0), (some (10, true))⟩,
    ⟨(some 12), .mv (.t 2), (some (10, true))⟩,
    ⟨(some 13), .bin .leq (.t 11) (.t 12), (some (10, true))⟩,
    ⟨(some 14), .pick (.t 10) (.t 13) (.c (.b false)), none⟩,
    ⟨(some 6), .mv (.t 14), none⟩] []) .ret))
def V67 : List RV := [.t 6]
theorem m67 : mtcF Try.prog 67 3 A67 V67 = true := by kernel_rfl
def A95 : ACode := (.seq (.reg [⟨(some 6), .mv (.c (.b false)), none⟩] []) (.seq (.reg [⟨(some 7), .mv (.t 0), none⟩,
    ⟨(some 8), .mv (.t 2), none⟩,
    ⟨(some 9), .bin .sub (.t 8) (.c (.i 1)), none⟩,
    ⟨(some 10), .call 67 [(.t 7), (.c (.i 0)), (.t 9)], none⟩,
    ⟨(some 11), .mv (.t 10), none⟩,
    ⟨(some 12), .mv (.t 1), (some (11, true))⟩,
    ⟨(some 13), .mv (.t 2), (some (11, true))⟩,
    ⟨(some 14), .bin .sub (.t 13) (.c (.i 1)), (some (11, true))⟩,
    ⟨(some 15), .call 67 [(.t 12), (.c (.i 0)), (.t 14)], (some (11, true))⟩,
    ⟨(some 16), .pick (.t 11) (.t 15) (.c (.b false)), none⟩,
    ⟨(some 17), .mv (.t 16), none⟩,
    ⟨(some 18), .mv (.t 0), (some (17, true))⟩,
    ⟨(some 19), .mv (.t 1), (some (17, true))⟩,
    ⟨(some 20), .bin .neq (.t 18) (.t 19), (some (17, true))⟩,
    ⟨(some 21), .pick (.t 17) (.t 20) (.c (.b false)), none⟩,
    ⟨(some 6), .mv (.t 21), none⟩] []) .ret))
def V95 : List RV := [.t 6]
theorem m95 : mtcF Try.prog 95 3 A95 V95 = true := by kernel_rfl
def A66R1 : ACode := (.cond (.t 13) .skip (.exit 0))
def A66R2 : ACode := (.cond (.t 37) (.seq (.reg [⟨(some 4), .mv (.c (.b false)), none⟩] []) .ret) .skip)
def A66L3 : ACode := (.seq (.seqr (.reg [⟨(some 6), .mv (.t 5), none⟩,
    ⟨(some 7), .mv (.t 0), none⟩,
    ⟨(some 8), .len (.t 7), none⟩,
    ⟨(some 9), .bin .lss (.t 6) (.t 8), none⟩,
    ⟨(some 10), .mv (.t 9), none⟩,
    ⟨(some 11), .mv (.t 5), (some (10, true))⟩,
    ⟨(some 12), .bin .leq (.t 11) (.c (.i 12)), (some (10, true))⟩,
    ⟨(some 13), .pick (.t 10) (.t 12) (.c (.b false)), none⟩] []) [0, 1, 5, 13] [] A66R1) (.seq (.blk 1 (.seqr (.drw [⟨(some 16), .mv (.t 0), none⟩,
    ⟨(some 17), .mv (.t 5), none⟩,
    ⟨(some 18), .idx 3 (.t 16) (.t 17), none⟩,
    ⟨(some 19), .fad 0 (.t 18), none⟩,
    ⟨(some 20), .load 1 false (.t 19), none⟩,
    ⟨(some 21), .mv (.t 0), none⟩,
    ⟨(some 22), .mv (.t 5), none⟩,
    ⟨(some 23), .idx 3 (.t 21) (.t 22), none⟩,
    ⟨(some 24), .fad 1 (.t 23), none⟩,
    ⟨(some 25), .load 1 false (.t 24), none⟩,
    ⟨(some 26), .mv (.t 1), none⟩,
    ⟨(some 27), .call 95 [(.t 20), (.t 25), (.t 26)], none⟩,
    ⟨(some 28), .un .not (.t 27), none⟩,
    ⟨(some 29), .mv (.t 28), none⟩,
    ⟨(some 30), .mv (.t 0), (some (29, false))⟩,
    ⟨(some 31), .mv (.t 5), (some (29, false))⟩,
    ⟨(some 32), .idx 3 (.t 30) (.t 31), (some (29, false))⟩,
    ⟨(some 33), .fad 2 (.t 32), (some (29, false))⟩,
    ⟨(some 34), .load 1 false (.t 33), (some (29, false))⟩,
    ⟨(some 35), .call 67 [(.t 34), (.c (.i 0)), (.c (.i 10000))], (some (29, false))⟩,
    ⟨(some 36), .un .not (.t 35), (some (29, false))⟩,
    ⟨(some 37), .pick (.t 29) (.c (.b true)) (.t 36), none⟩] []) [0, 1, 5, 37] [] A66R2)) (.reg [⟨(some 14), .mv (.t 5), none⟩,
    ⟨(some 15), .bin .add (.t 14) (.c (.i 1)), none⟩,
    ⟨(some 5), .mv (.t 15), none⟩] [])))
def A66R4 : ACode := (.seq (.reg [⟨(some 38), .mv (.t 1), none⟩,
    ⟨(some 39), .call 67 [(.t 38), (.c (.i 2)), (.c (.i 8))], none⟩,
    ⟨(some 40), .mv (.t 39), none⟩,
    ⟨(some 41), .mv (.t 0), (some (40, true))⟩,
    ⟨(some 42), .len (.t 41), (some (40, true))⟩,
    ⟨(some 43), .bin .leq (.t 42) (.c (.i 12)), (some (40, true))⟩,
    ⟨(some 44), .pick (.t 40) (.t 43) (.c (.b false)), none⟩,
    ⟨(some 4), .mv (.t 44), none⟩] []) .ret)
def A66 : ACode := (.seq (.reg [⟨(some 4), .mv (.c (.b false)), none⟩] []) (.seqa (.reg [⟨(some 5), .mv (.c (.i 0)), none⟩] []) (.blk 0 (.loop A66L3)) [0, 1] [] A66R4))
def V66 : List RV := [.t 4]
theorem m66 : mtcF Try.prog 66 2 A66 V66 = true := by kernel_rfl
def A54R1 : ACode := (.cond (.t 13) .skip (.exit 0))
def A54R2 : ACode := (.cond (.t 37) (.seq (.reg [⟨(some 4), .mv (.c (.b false)), none⟩] []) .ret) .skip)
def A54L3 : ACode := (.seq (.seqr (.reg [⟨(some 6), .mv (.t 5), none⟩,
    ⟨(some 7), .mv (.t 0), none⟩,
    ⟨(some 8), .len (.t 7), none⟩,
    ⟨(some 9), .bin .lss (.t 6) (.t 8), none⟩,
    ⟨(some 10), .mv (.t 9), none⟩,
    ⟨(some 11), .mv (.t 5), (some (10, true))⟩,
    ⟨(some 12), .bin .leq (.t 11) (.c (.i 12)), (some (10, true))⟩,
    ⟨(some 13), .pick (.t 10) (.t 12) (.c (.b false)), none⟩] []) [0, 1, 5, 13] [] A54R1) (.seq (.blk 1 (.seqr (.drw [⟨(some 16), .mv (.t 0), none⟩,
    ⟨(some 17), .mv (.t 5), none⟩,
    ⟨(some 18), .idx 3 (.t 16) (.t 17), none⟩,
    ⟨(some 19), .fad 0 (.t 18), none⟩,
    ⟨(some 20), .load 1 false (.t 19), none⟩,
    ⟨(some 21), .mv (.t 0), none⟩,
    ⟨(some 22), .mv (.t 5), none⟩,
    ⟨(some 23), .idx 3 (.t 21) (.t 22), none⟩,
    ⟨(some 24), .fad 1 (.t 23), none⟩,
    ⟨(some 25), .load 1 false (.t 24), none⟩,
    ⟨(some 26), .mv (.t 1), none⟩,
    ⟨(some 27), .call 95 [(.t 20), (.t 25), (.t 26)], none⟩,
    ⟨(some 28), .un .not (.t 27), none⟩,
    ⟨(some 29), .mv (.t 28), none⟩,
    ⟨(some 30), .mv (.t 0), (some (29, false))⟩,
    ⟨(some 31), .mv (.t 5), (some (29, false))⟩,
    ⟨(some 32), .idx 3 (.t 30) (.t 31), (some (29, false))⟩,
    ⟨(some 33), .fad 2 (.t 32), (some (29, false))⟩,
    ⟨(some 34), .load 1 false (.t 33), (some (29, false))⟩,
    ⟨(some 35), .call 67 [(.t 34), (.c (.i 1)), (.c (.i 1000))], (some (29, false))⟩,
    ⟨(some 36), .un .not (.t 35), (some (29, false))⟩,
    ⟨(some 37), .pick (.t 29) (.c (.b true)) (.t 36), none⟩] []) [0, 1, 5, 37] [] A54R2)) (.reg [⟨(some 14), .mv (.t 5), none⟩,
    ⟨(some 15), .bin .add (.t 14) (.c (.i 1)), none⟩,
    ⟨(some 5), .mv (.t 15), none⟩] [])))
def A54R4 : ACode := (.seq (.reg [⟨(some 38), .mv (.t 1), none⟩,
    ⟨(some 39), .call 67 [(.t 38), (.c (.i 2)), (.c (.i 8))], none⟩,
    ⟨(some 40), .mv (.t 39), none⟩,
    ⟨(some 41), .mv (.t 0), (some (40, true))⟩,
    ⟨(some 42), .len (.t 41), (some (40, true))⟩,
    ⟨(some 43), .bin .leq (.t 42) (.c (.i 12)), (some (40, true))⟩,
    ⟨(some 44), .pick (.t 40) (.t 43) (.c (.b false)), none⟩,
    ⟨(some 4), .mv (.t 44), none⟩] []) .ret)
def A54 : ACode := (.seq (.reg [⟨(some 4), .mv (.c (.b false)), none⟩] []) (.seqa (.reg [⟨(some 5), .mv (.c (.i 0)), none⟩] []) (.blk 0 (.loop A54L3)) [0, 1] [] A54R4))
def V54 : List RV := [.t 4]
theorem m54 : mtcF Try.prog 54 2 A54 V54 = true := by kernel_rfl
def A79L1 : ACode := (.seq (.seq (.reg [⟨(some 6), .mv (.t 5), none⟩,
    ⟨(some 7), .mv (.t 0), none⟩,
    ⟨(some 8), .len (.t 7), none⟩,
    ⟨(some 9), .bin .lss (.t 6) (.t 8), none⟩] []) (.cond (.t 9) .skip (.exit 0))) (.seq (.blk 1 (.seq (.reg [⟨(some 12), .mv (.t 0), none⟩,
    ⟨(some 13), .mv (.t 5), none⟩,
    ⟨(some 14), .idx 1 (.t 12) (.t 13), none⟩,
    ⟨(some 15), .load 1 false (.t 14), none⟩,
    ⟨(some 16), .mv (.t 1), none⟩,
    ⟨(some 17), .bin .eql (.t 15) (.t 16), none⟩] []) (.cond (.t 17) (.seq (.reg [⟨(some 4), .mv (.c (.b true)), none⟩] []) .ret) .skip))) (.reg [⟨(some 10), .mv (.t 5), none⟩,
    ⟨(some 11), .bin .add (.t 10) (.c (.i 1)), none⟩,
    ⟨(some 5), .mv (.t 11), none⟩] [])))
def A79R2 : ACode := (.seq (.reg [⟨(some 4), .mv (.c (.b false)), none⟩] []) .ret)
def A79 : ACode := (.seq (.reg [⟨(some 4), .mv (.c (.b false)), none⟩] []) (.seqa (.reg [⟨(some 5), .mv (.c (.i 0)), none⟩] []) (.blk 0 (.loop A79L1)) [] [] A79R2))
def V79 : List RV := [.t 4]
theorem m79 : mtcF Try.prog 79 2 A79 V79 = true := by kernel_rfl
def A37R1 : ACode := (.cond (.t 29) (.seq (.reg [⟨(some 30), .bsl 1 false [], none⟩,
    ⟨(some 8), .mv (.t 30), none⟩,
    ⟨(some 9), .mv (.c (.b false)), none⟩] [8]) .ret) .skip)
def A37R2 : ACode := (.cond (.t 76) (.seq (.reg [⟨(some 77), .bsl 1 false [], none⟩,
    ⟨(some 8), .mv (.t 77), none⟩,
    ⟨(some 9), .mv (.c (.b false)), none⟩] [8]) .ret) .skip)
def A37L3 : ACode := (.seq (.seq (.reg [⟨(some 40), .mv (.t 12), none⟩,
    ⟨(some 41), .mv (.t 3), none⟩,
    ⟨(some 42), .mv (.t 11), none⟩,
    ⟨(some 43), .idx 1 (.t 41) (.t 42), none⟩,
    ⟨(some 44), .load 1 false (.t 43), none⟩,
    ⟨(some 45), .len (.t 44), none⟩,
    ⟨(some 46), .bin .lss (.t 40) (.t 45), none⟩] []) (.cond (.t 46) .skip (.exit 2))) (.seq (.blk 3 (.seq (.seqr (.drw [⟨(some 49), .mv (.t 3), none⟩,
    ⟨(some 50), .mv (.t 11), none⟩,
    ⟨(some 51), .idx 1 (.t 49) (.t 50), none⟩,
    ⟨(some 52), .load 1 false (.t 51), none⟩,
    ⟨(some 53), .mv (.t 12), none⟩,
    ⟨(some 54), .idx 1 (.t 52) (.t 53), none⟩,
    ⟨(some 55), .load 1 false (.t 54), none⟩,
    ⟨(some 56), .mv (.t 0), none⟩,
    ⟨(some 57), .len (.t 56), none⟩,
    ⟨(some 58), .bin .sub (.t 57) (.c (.i 1)), none⟩,
    ⟨(some 59), .call 67 [(.t 55), (.c (.i 0)), (.t 58)], none⟩,
    ⟨(some 60), .un .not (.t 59), none⟩,
    ⟨(some 61), .mv (.t 60), none⟩,
    ⟨(some 62), .mv (.t 3), (some (61, false))⟩,
    ⟨(some 63), .mv (.t 11), (some (61, false))⟩,
    ⟨(some 64), .idx 1 (.t 62) (.t 63), (some (61, false))⟩,
    ⟨(some 65), .load 1 false (.t 64), (some (61, false))⟩,
    ⟨(some 66), .mv (.t 12), (some (61, false))⟩,
    ⟨(some 67), .slc 1 (.t 65) none (some (.t 66)) none, (some (61, false))⟩,
    ⟨(some 68), .mv (.t 3), (some (61, false))⟩,
    ⟨(some 69), .mv (.t 11), (some (61, false))⟩,
    ⟨(some 70), .idx 1 (.t 68) (.t 69), (some (61, false))⟩,
    ⟨(some 71), .load 1 false (.t 70), (some (61, false))⟩,
    ⟨(some 72), .mv (.t 12), (some (61, false))⟩,
    ⟨(some 73), .idx 1 (.t 71) (.t 72), (some (61, false))⟩,
    ⟨(some 74), .load 1 false (.t 73), (some (61, false))⟩,
    ⟨(some 75), .call 79 [(.t 67), (.t 74)], (some (61, false))⟩,
    ⟨(some 76), .pick (.t 61) (.c (.b true)) (.t 75), none⟩] []) [0, 2, 3, 10, 11, 12, 76] [10] A37R2) (.drw [⟨(some 78), .mv (.t 10), none⟩,
    ⟨(some 79), .mv (.t 3), none⟩,
    ⟨(some 80), .mv (.t 11), none⟩,
    ⟨(some 81), .idx 1 (.t 79) (.t 80), none⟩,
    ⟨(some 82), .load 1 false (.t 81), none⟩,
    ⟨(some 83), .mv (.t 12), none⟩,
    ⟨(some 84), .idx 1 (.t 82) (.t 83), none⟩,
    ⟨(some 85), .load 1 false (.t 84), none⟩,
    ⟨(some 86), .mv (.t 10), none⟩,
    ⟨(some 87), .mv (.t 3), none⟩,
    ⟨(some 88), .mv (.t 11), none⟩,
    ⟨(some 89), .idx 1 (.t 87) (.t 88), none⟩,
    ⟨(some 90), .load 1 false (.t 89), none⟩,
    ⟨(some 91), .mv (.t 12), none⟩,
    ⟨(some 92), .idx 1 (.t 90) (.t 91), none⟩,
    ⟨(some 93), .load 1 false (.t 92), none⟩,
    ⟨(some 94), .idx 1 (.t 86) (.t 93), none⟩,
    ⟨(some 95), .load 1 false (.t 94), none⟩,
    ⟨(some 96), .mv (.t 2), none⟩,
    ⟨(some 97), .mv (.t 11), none⟩,
    ⟨(some 98), .idx 3 (.t 96) (.t 97), none⟩,
    ⟨(some 99), .fad 2 (.t 98), none⟩,
    ⟨(some 100), .load 1 false (.t 99), none⟩,
    ⟨(some 101), .bin .add (.t 95) (.t 100), none⟩,
    ⟨(some 102), .idx 1 (.t 78) (.t 85), none⟩,
    ⟨none, .store 1 (.t 102) (.t 101), none⟩] []))) (.reg [⟨(some 47), .mv (.t 12), none⟩,
    ⟨(some 48), .bin .add (.t 47) (.c (.i 1)), none⟩,
    ⟨(some 12), .mv (.t 48), none⟩] [])))
def A37R4 : ACode := (.reg [⟨(some 38), .mv (.t 11), none⟩,
    ⟨(some 39), .bin .add (.t 38) (.c (.i 1)), none⟩,
    ⟨(some 11), .mv (.t 39), none⟩] [])
def A37L5 : ACode := (.seq (.seq (.reg [⟨(some 34), .mv (.t 11), none⟩,
    ⟨(some 35), .mv (.t 3), none⟩,
    ⟨(some 36), .len (.t 35), none⟩,
    ⟨(some 37), .bin .lss (.t 34) (.t 36), none⟩] []) (.cond (.t 37) .skip (.exit 0))) (.seqr (.blk 1 (.seq (.reg [⟨(some 12), .mv (.c (.i 0)), none⟩] []) (.blk 2 (.loop A37L3)))) [0, 2, 3, 10, 11] [10] A37R4))
def A37R6 : ACode := (.seq (.reg [⟨(some 103), .mv (.t 10), none⟩,
    ⟨(some 8), .mv (.t 103), none⟩,
    ⟨(some 9), .mv (.c (.b true)), none⟩] [8]) .ret)
def A37 : ACode := (.seq (.reg [⟨(some 8), .mv (.c (.lst .u 1 [])), none⟩,
    ⟨(some 9), .mv (.c (.b false)), none⟩] [8]) (.seq (.seqr (.reg [⟨(some 13), .mv (.t 0), none⟩,
    ⟨(some 14), .mv (.t 1), none⟩,
    ⟨(some 15), .call 66 [(.t 13), (.t 14)], none⟩,
    ⟨(some 16), .un .not (.t 15), none⟩,
    ⟨(some 17), .mv (.t 16), none⟩,
    ⟨(some 18), .mv (.t 2), (some (17, false))⟩,
    ⟨(some 19), .mv (.t 1), (some (17, false))⟩,
    ⟨(some 20), .call 54 [(.t 18), (.t 19)], (some (17, false))⟩,
    ⟨(some 21), .un .not (.t 20), (some (17, false))⟩,
    ⟨(some 22), .pick (.t 17) (.c (.b true)) (.t 21), none⟩,
    ⟨(some 23), .mv (.t 22), none⟩,
    ⟨(some 24), .mv (.t 3), (some (23, false))⟩,
    ⟨(some 25), .len (.t 24), (some (23, false))⟩,
    ⟨(some 26), .mv (.t 2), (some (23, false))⟩,
    ⟨(some 27), .len (.t 26), (some (23, false))⟩,
    ⟨(some 28), .bin .neq (.t 25) (.t 27), (some (23, false))⟩,
    ⟨(some 29), .pick (.t 23) (.c (.b true)) (.t 28), none⟩] []) [0, 2, 3, 29] [] A37R1) (.seq (.reg [⟨(some 31), .mv (.t 0), none⟩,
    ⟨(some 32), .len (.t 31), none⟩,
    ⟨(some 33), .mks 1 (.i 0) 8 (.t 32) (.t 32), none⟩,
    ⟨(some 10), .mv (.t 33), none⟩] [10]) (.seqa (.reg [⟨(some 11), .mv (.c (.i 0)), none⟩] []) (.blk 0 (.loop A37L5)) [10] [10] A37R6))))
def V37 : List RV := [.t 8, .t 9]
theorem m37 : mtcF Try.prog 37 4 A37 V37 = true := by kernel_rfl
def A55 : ACode := (.seq (.reg [⟨(some 6), .mv (.c (.b false)), none⟩] []) (.seq (.reg [⟨(some 7), .mv (.t 1), none⟩,
    ⟨(some 8), .mv (.t 0), none⟩,
    ⟨(some 9), .bin .leq (.t 7) (.t 8), none⟩,
    ⟨(some 10), .mv (.t 9), none⟩,
    ⟨(some 11), .mv (.t 0), (some (10, true))⟩,
    ⟨(some 12), .mv (.t 2), (some (10, true))⟩,
    ⟨(some 13), .bin .leq (.t 11) (.t 12), (some (10, true))⟩,
    ⟨(some 14), .pick (.t 10) (.t 13) (.c (.b false)), none⟩,
    ⟨(some 6), .mv (.t 14), none⟩] []) .ret))
def V55 : List RV := [.t 6]
theorem m55 : mtcF Try.prog 55 3 A55 V55 = true := by kernel_rfl
def A113L1 : ACode := (.seq (.reg [⟨(some 9), .bin .lss (.t 8) (.t 7), none⟩] []) (.seq (.cond (.t 9) .skip (.exit 0)) (.seq (.blk 1 (.seq (.reg [⟨(some 10), .mv (.t 8), none⟩,
    ⟨(some 5), .mv (.t 10), none⟩] []) (.seq (.reg [⟨(some 11), .mv (.t 1), none⟩,
    ⟨(some 12), .mv (.t 0), none⟩,
    ⟨(some 13), .mv (.t 5), none⟩,
    ⟨(some 14), .idx 3 (.t 12) (.t 13), none⟩,
    ⟨(some 15), .load 3 true (.t 14), none⟩,
    ⟨(some 16), .dyn (.t 11) [(.t 15)], none⟩] []) (.cond (.t 16) (.seq (.reg [⟨(some 17), .mv (.t 5), none⟩,
    ⟨(some 4), .mv (.t 17), none⟩] []) .ret) .skip)))) (.reg [⟨(some 18), .bin .add (.t 8) (.c (.i 1)), none⟩,
    ⟨(some 8), .mv (.t 18), none⟩] []))))
def A113R2 : ACode := (.seq (.reg [⟨(some 4), .mv (.c (.i (-1))), none⟩] []) .ret)
def A113 : ACode := (.seq (.reg [⟨(some 4), .mv (.c (.i 0)), none⟩] []) (.seqa (.reg [⟨(some 6), .mv (.t 0), none⟩,
    ⟨(some 7), .len (.t 6), none⟩,
    ⟨(some 8), .mv (.c (.i 0)), none⟩] []) (.blk 0 (.loop A113L1)) [] [] A113R2))
def V113 : List RV := [.t 4]
theorem m113 : mtcF Try.prog 113 2 A113 V113 = true := by kernel_rfl
def A101 : ACode := (.seq (.reg [⟨(some 4), .mv (.c (.b false)), none⟩] []) (.seq (.reg [⟨(some 5), .mv (.t 0), none⟩,
    ⟨(some 6), .mv (.t 1), none⟩,
    ⟨(some 7), .call 113 [(.t 5), (.t 6)], none⟩,
    ⟨(some 8), .bin .geq (.t 7) (.c (.i 0)), none⟩,
    ⟨(some 4), .mv (.t 8), none⟩] []) .ret))
def V101 : List RV := [.t 4]
theorem m101 : mtcF Try.prog 101 2 A101 V101 = true := by kernel_rfl
def A58 : ACode := (.seq (.reg [⟨(some 6), .mv (.c (.b false)), none⟩] []) (.seq (.reg [⟨(some 7), .mv (.t 0), none⟩,
    ⟨(some 8), .mv (.t 2), none⟩,
    ⟨(some 9), .bin .sub (.t 8) (.c (.i 1)), none⟩,
    ⟨(some 10), .call 55 [(.t 7), (.c (.i 0)), (.t 9)], none⟩,
    ⟨(some 11), .mv (.t 10), none⟩,
    ⟨(some 12), .mv (.t 1), (some (11, true))⟩,
    ⟨(some 13), .mv (.t 2), (some (11, true))⟩,
    ⟨(some 14), .bin .sub (.t 13) (.c (.i 1)), (some (11, true))⟩,
    ⟨(some 15), .call 55 [(.t 12), (.c (.i 0)), (.t 14)], (some (11, true))⟩,
    ⟨(some 16), .pick (.t 11) (.t 15) (.c (.b false)), none⟩,
    ⟨(some 17), .mv (.t 16), none⟩,
    ⟨(some 18), .mv (.t 0), (some (17, true))⟩,
    ⟨(some 19), .mv (.t 1), (some (17, true))⟩,
    ⟨(some 20), .bin .neq (.t 18) (.t 19), (some (17, true))⟩,
    ⟨(some 21), .pick (.t 17) (.t 20) (.c (.b false)), none⟩,
    ⟨(some 6), .mv (.t 21), none⟩] []) .ret))
def V58 : List RV := [.t 6]
theorem m58 : mtcF Try.prog 58 3 A58 V58 = true := by kernel_rfl
def A102 : ACode := (.seq (.reg [⟨(some 2), .box 3 (.t 0), none⟩,
    ⟨(some 3), .mv (.c (.b false)), none⟩] []) (.seq (.reg [⟨(some 4), .fad 0 (.t 2), none⟩,
    ⟨(some 5), .load 1 false (.t 4), none⟩,
    ⟨(some 6), .fad 1 (.t 2), none⟩,
    ⟨(some 7), .load 1 false (.t 6), none⟩,
    ⟨(some 8), .load 1 false (.t 1), none⟩,
    ⟨(some 9), .call 58 [(.t 5), (.t 7), (.t 8)], none⟩,
    ⟨(some 10), .un .not (.t 9), none⟩,
    ⟨(some 11), .mv (.t 10), none⟩,
    ⟨(some 12), .fad 2 (.t 2), (some (11, false))⟩,
    ⟨(some 13), .load 1 false (.t 12), (some (11, false))⟩,
    ⟨(some 14), .call 55 [(.t 13), (.c (.i 0)), (.c (.i 10000))], (some (11, false))⟩,
    ⟨(some 15), .un .not (.t 14), (some (11, false))⟩,
    ⟨(some 16), .pick (.t 11) (.c (.b true)) (.t 15), none⟩,
    ⟨(some 3), .mv (.t 16), none⟩] []) .ret))
def V102 : List RV := [.t 3]
theorem m102 : mtcF Try.prog 102 2 A102 V102 = true := by kernel_rfl
def A70 : ACode := (.seq (.reg [⟨(some 3), .box 1 (.t 1), none⟩,
    ⟨(some 4), .mv (.c (.b false)), none⟩] []) (.seq (.reg [⟨(some 5), .load 1 false (.t 3), none⟩,
    ⟨(some 6), .call 55 [(.t 5), (.c (.i 2)), (.c (.i 8))], none⟩,
    ⟨(some 7), .mv (.t 6), none⟩,
    ⟨(some 8), .mv (.t 0), (some (7, true))⟩,
    ⟨(some 9), .len (.t 8), (some (7, true))⟩,
    ⟨(some 10), .bin .leq (.t 9) (.c (.i 12)), (some (7, true))⟩,
    ⟨(some 11), .pick (.t 7) (.t 10) (.c (.b false)), none⟩,
    ⟨(some 12), .mv (.t 11), none⟩,
    ⟨(some 13), .mv (.t 0), (some (12, true))⟩,
    ⟨(some 14), .mkf 102 [(.t 3)], (some (12, true))⟩,
    ⟨(some 15), .call 101 [(.t 13), (.t 14)], (some (12, true))⟩,
    ⟨(some 16), .un .not (.t 15), (some (12, true))⟩,
    ⟨(some 17), .pick (.t 12) (.t 16) (.c (.b false)), none⟩,
    ⟨(some 4), .mv (.t 17), none⟩] []) .ret))
def V70 : List RV := [.t 4]
theorem m70 : mtcF Try.prog 70 2 A70 V70 = true := by kernel_rfl
def A96L1 : ACode := (.seq (.reg [⟨(some 9), .bin .lss (.t 8) (.t 7), none⟩] []) (.seq (.cond (.t 9) .skip (.exit 0)) (.seq (.blk 1 (.seq (.reg [⟨(some 10), .mv (.t 8), none⟩,
    ⟨(some 5), .mv (.t 10), none⟩] []) (.seq (.reg [⟨(some 11), .mv (.t 1), none⟩,
    ⟨(some 12), .mv (.t 0), none⟩,
    ⟨(some 13), .mv (.t 5), none⟩,
    ⟨(some 14), .idx 3 (.t 12) (.t 13), none⟩,
    ⟨(some 15), .load 3 true (.t 14), none⟩,
    ⟨(some 16), .dyn (.t 11) [(.t 15)], none⟩] []) (.cond (.t 16) (.seq (.reg [⟨(some 17), .mv (.t 5), none⟩,
    ⟨(some 4), .mv (.t 17), none⟩] []) .ret) .skip)))) (.reg [⟨(some 18), .bin .add (.t 8) (.c (.i 1)), none⟩,
    ⟨(some 8), .mv (.t 18), none⟩] []))))
def A96R2 : ACode := (.seq (.reg [⟨(some 4), .mv (.c (.i (-1))), none⟩] []) .ret)
def A96 : ACode := (.seq (.reg [⟨(some 4), .mv (.c (.i 0)), none⟩] []) (.seqa (.reg [⟨(some 6), .mv (.t 0), none⟩,
    ⟨(some 7), .len (.t 6), none⟩,
    ⟨(some 8), .mv (.c (.i 0)), none⟩] []) (.blk 0 (.loop A96L1)) [] [] A96R2))
def V96 : List RV := [.t 4]
theorem m96 : mtcF Try.prog 96 2 A96 V96 = true := by kernel_rfl
def A56 : ACode := (.seq (.reg [⟨(some 4), .mv (.c (.b false)), none⟩] []) (.seq (.reg [⟨(some 5), .mv (.t 0), none⟩,
    ⟨(some 6), .mv (.t 1), none⟩,
    ⟨(some 7), .call 96 [(.t 5), (.t 6)], none⟩,
    ⟨(some 8), .bin .geq (.t 7) (.c (.i 0)), none⟩,
    ⟨(some 4), .mv (.t 8), none⟩] []) .ret))
def V56 : List RV := [.t 4]
theorem m56 : mtcF Try.prog 56 2 A56 V56 = true := by kernel_rfl
def A57 : ACode := (.seq (.reg [⟨(some 2), .box 3 (.t 0), none⟩,
    ⟨(some 3), .mv (.c (.b false)), none⟩] []) (.seq (.reg [⟨(some 4), .fad 0 (.t 2), none⟩,
    ⟨(some 5), .load 1 false (.t 4), none⟩,
    ⟨(some 6), .fad 1 (.t 2), none⟩,
    ⟨(some 7), .load 1 false (.t 6), none⟩,
    ⟨(some 8), .load 1 false (.t 1), none⟩,
    ⟨(some 9), .call 58 [(.t 5), (.t 7), (.t 8)], none⟩,
    ⟨(some 10), .un .not (.t 9), none⟩,
    ⟨(some 11), .mv (.t 10), none⟩,
    ⟨(some 12), .fad 2 (.t 2), (some (11, false))⟩,
    ⟨(some 13), .load 1 false (.t 12), (some (11, false))⟩,
    ⟨(some 14), .call 55 [(.t 13), (.c (.i 1)), (.c (.i 1000))], (some (11, false))⟩,
    ⟨(some 15), .un .not (.t 14), (some (11, false))⟩,
    ⟨(some 16), .pick (.t 11) (.c (.b true)) (.t 15), none⟩,
    ⟨(some 3), .mv (.t 16), none⟩] []) .ret))
def V57 : List RV := [.t 3]
theorem m57 : mtcF Try.prog 57 2 A57 V57 = true := by kernel_rfl
def A17 : ACode := (.seq (.reg [⟨(some 3), .box 1 (.t 1), none⟩,
    ⟨(some 4), .mv (.c (.b false)), none⟩] []) (.seq (.reg [⟨(some 5), .load 1 false (.t 3), none⟩,
    ⟨(some 6), .call 55 [(.t 5), (.c (.i 2)), (.c (.i 8))], none⟩,
    ⟨(some 7), .mv (.t 6), none⟩,
    ⟨(some 8), .mv (.t 0), (some (7, true))⟩,
    ⟨(some 9), .len (.t 8), (some (7, true))⟩,
    ⟨(some 10), .bin .leq (.t 9) (.c (.i 12)), (some (7, true))⟩,
    ⟨(some 11), .pick (.t 7) (.t 10) (.c (.b false)), none⟩,
    ⟨(some 12), .mv (.t 11), none⟩,
    ⟨(some 13), .mv (.t 0), (some (12, true))⟩,
    ⟨(some 14), .mkf 57 [(.t 3)], (some (12, true))⟩,
    ⟨(some 15), .call 56 [(.t 13), (.t 14)], (some (12, true))⟩,
    ⟨(some 16), .un .not (.t 15), (some (12, true))⟩,
    ⟨(some 17), .pick (.t 12) (.t 16) (.c (.b false)), none⟩,
    ⟨(some 4), .mv (.t 17), none⟩] []) .ret))
def V17 : List RV := [.t 4]
theorem m17 : mtcF Try.prog 17 2 A17 V17 = true := by kernel_rfl
def A75 : ACode := (.seq (.reg [⟨(some 6), .mv (.c (.b false)), none⟩] []) (.seq (.reg [⟨(some 7), .mv (.t 0), none⟩,
    ⟨(some 8), .mv (.t 1), none⟩,
    ⟨(some 9), .call 70 [(.t 7), (.t 8)], none⟩,
    ⟨(some 10), .mv (.t 9), none⟩,
    ⟨(some 11), .mv (.t 2), (some (10, true))⟩,
    ⟨(some 12), .mv (.t 1), (some (10, true))⟩,
    ⟨(some 13), .call 17 [(.t 11), (.t 12)], (some (10, true))⟩,
    ⟨(some 14), .pick (.t 10) (.t 13) (.c (.b false)), none⟩,
    ⟨(some 6), .mv (.t 14), none⟩] []) .ret))
def V75 : List RV := [.t 6]
theorem m75 : mtcF Try.prog 75 3 A75 V75 = true := by kernel_rfl
def A106L1 : ACode := (.seq (.reg [⟨(some 9), .bin .lss (.t 8) (.t 7), none⟩] []) (.seq (.cond (.t 9) .skip (.exit 0)) (.seq (.blk 1 (.seq (.reg [⟨(some 10), .mv (.t 8), none⟩,
    ⟨(some 5), .mv (.t 10), none⟩] []) (.seq (.reg [⟨(some 11), .mv (.t 1), none⟩,
    ⟨(some 12), .mv (.t 0), none⟩,
    ⟨(some 13), .mv (.t 5), none⟩,
    ⟨(some 14), .idx 1 (.t 12) (.t 13), none⟩,
    ⟨(some 15), .load 1 false (.t 14), none⟩,
    ⟨(some 16), .bin .eql (.t 11) (.t 15), none⟩] []) (.cond (.t 16) (.seq (.reg [⟨(some 17), .mv (.t 5), none⟩,
    ⟨(some 4), .mv (.t 17), none⟩] []) .ret) .skip)))) (.reg [⟨(some 18), .bin .add (.t 8) (.c (.i 1)), none⟩,
    ⟨(some 8), .mv (.t 18), none⟩] []))))
def A106R2 : ACode := (.seq (.reg [⟨(some 4), .mv (.c (.i (-1))), none⟩] []) .ret)
def A106 : ACode := (.seq (.reg [⟨(some 4), .mv (.c (.i 0)), none⟩] []) (.seqa (.reg [⟨(some 6), .mv (.t 0), none⟩,
    ⟨(some 7), .len (.t 6), none⟩,
    ⟨(some 8), .mv (.c (.i 0)), none⟩] []) (.blk 0 (.loop A106L1)) [] [] A106R2))
def V106 : List RV := [.t 4]
theorem m106 : mtcF Try.prog 106 2 A106 V106 = true := by kernel_rfl
def A80 : ACode := (.seq (.reg [⟨(some 4), .mv (.c (.b false)), none⟩] []) (.seq (.reg [⟨(some 5), .mv (.t 0), none⟩,
    ⟨(some 6), .mv (.t 1), none⟩,
    ⟨(some 7), .call 106 [(.t 5), (.t 6)], none⟩,
    ⟨(some 8), .bin .geq (.t 7) (.c (.i 0)), none⟩,
    ⟨(some 4), .mv (.t 8), none⟩] []) .ret))
def V80 : List RV := [.t 4]
theorem m80 : mtcF Try.prog 80 2 A80 V80 = true := by kernel_rfl
def A39R1 : ACode := (.cond (.t 26) (.seq (.reg [⟨(some 8), .mv (.c (.lst .u 1 [])), none⟩,
    ⟨(some 9), .mv (.c (.b false)), none⟩] [8]) .ret) .skip)
def A39R2 : ACode := (.cond (.t 56) (.seq (.reg [⟨(some 8), .mv (.c (.lst .u 1 [])), none⟩,
    ⟨(some 9), .mv (.c (.b false)), none⟩] [8]) .ret) .skip)
def A39L3 : ACode := (.seq (.reg [⟨(some 40), .bin .lss (.t 39) (.t 38), none⟩] []) (.seq (.cond (.t 40) .skip (.exit 2)) (.seq (.blk 3 (.seq (.reg [⟨(some 41), .mv (.t 39), none⟩,
    ⟨(some 42), .idx 1 (.t 37) (.t 39), none⟩,
    ⟨(some 43), .load 1 false (.t 42), none⟩,
    ⟨(some 13), .mv (.t 41), none⟩,
    ⟨(some 14), .mv (.t 43), none⟩] []) (.seq (.seqr (.reg [⟨(some 44), .mv (.t 14), none⟩,
    ⟨(some 45), .mv (.t 0), none⟩,
    ⟨(some 46), .len (.t 45), none⟩,
    ⟨(some 47), .bin .sub (.t 46) (.c (.i 1)), none⟩,
    ⟨(some 48), .call 55 [(.t 44), (.c (.i 0)), (.t 47)], none⟩,
    ⟨(some 49), .un .not (.t 48), none⟩,
    ⟨(some 50), .mv (.t 49), none⟩,
    ⟨(some 51), .mv (.t 12), (some (50, false))⟩,
    ⟨(some 52), .mv (.t 13), (some (50, false))⟩,
    ⟨(some 53), .slc 1 (.t 51) none (some (.t 52)) none, (some (50, false))⟩,
    ⟨(some 54), .mv (.t 14), (some (50, false))⟩,
    ⟨(some 55), .call 80 [(.t 53), (.t 54)], (some (50, false))⟩,
    ⟨(some 56), .pick (.t 50) (.c (.b true)) (.t 55), none⟩] []) [0, 2, 10, 11, 12, 14, 30, 31, 32, 37, 38, 39, 56] [10] A39R2) (.drw [⟨(some 57), .mv (.t 10), none⟩,
    ⟨(some 58), .mv (.t 14), none⟩,
    ⟨(some 59), .idx 1 (.t 57) (.t 58), none⟩,
    ⟨(some 60), .load 1 false (.t 59), none⟩,
    ⟨(some 61), .mv (.t 2), none⟩,
    ⟨(some 62), .mv (.t 11), none⟩,
    ⟨(some 63), .idx 3 (.t 61) (.t 62), none⟩,
    ⟨(some 64), .fad 2 (.t 63), none⟩,
    ⟨(some 65), .load 1 false (.t 64), none⟩,
    ⟨(some 66), .bin .add (.t 60) (.t 65), none⟩,
    ⟨(some 67), .idx 1 (.t 57) (.t 58), none⟩,
    ⟨none, .store 1 (.t 67) (.t 66), none⟩] [])))) (.reg [⟨(some 68), .bin .add (.t 39) (.c (.i 1)), none⟩,
    ⟨(some 39), .mv (.t 68), none⟩] []))))
def A39R4 : ACode := (.reg [⟨(some 69), .bin .add (.t 32) (.c (.i 1)), none⟩,
    ⟨(some 32), .mv (.t 69), none⟩] [])
def A39L5 : ACode := (.seq (.reg [⟨(some 33), .bin .lss (.t 32) (.t 31), none⟩] []) (.seq (.cond (.t 33) .skip (.exit 0)) (.seqr (.blk 1 (.seq (.reg [⟨(some 34), .mv (.t 32), none⟩,
    ⟨(some 35), .idx 1 (.t 30) (.t 32), none⟩,
    ⟨(some 36), .load 1 false (.t 35), none⟩,
    ⟨(some 11), .mv (.t 34), none⟩,
    ⟨(some 12), .mv (.t 36), none⟩] [12]) (.seq (.reg [⟨(some 37), .mv (.t 12), none⟩,
    ⟨(some 38), .len (.t 37), none⟩,
    ⟨(some 39), .mv (.c (.i 0)), none⟩] []) (.blk 2 (.loop A39L3))))) [0, 2, 10, 30, 31, 32] [10] A39R4)))
def A39R6 : ACode := (.seq (.reg [⟨(some 70), .mv (.t 10), none⟩,
    ⟨(some 8), .mv (.t 70), none⟩,
    ⟨(some 9), .mv (.c (.b true)), none⟩] [8]) .ret)
def A39 : ACode := (.seq (.reg [⟨(some 8), .mv (.c (.lst .u 1 [])), none⟩,
    ⟨(some 9), .mv (.c (.b false)), none⟩] [8]) (.seq (.seqr (.reg [⟨(some 15), .mv (.t 0), none⟩,
    ⟨(some 16), .mv (.t 1), none⟩,
    ⟨(some 17), .mv (.t 2), none⟩,
    ⟨(some 18), .call 75 [(.t 15), (.t 16), (.t 17)], none⟩,
    ⟨(some 19), .un .not (.t 18), none⟩,
    ⟨(some 20), .mv (.t 19), none⟩,
    ⟨(some 21), .mv (.t 3), (some (20, false))⟩,
    ⟨(some 22), .len (.t 21), (some (20, false))⟩,
    ⟨(some 23), .mv (.t 2), (some (20, false))⟩,
    ⟨(some 24), .len (.t 23), (some (20, false))⟩,
    ⟨(some 25), .bin .neq (.t 22) (.t 24), (some (20, false))⟩,
    ⟨(some 26), .pick (.t 20) (.c (.b true)) (.t 25), none⟩] []) [0, 2, 3, 26] [] A39R1) (.seq (.reg [⟨(some 27), .mv (.t 0), none⟩,
    ⟨(some 28), .len (.t 27), none⟩,
    ⟨(some 29), .mks 1 (.i 0) 8 (.t 28) (.t 28), none⟩,
    ⟨(some 10), .mv (.t 29), none⟩] [10]) (.seqa (.reg [⟨(some 30), .mv (.t 3), none⟩,
    ⟨(some 31), .len (.t 30), none⟩,
    ⟨(some 32), .mv (.c (.i 0)), none⟩] []) (.blk 0 (.loop A39L5)) [10] [10] A39R6))))
def V39 : List RV := [.t 8, .t 9]
theorem m39 : mtcF Try.prog 39 4 A39 V39 = true := by kernel_rfl
def A22L1 : ACode := (.seq (.seq (.reg [⟨(some 11), .mv (.t 5), none⟩,
    ⟨(some 12), .mv (.t 0), none⟩,
    ⟨(some 13), .len (.t 12), none⟩,
    ⟨(some 14), .bin .lss (.t 11) (.t 13), none⟩] []) (.cond (.t 14) .skip (.exit 0))) (.seq (.blk 1 (.seq (.drw [⟨(some 17), .mv (.t 0), none⟩,
    ⟨(some 18), .mv (.t 5), none⟩,
    ⟨(some 19), .idx 1 (.t 17) (.t 18), none⟩,
    ⟨(some 20), .load 1 false (.t 19), none⟩,
    ⟨(some 21), .mv (.t 1), none⟩,
    ⟨(some 22), .mv (.t 5), none⟩,
    ⟨(some 23), .idx 1 (.t 21) (.t 22), none⟩,
    ⟨(some 24), .load 1 false (.t 23), none⟩,
    ⟨(some 25), .bin .neq (.t 20) (.t 24), none⟩] []) (.cond (.t 25) (.seq (.reg [⟨(some 4), .mv (.c (.b false)), none⟩] []) .ret) .skip))) (.reg [⟨(some 15), .mv (.t 5), none⟩,
    ⟨(some 16), .bin .add (.t 15) (.c (.i 1)), none⟩,
    ⟨(some 5), .mv (.t 16), none⟩] [])))
def A22R2 : ACode := (.seq (.reg [⟨(some 4), .mv (.c (.b true)), none⟩] []) .ret)
def A22 : ACode := (.seq (.reg [⟨(some 4), .mv (.c (.b false)), none⟩] []) (.seq (.seq (.reg [⟨(some 6), .mv (.t 0), none⟩,
    ⟨(some 7), .len (.t 6), none⟩,
    ⟨(some 8), .mv (.t 1), none⟩,
    ⟨(some 9), .len (.t 8), none⟩,
    ⟨(some 10), .bin .neq (.t 7) (.t 9), none⟩] []) (.cond (.t 10) (.seq (.reg [⟨(some 4), .mv (.c (.b false)), none⟩] []) .ret) .skip)) (.seqa (.reg [⟨(some 5), .mv (.c (.i 0)), none⟩] []) (.blk 0 (.loop A22L1)) [] [] A22R2)))
def V22 : List RV := [.t 4]
theorem m22 : mtcF Try.prog 22 2 A22 V22 = true := by kernel_rfl
def A74 : ACode := (.seq (.reg [⟨(some 2), .box 3 (.t 0), none⟩,
    ⟨(some 3), .box 3 (.t 1), none⟩,
    ⟨(some 4), .mv (.c (.b false)), none⟩] []) (.seq (.seq (.reg [⟨(some 5), .fad 0 (.t 2), none⟩,
    ⟨(some 6), .load 1 false (.t 5), none⟩,
    ⟨(some 7), .fad 0 (.t 3), none⟩,
    ⟨(some 8), .load 1 false (.t 7), none⟩,
    ⟨(some 9), .bin .neq (.t 6) (.t 8), none⟩] []) (.cond (.t 9) (.seq (.reg [⟨(some 4), .mv (.c (.b false)), none⟩] []) .ret) .skip)) (.seq (.seq (.reg [⟨(some 10), .fad 1 (.t 2), none⟩,
    ⟨(some 11), .load 1 false (.t 10), none⟩,
    ⟨(some 12), .fad 1 (.t 3), none⟩,
    ⟨(some 13), .load 1 false (.t 12), none⟩,
    ⟨(some 14), .bin .neq (.t 11) (.t 13), none⟩] []) (.cond (.t 14) (.seq (.reg [⟨(some 4), .mv (.c (.b false)), none⟩] []) .ret) .skip)) (.seq (.seq (.reg [⟨(some 15), .fad 2 (.t 2), none⟩,
    ⟨(some 16), .load 1 false (.t 15), none⟩,
    ⟨(some 17), .fad 2 (.t 3), none⟩,
    ⟨(some 18), .load 1 false (.t 17), none⟩,
    ⟨(some 19), .bin .neq (.t 16) (.t 18), none⟩] []) (.cond (.t 19) (.seq (.reg [⟨(some 4), .mv (.c (.b false)), none⟩] []) .ret) .skip)) (.seq (.reg [⟨(some 4), .mv (.c (.b true)), none⟩] []) .ret)))))
def V74 : List RV := [.t 4]
theorem m74 : mtcF Try.prog 74 2 A74 V74 = true := by kernel_rfl
def A30L1 : ACode := (.seq (.seq (.reg [⟨(some 11), .mv (.t 5), none⟩,
    ⟨(some 12), .mv (.t 0), none⟩,
    ⟨(some 13), .len (.t 12), none⟩,
    ⟨(some 14), .bin .lss (.t 11) (.t 13), none⟩] []) (.cond (.t 14) .skip (.exit 0))) (.seq (.blk 1 (.seq (.drw [⟨(some 17), .mv (.t 0), none⟩,
    ⟨(some 18), .mv (.t 5), none⟩,
    ⟨(some 19), .idx 3 (.t 17) (.t 18), none⟩,
    ⟨(some 20), .load 3 true (.t 19), none⟩,
    ⟨(some 21), .mv (.t 1), none⟩,
    ⟨(some 22), .mv (.t 5), none⟩,
    ⟨(some 23), .idx 3 (.t 21) (.t 22), none⟩,
    ⟨(some 24), .load 3 true (.t 23), none⟩,
    ⟨(some 25), .call 74 [(.t 20), (.t 24)], none⟩,
    ⟨(some 26), .un .not (.t 25), none⟩] []) (.cond (.t 26) (.seq (.reg [⟨(some 4), .mv (.c (.b false)), none⟩] []) .ret) .skip))) (.reg [⟨(some 15), .mv (.t 5), none⟩,
    ⟨(some 16), .bin .add (.t 15) (.c (.i 1)), none⟩,
    ⟨(some 5), .mv (.t 16), none⟩] [])))
def A30R2 : ACode := (.seq (.reg [⟨(some 4), .mv (.c (.b true)), none⟩] []) .ret)
def A30 : ACode := (.seq (.reg [⟨(some 4), .mv (.c (.b false)), none⟩] []) (.seq (.seq (.reg [⟨(some 6), .mv (.t 0), none⟩,
    ⟨(some 7), .len (.t 6), none⟩,
    ⟨(some 8), .mv (.t 1), none⟩,
    ⟨(some 9), .len (.t 8), none⟩,
    ⟨(some 10), .bin .neq (.t 7) (.t 9), none⟩] []) (.cond (.t 10) (.seq (.reg [⟨(some 4), .mv (.c (.b false)), none⟩] []) .ret) .skip)) (.seqa (.reg [⟨(some 5), .mv (.c (.i 0)), none⟩] []) (.blk 0 (.loop A30L1)) [] [] A30R2)))
def V30 : List RV := [.t 4]
theorem m30 : mtcF Try.prog 30 2 A30 V30 = true := by kernel_rfl
def A59 : ACode := (.seq (.reg [⟨(some 2), .box 3 (.t 0), none⟩,
    ⟨(some 3), .box 3 (.t 1), none⟩,
    ⟨(some 4), .mv (.c (.b false)), none⟩] []) (.seq (.seq (.reg [⟨(some 5), .fad 0 (.t 2), none⟩,
    ⟨(some 6), .load 1 false (.t 5), none⟩,
    ⟨(some 7), .fad 0 (.t 3), none⟩,
    ⟨(some 8), .load 1 false (.t 7), none⟩,
    ⟨(some 9), .bin .neq (.t 6) (.t 8), none⟩] []) (.cond (.t 9) (.seq (.reg [⟨(some 4), .mv (.c (.b false)), none⟩] []) .ret) .skip)) (.seq (.seq (.reg [⟨(some 10), .fad 1 (.t 2), none⟩,
    ⟨(some 11), .load 1 false (.t 10), none⟩,
    ⟨(some 12), .fad 1 (.t 3), none⟩,
    ⟨(some 13), .load 1 false (.t 12), none⟩,
    ⟨(some 14), .bin .neq (.t 11) (.t 13), none⟩] []) (.cond (.t 14) (.seq (.reg [⟨(some 4), .mv (.c (.b false)), none⟩] []) .ret) .skip)) (.seq (.seq (.reg [⟨(some 15), .fad 2 (.t 2), none⟩,
    ⟨(some 16), .load 1 false (.t 15), none⟩,
    ⟨(some 17), .fad 2 (.t 3), none⟩,
    ⟨(some 18), .load 1 false (.t 17), none⟩,
    ⟨(some 19), .bin .neq (.t 16) (.t 18), none⟩] []) (.cond (.t 19) (.seq (.reg [⟨(some 4), .mv (.c (.b false)), none⟩] []) .ret) .skip)) (.seq (.reg [⟨(some 4), .mv (.c (.b true)), none⟩] []) .ret)))))
def V59 : List RV := [.t 4]
theorem m59 : mtcF Try.prog 59 2 A59 V59 = true := by kernel_rfl
def A18L1 : ACode := (.seq (.seq (.reg [⟨(some 11), .mv (.t 5), none⟩,
    ⟨(some 12), .mv (.t 0), none⟩,
    ⟨(some 13), .len (.t 12), none⟩,
    ⟨(some 14), .bin .lss (.t 11) (.t 13), none⟩] []) (.cond (.t 14) .skip (.exit 0))) (.seq (.blk 1 (.seq (.drw [⟨(some 17), .mv (.t 0), none⟩,
    ⟨(some 18), .mv (.t 5), none⟩,
    ⟨(some 19), .idx 3 (.t 17) (.t 18), none⟩,
    ⟨(some 20), .load 3 true (.t 19), none⟩,
    ⟨(some 21), .mv (.t 1), none⟩,
    ⟨(some 22), .mv (.t 5), none⟩,
    ⟨(some 23), .idx 3 (.t 21) (.t 22), none⟩,
    ⟨(some 24), .load 3 true (.t 23), none⟩,
    ⟨(some 25), .call 59 [(.t 20), (.t 24)], none⟩,
    ⟨(some 26), .un .not (.t 25), none⟩] []) (.cond (.t 26) (.seq (.reg [⟨(some 4), .mv (.c (.b false)), none⟩] []) .ret) .skip))) (.reg [⟨(some 15), .mv (.t 5), none⟩,
    ⟨(some 16), .bin .add (.t 15) (.c (.i 1)), none⟩,
    ⟨(some 5), .mv (.t 16), none⟩] [])))
def A18R2 : ACode := (.seq (.reg [⟨(some 4), .mv (.c (.b true)), none⟩] []) .ret)
def A18 : ACode := (.seq (.reg [⟨(some 4), .mv (.c (.b false)), none⟩] []) (.seq (.seq (.reg [⟨(some 6), .mv (.t 0), none⟩,
    ⟨(some 7), .len (.t 6), none⟩,
    ⟨(some 8), .mv (.t 1), none⟩,
    ⟨(some 9), .len (.t 8), none⟩,
    ⟨(some 10), .bin .neq (.t 7) (.t 9), none⟩] []) (.cond (.t 10) (.seq (.reg [⟨(some 4), .mv (.c (.b false)), none⟩] []) .ret) .skip)) (.seqa (.reg [⟨(some 5), .mv (.c (.i 0)), none⟩] []) (.blk 0 (.loop A18L1)) [] [] A18R2)))
def V18 : List RV := [.t 4]
theorem m18 : mtcF Try.prog 18 2 A18 V18 = true := by kernel_rfl
def A40L1 : ACode := (.seq (.seq (.reg [⟨(some 11), .mv (.t 5), none⟩,
    ⟨(some 12), .mv (.t 0), none⟩,
    ⟨(some 13), .len (.t 12), none⟩,
    ⟨(some 14), .bin .lss (.t 11) (.t 13), none⟩] []) (.cond (.t 14) .skip (.exit 0))) (.seq (.blk 1 (.seq (.drw [⟨(some 17), .mv (.t 0), none⟩,
    ⟨(some 18), .mv (.t 5), none⟩,
    ⟨(some 19), .idx 1 (.t 17) (.t 18), none⟩,
    ⟨(some 20), .load 1 false (.t 19), none⟩,
    ⟨(some 21), .mv (.t 1), none⟩,
    ⟨(some 22), .mv (.t 5), none⟩,
    ⟨(some 23), .idx 1 (.t 21) (.t 22), none⟩,
    ⟨(some 24), .load 1 false (.t 23), none⟩,
    ⟨(some 25), .call 22 [(.t 20), (.t 24)], none⟩,
    ⟨(some 26), .un .not (.t 25), none⟩] []) (.cond (.t 26) (.seq (.reg [⟨(some 4), .mv (.c (.b false)), none⟩] []) .ret) .skip))) (.reg [⟨(some 15), .mv (.t 5), none⟩,
    ⟨(some 16), .bin .add (.t 15) (.c (.i 1)), none⟩,
    ⟨(some 5), .mv (.t 16), none⟩] [])))
def A40R2 : ACode := (.seq (.reg [⟨(some 4), .mv (.c (.b true)), none⟩] []) .ret)
def A40 : ACode := (.seq (.reg [⟨(some 4), .mv (.c (.b false)), none⟩] []) (.seq (.seq (.reg [⟨(some 6), .mv (.t 0), none⟩,
    ⟨(some 7), .len (.t 6), none⟩,
    ⟨(some 8), .mv (.t 1), none⟩,
    ⟨(some 9), .len (.t 8), none⟩,
    ⟨(some 10), .bin .neq (.t 7) (.t 9), none⟩] []) (.cond (.t 10) (.seq (.reg [⟨(some 4), .mv (.c (.b false)), none⟩] []) .ret) .skip)) (.seqa (.reg [⟨(some 5), .mv (.c (.i 0)), none⟩] []) (.blk 0 (.loop A40L1)) [] [] A40R2)))
def V40 : List RV := [.t 4]
theorem m40 : mtcF Try.prog 40 2 A40 V40 = true := by kernel_rfl
def A31M1L1 : ACode := (.seq (.seq (.reg [⟨(some 6), .mv (.t 5), none⟩,
    ⟨(some 7), .mv (.t 0), none⟩,
    ⟨(some 8), .len (.t 7), none⟩,
    ⟨(some 9), .bin .lss (.t 6) (.t 8), none⟩] []) (.cond (.t 9) .skip (.exit 0))) (.seq (.blk 1 (.seq (.reg [⟨(some 12), .mv (.t 0), none⟩,
    ⟨(some 13), .mv (.t 5), none⟩,
    ⟨(some 14), .mv (.t 1), none⟩,
    ⟨(some 15), .idx 3 (.t 12) (.t 13), none⟩,
    ⟨(some 16), .fad 0 (.t 15), none⟩,
    ⟨none, .store 1 (.t 16) (.t 14), none⟩] []) (.seq (.reg [⟨(some 17), .mv (.t 1), none⟩,
    ⟨(some 18), .bin .add (.t 17) (.c (.i 1)), none⟩,
    ⟨(some 1), .mv (.t 18), none⟩] []) (.seq (.reg [⟨(some 19), .mv (.t 0), none⟩,
    ⟨(some 20), .mv (.t 5), none⟩,
    ⟨(some 21), .mv (.t 1), none⟩,
    ⟨(some 22), .idx 3 (.t 19) (.t 20), none⟩,
    ⟨(some 23), .fad 1 (.t 22), none⟩,
    ⟨none, .store 1 (.t 23) (.t 21), none⟩] []) (.seq (.reg [⟨(some 24), .mv (.t 1), none⟩,
    ⟨(some 25), .bin .add (.t 24) (.c (.i 1)), none⟩,
    ⟨(some 1), .mv (.t 25), none⟩] []) (.seq (.reg [⟨(some 26), .mv (.t 0), none⟩,
    ⟨(some 27), .mv (.t 5), none⟩,
    ⟨(some 28), .mv (.t 1), none⟩,
    ⟨(some 29), .idx 3 (.t 26) (.t 27), none⟩,
    ⟨(some 30), .fad 2 (.t 29), none⟩,
    ⟨none, .store 1 (.t 30) (.t 28), none⟩] []) (.reg [⟨(some 31), .mv (.t 1), none⟩,
    ⟨(some 32), .bin .add (.t 31) (.c (.i 1)), none⟩,
    ⟨(some 1), .mv (.t 32), none⟩] []))))))) (.reg [⟨(some 10), .mv (.t 5), none⟩,
    ⟨(some 11), .bin .add (.t 10) (.c (.i 1)), none⟩,
    ⟨(some 5), .mv (.t 11), none⟩] [])))
def A31M1R2 : ACode := (.seq (.reg [⟨(some 33), .mv (.t 1), none⟩,
    ⟨(some 4), .mv (.t 33), none⟩] []) .ret)
def A31M1 : ACode := (.seq (.reg [⟨(some 4), .mv (.c (.i 0)), none⟩] []) (.seqa (.reg [⟨(some 5), .mv (.c (.i 0)), none⟩] []) (.blk 0 (.loop A31M1L1)) [1] [1000000000] A31M1R2))
def V31M1 : List RV := [.t 4]
theorem m31M1 : mtcF Try.prog 31 2 A31M1 V31M1 = true := by kernel_rfl
def A41M1L1 : ACode := (.seq (.seq (.reg [⟨(some 6), .mv (.t 5), none⟩,
    ⟨(some 7), .mv (.t 0), none⟩,
    ⟨(some 8), .len (.t 7), none⟩,
    ⟨(some 9), .bin .lss (.t 6) (.t 8), none⟩] []) (.cond (.t 9) .skip (.exit 0))) (.seq (.blk 1 (.seq (.reg [⟨(some 12), .mv (.t 0), none⟩,
    ⟨(some 13), .mv (.t 5), none⟩,
    ⟨(some 14), .mv (.t 1), none⟩,
    ⟨(some 15), .idx 3 (.t 12) (.t 13), none⟩,
    ⟨(some 16), .fad 0 (.t 15), none⟩,
    ⟨none, .store 1 (.t 16) (.t 14), none⟩] []) (.seq (.reg [⟨(some 17), .mv (.t 1), none⟩,
    ⟨(some 18), .bin .add (.t 17) (.c (.i 1)), none⟩,
    ⟨(some 1), .mv (.t 18), none⟩] []) (.seq (.reg [⟨(some 19), .mv (.t 0), none⟩,
    ⟨(some 20), .mv (.t 5), none⟩,
    ⟨(some 21), .mv (.t 1), none⟩,
    ⟨(some 22), .idx 3 (.t 19) (.t 20), none⟩,
    ⟨(some 23), .fad 1 (.t 22), none⟩,
    ⟨none, .store 1 (.t 23) (.t 21), none⟩] []) (.seq (.reg [⟨(some 24), .mv (.t 1), none⟩,
    ⟨(some 25), .bin .add (.t 24) (.c (.i 1)), none⟩,
    ⟨(some 1), .mv (.t 25), none⟩] []) (.seq (.reg [⟨(some 26), .mv (.t 0), none⟩,
    ⟨(some 27), .mv (.t 5), none⟩,
    ⟨(some 28), .mv (.t 1), none⟩,
    ⟨(some 29), .idx 3 (.t 26) (.t 27), none⟩,
    ⟨(some 30), .fad 2 (.t 29), none⟩,
    ⟨none, .store 1 (.t 30) (.t 28), none⟩] []) (.reg [⟨(some 31), .mv (.t 1), none⟩,
    ⟨(some 32), .bin .add (.t 31) (.c (.i 1)), none⟩,
    ⟨(some 1), .mv (.t 32), none⟩] []))))))) (.reg [⟨(some 10), .mv (.t 5), none⟩,
    ⟨(some 11), .bin .add (.t 10) (.c (.i 1)), none⟩,
    ⟨(some 5), .mv (.t 11), none⟩] [])))
def A41M1R2 : ACode := (.seq (.reg [⟨(some 33), .mv (.t 1), none⟩,
    ⟨(some 4), .mv (.t 33), none⟩] []) .ret)
def A41M1 : ACode := (.seq (.reg [⟨(some 4), .mv (.c (.i 0)), none⟩] []) (.seqa (.reg [⟨(some 5), .mv (.c (.i 0)), none⟩] []) (.blk 0 (.loop A41M1L1)) [1] [1000000000] A41M1R2))
def V41M1 : List RV := [.t 4]
theorem m41M1 : mtcF Try.prog 41 2 A41M1 V41M1 = true := by kernel_rfl
def A23M1L1 : ACode := (.seq (.seq (.reg [⟨(some 6), .mv (.t 5), none⟩,
    ⟨(some 7), .mv (.t 0), none⟩,
    ⟨(some 8), .len (.t 7), none⟩,
    ⟨(some 9), .bin .lss (.t 6) (.t 8), none⟩] []) (.cond (.t 9) .skip (.exit 0))) (.seq (.blk 1 (.seq (.reg [⟨(some 12), .mv (.t 0), none⟩,
    ⟨(some 13), .mv (.t 5), none⟩,
    ⟨(some 14), .mv (.t 1), none⟩,
    ⟨(some 15), .idx 1 (.t 12) (.t 13), none⟩,
    ⟨none, .store 1 (.t 15) (.t 14), none⟩] []) (.reg [⟨(some 16), .mv (.t 1), none⟩,
    ⟨(some 17), .bin .add (.t 16) (.c (.i 1)), none⟩,
    ⟨(some 1), .mv (.t 17), none⟩] []))) (.reg [⟨(some 10), .mv (.t 5), none⟩,
    ⟨(some 11), .bin .add (.t 10) (.c (.i 1)), none⟩,
    ⟨(some 5), .mv (.t 11), none⟩] [])))
def A23M1R2 : ACode := (.seq (.reg [⟨(some 18), .mv (.t 1), none⟩,
    ⟨(some 4), .mv (.t 18), none⟩] []) .ret)
def A23M1 : ACode := (.seq (.reg [⟨(some 4), .mv (.c (.i 0)), none⟩] []) (.seqa (.reg [⟨(some 5), .mv (.c (.i 0)), none⟩] []) (.blk 0 (.loop A23M1L1)) [1] [1000000000] A23M1R2))
def V23M1 : List RV := [.t 4]
theorem m23M1 : mtcF Try.prog 23 2 A23M1 V23M1 = true := by kernel_rfl
def A42M1L1 : ACode := (.seq (.seq (.reg [⟨(some 6), .mv (.t 5), none⟩,
    ⟨(some 7), .mv (.t 0), none⟩,
    ⟨(some 8), .len (.t 7), none⟩,
    ⟨(some 9), .bin .lss (.t 6) (.t 8), none⟩] []) (.cond (.t 9) .skip (.exit 0))) (.seq (.blk 1 (.regh [⟨(some 12), .mv (.t 0), none⟩,
    ⟨(some 13), .mv (.t 5), none⟩,
    ⟨(some 14), .idx 1 (.t 12) (.t 13), none⟩] (.inn 15 1 1 (.t 14) [(16, (.t 1))] 17 23 [(.t 15), (.t 16)]) [⟨(some 1), .mv (.t 17), none⟩] [])) (.reg [⟨(some 10), .mv (.t 5), none⟩,
    ⟨(some 11), .bin .add (.t 10) (.c (.i 1)), none⟩,
    ⟨(some 5), .mv (.t 11), none⟩] [])))
def A42M1R2 : ACode := (.seq (.reg [⟨(some 18), .mv (.t 1), none⟩,
    ⟨(some 4), .mv (.t 18), none⟩] []) .ret)
def A42M1 : ACode := (.seq (.reg [⟨(some 4), .mv (.c (.i 0)), none⟩] []) (.seqa (.reg [⟨(some 5), .mv (.c (.i 0)), none⟩] []) (.blk 0 (.loop A42M1L1)) [1] [1000000000] A42M1R2))
def V42M1 : List RV := [.t 4]
theorem m42M1 : mtcF Try.prog 42 2 A42M1 V42M1 = true := by kernel_rfl
def A24L1 : ACode := (.seq (.seq (.reg [⟨(some 6), .mv (.t 5), none⟩,
    ⟨(some 7), .mv (.t 0), none⟩,
    ⟨(some 8), .len (.t 7), none⟩,
    ⟨(some 9), .bin .lss (.t 6) (.t 8), none⟩] []) (.cond (.t 9) .skip (.exit 0))) (.seq (.blk 1 (.seq (.seq (.reg [⟨(some 12), .mv (.t 0), none⟩,
    ⟨(some 13), .mv (.t 5), none⟩,
    ⟨(some 14), .idx 1 (.t 12) (.t 13), none⟩,
    ⟨(some 15), .load 1 false (.t 14), none⟩,
    ⟨(some 16), .mv (.t 1), none⟩,
    ⟨(some 17), .bin .neq (.t 15) (.t 16), none⟩] []) (.cond (.t 17) (.seq (.reg [⟨(some 4), .mv (.c (.i (-1))), none⟩] []) .ret) .skip)) (.reg [⟨(some 18), .mv (.t 1), none⟩,
    ⟨(some 19), .bin .add (.t 18) (.c (.i 1)), none⟩,
    ⟨(some 1), .mv (.t 19), none⟩] []))) (.reg [⟨(some 10), .mv (.t 5), none⟩,
    ⟨(some 11), .bin .add (.t 10) (.c (.i 1)), none⟩,
    ⟨(some 5), .mv (.t 11), none⟩] [])))
def A24R2 : ACode := (.seq (.reg [⟨(some 20), .mv (.t 1), none⟩,
    ⟨(some 4), .mv (.t 20), none⟩] []) .ret)
def A24 : ACode := (.seq (.reg [⟨(some 4), .mv (.c (.i 0)), none⟩] []) (.seqa (.reg [⟨(some 5), .mv (.c (.i 0)), none⟩] []) (.blk 0 (.loop A24L1)) [1] [] A24R2))
def V24 : List RV := [.t 4]
theorem m24 : mtcF Try.prog 24 2 A24 V24 = true := by kernel_rfl
def A8R1 : ACode := (.cond (.t 70) (.seq (.reg [⟨(some 8), .mv (.c (.b false)), none⟩] []) .ret) .skip)
def A8R2 : ACode := (.cond (.t 107) (.seq (.reg [⟨(some 8), .mv (.c (.b false)), none⟩] []) .ret) .skip)
def A8R3 : ACode := (.cond (.t 138) (.seq (.reg [⟨(some 8), .mv (.c (.b false)), none⟩] []) .ret) .skip)
def A8 : ACode := (.seq (.reg [⟨(some 8), .mv (.c (.b false)), none⟩] []) (.seq (.reg [⟨(some 9), .mv (.c (.i 1048576)), none⟩] []) (.seq (.reg [⟨(some 22), .mv (.t 0), none⟩,
    ⟨(some 23), .mv (.t 9), none⟩,
    ⟨(some 24), .call 25 [(.t 22), (.t 23)], none⟩,
    ⟨(some 9), .mv (.t 24), none⟩] []) (.seq (.seq (.reg [⟨(some 25), .mv (.t 9), none⟩,
    ⟨(some 26), .bin .lss (.t 25) (.c (.i 0)), none⟩] []) (.cond (.t 26) (.seq (.reg [⟨(some 8), .mv (.c (.b true)), none⟩] []) .ret) .skip)) (.seq (.reg [⟨(some 27), .mv (.t 2), none⟩,
    ⟨(some 28), .mv (.t 9), none⟩,
    ⟨(some 29), .call 14 [(.t 27), (.t 28)], none⟩,
    ⟨(some 9), .mv (.t 29), none⟩] []) (.seq (.seq (.reg [⟨(some 30), .mv (.t 9), none⟩,
    ⟨(some 31), .bin .lss (.t 30) (.c (.i 0)), none⟩] []) (.cond (.t 31) (.seq (.reg [⟨(some 8), .mv (.c (.b true)), none⟩] []) .ret) .skip)) (.seq (.reg [⟨(some 32), .mv (.t 3), none⟩,
    ⟨(some 33), .mv (.t 9), none⟩,
    ⟨(some 34), .call 36 [(.t 32), (.t 33)], none⟩,
    ⟨(some 9), .mv (.t 34), none⟩] []) (.seq (.seq (.reg [⟨(some 35), .mv (.t 9), none⟩,
    ⟨(some 36), .bin .lss (.t 35) (.c (.i 0)), none⟩] []) (.cond (.t 36) (.seq (.reg [⟨(some 8), .mv (.c (.b true)), none⟩] []) .ret) .skip)) (.seq (.reg [⟨(some 38), .mv (.t 0), none⟩,
    ⟨(some 39), .call 27 [(.t 38)], none⟩,
    ⟨(some 40), .mv (.t 1), none⟩,
    ⟨(some 41), .mv (.t 2), none⟩,
    ⟨(some 42), .call 16 [(.t 41)], none⟩,
    ⟨(some 43), .mv (.t 3), none⟩,
    ⟨(some 44), .call 38 [(.t 43)], none⟩,
    ⟨(some 45), .call 37 [(.t 39), (.t 40), (.t 42), (.t 44)], none⟩,
    ⟨(some 37), .mv (.t 45), none⟩,
    ⟨(some 46), .ext (.t 37) 0, none⟩,
    ⟨(some 47), .ext (.t 37) 1, none⟩,
    ⟨(some 10), .mv (.t 46), none⟩,
    ⟨(some 11), .mv (.t 47), none⟩] [10]) (.seq (.reg [⟨(some 48), .mv (.t 0), none⟩,
    ⟨(some 49), .call 27 [(.t 48)], none⟩,
    ⟨(some 12), .mv (.t 49), none⟩] [12]) (.seq (.reg [⟨(some 50), .mv (.t 2), none⟩,
    ⟨(some 51), .call 16 [(.t 50)], none⟩,
    ⟨(some 13), .mv (.t 51), none⟩] [13]) (.seq (.reg [⟨(some 52), .mv (.t 3), none⟩,
    ⟨(some 53), .call 38 [(.t 52)], none⟩,
    ⟨(some 14), .mv (.t 53), none⟩] [14]) (.seq (.reg [⟨(some 55), .mv (.t 12), none⟩,
    ⟨(some 56), .mv (.t 1), none⟩,
    ⟨(some 57), .mv (.t 13), none⟩,
    ⟨(some 58), .mv (.t 14), none⟩,
    ⟨(some 59), .call 39 [(.t 55), (.t 56), (.t 57), (.t 58)], none⟩,
    ⟨(some 54), .mv (.t 59), none⟩,
    ⟨(some 60), .ext (.t 54) 0, none⟩,
    ⟨(some 61), .ext (.t 54) 1, none⟩,
    ⟨(some 15), .mv (.t 60), none⟩,
    ⟨(some 16), .mv (.t 61), none⟩] [15]) (.seq (.seqr (.reg [⟨(some 62), .mv (.t 15), none⟩,
    ⟨(some 63), .mv (.t 10), none⟩,
    ⟨(some 64), .call 22 [(.t 62), (.t 63)], none⟩,
    ⟨(some 65), .un .not (.t 64), none⟩,
    ⟨(some 66), .mv (.t 65), none⟩,
    ⟨(some 67), .mv (.t 16), (some (66, false))⟩,
    ⟨(some 68), .mv (.t 11), (some (66, false))⟩,
    ⟨(some 69), .beq true (.t 67) (.t 68), (some (66, false))⟩,
    ⟨(some 70), .pick (.t 66) (.c (.b true)) (.t 69), none⟩] []) [0, 1, 2, 3, 10, 11, 12, 13, 14, 15, 16, 70] [10, 12, 13, 14, 15] A8R1) (.seq (.seq (.reg [⟨(some 71), .mv (.t 12), none⟩,
    ⟨(some 72), .mv (.t 0), none⟩,
    ⟨(some 73), .call 27 [(.t 72)], none⟩,
    ⟨(some 74), .call 30 [(.t 71), (.t 73)], none⟩,
    ⟨(some 75), .un .not (.t 74), none⟩] []) (.cond (.t 75) (.seq (.reg [⟨(some 8), .mv (.c (.b false)), none⟩] []) .ret) .skip)) (.seq (.seq (.reg [⟨(some 76), .mv (.t 13), none⟩,
    ⟨(some 77), .mv (.t 2), none⟩,
    ⟨(some 78), .call 16 [(.t 77)], none⟩,
    ⟨(some 79), .call 18 [(.t 76), (.t 78)], none⟩,
    ⟨(some 80), .un .not (.t 79), none⟩] []) (.cond (.t 80) (.seq (.reg [⟨(some 8), .mv (.c (.b false)), none⟩] []) .ret) .skip)) (.seq (.seq (.reg [⟨(some 81), .mv (.t 14), none⟩,
    ⟨(some 82), .mv (.t 3), none⟩,
    ⟨(some 83), .call 38 [(.t 82)], none⟩,
    ⟨(some 84), .call 40 [(.t 81), (.t 83)], none⟩,
    ⟨(some 85), .un .not (.t 84), none⟩] []) (.cond (.t 85) (.seq (.reg [⟨(some 8), .mv (.c (.b false)), none⟩] []) .ret) .skip)) (.seq (.reg [⟨(some 17), .mv (.c (.i 1)), none⟩] []) (.seq (.reg [⟨(some 86), .mv (.t 12), none⟩,
    ⟨(some 87), .mv (.t 17), none⟩,
    ⟨(some 88), .callM 31 [(.t 86), (.t 87)] [12], none⟩,
    ⟨(some 17), .mv (.t 88), none⟩] []) (.seq (.reg [⟨(some 89), .mv (.t 13), none⟩,
    ⟨(some 90), .mv (.t 17), none⟩,
    ⟨(some 91), .callM 41 [(.t 89), (.t 90)] [13], none⟩,
    ⟨(some 17), .mv (.t 91), none⟩] []) (.seq (.regh [⟨(some 92), .mv (.t 14), none⟩,
    ⟨(some 93), .mv (.t 17), none⟩] (.har 94 42 [(.t 92), (.t 93)] [14]) [⟨(some 17), .mv (.t 94), none⟩] []) (.seq (.seqr (.reg [⟨(some 95), .mv (.t 17), none⟩,
    ⟨(some 96), .bin .lss (.t 95) (.c (.i 0)), none⟩,
    ⟨(some 97), .mv (.t 96), none⟩,
    ⟨(some 98), .mv (.t 15), (some (97, false))⟩,
    ⟨(some 99), .mv (.t 10), (some (97, false))⟩,
    ⟨(some 100), .call 22 [(.t 98), (.t 99)], (some (97, false))⟩,
    ⟨(some 101), .un .not (.t 100), (some (97, false))⟩,
    ⟨(some 102), .pick (.t 97) (.c (.b true)) (.t 101), none⟩,
    ⟨(some 103), .mv (.t 102), none⟩,
    ⟨(some 104), .mv (.t 16), (some (103, false))⟩,
    ⟨(some 105), .mv (.t 11), (some (103, false))⟩,
    ⟨(some 106), .beq true (.t 104) (.t 105), (some (103, false))⟩,
    ⟨(some 107), .pick (.t 103) (.c (.b true)) (.t 106), none⟩] []) [0, 1, 2, 3, 10, 11, 15, 107] [10, 15] A8R2) (.seq (.reg [⟨(some 18), .mv (.c (.i 1)), none⟩] []) (.seq (.reg [⟨(some 108), .mv (.t 15), none⟩,
    ⟨(some 109), .mv (.t 18), none⟩,
    ⟨(some 110), .callM 23 [(.t 108), (.t 109)] [15], none⟩,
    ⟨(some 18), .mv (.t 110), none⟩] []) (.seq (.reg [⟨(some 19), .mv (.c (.i 1)), none⟩] []) (.seq (.reg [⟨(some 111), .mv (.t 15), none⟩,
    ⟨(some 112), .mv (.t 19), none⟩,
    ⟨(some 113), .call 24 [(.t 111), (.t 112)], none⟩,
    ⟨(some 19), .mv (.t 113), none⟩] []) (.seq (.seq (.reg [⟨(some 114), .mv (.t 19), none⟩,
    ⟨(some 115), .bin .lss (.t 114) (.c (.i 0)), none⟩] []) (.cond (.t 115) (.seq (.reg [⟨(some 8), .mv (.c (.b false)), none⟩] []) .ret) .skip)) (.seq (.seq (.reg [⟨(some 116), .mv (.t 19), none⟩,
    ⟨(some 117), .mv (.t 18), none⟩,
    ⟨(some 118), .bin .neq (.t 116) (.t 117), none⟩] []) (.cond (.t 118) (.seq (.reg [⟨(some 8), .mv (.c (.b false)), none⟩] []) .ret) .skip)) (.seq (.reg [⟨(some 120), .mv (.t 0), none⟩,
    ⟨(some 121), .call 27 [(.t 120)], none⟩,
    ⟨(some 122), .mv (.t 1), none⟩,
    ⟨(some 123), .mv (.t 2), none⟩,
    ⟨(some 124), .call 16 [(.t 123)], none⟩,
    ⟨(some 125), .mv (.t 3), none⟩,
    ⟨(some 126), .call 38 [(.t 125)], none⟩,
    ⟨(some 127), .call 39 [(.t 121), (.t 122), (.t 124), (.t 126)], none⟩,
    ⟨(some 119), .mv (.t 127), none⟩,
    ⟨(some 128), .ext (.t 119) 0, none⟩,
    ⟨(some 129), .ext (.t 119) 1, none⟩,
    ⟨(some 20), .mv (.t 128), none⟩,
    ⟨(some 21), .mv (.t 129), none⟩] [20]) (.seq (.seqr (.reg [⟨(some 130), .mv (.t 20), none⟩,
    ⟨(some 131), .mv (.t 10), none⟩,
    ⟨(some 132), .call 22 [(.t 130), (.t 131)], none⟩,
    ⟨(some 133), .un .not (.t 132), none⟩,
    ⟨(some 134), .mv (.t 133), none⟩,
    ⟨(some 135), .mv (.t 21), (some (134, false))⟩,
    ⟨(some 136), .mv (.t 11), (some (134, false))⟩,
    ⟨(some 137), .beq true (.t 135) (.t 136), (some (134, false))⟩,
    ⟨(some 138), .pick (.t 134) (.c (.b true)) (.t 137), none⟩] []) [15, 18, 138] [15] A8R3) (.seq (.reg [⟨(some 19), .mv (.c (.i 1)), none⟩] []) (.seq (.reg [⟨(some 139), .mv (.t 15), none⟩,
    ⟨(some 140), .mv (.t 19), none⟩,
    ⟨(some 141), .call 24 [(.t 139), (.t 140)], none⟩,
    ⟨(some 19), .mv (.t 141), none⟩] []) (.seq (.seq (.reg [⟨(some 142), .mv (.t 19), none⟩,
    ⟨(some 143), .bin .lss (.t 142) (.c (.i 0)), none⟩] []) (.cond (.t 143) (.seq (.reg [⟨(some 8), .mv (.c (.b false)), none⟩] []) .ret) .skip)) (.seq (.seq (.reg [⟨(some 144), .mv (.t 19), none⟩,
    ⟨(some 145), .mv (.t 18), none⟩,
    ⟨(some 146), .bin .neq (.t 144) (.t 145), none⟩] []) (.cond (.t 146) (.seq (.reg [⟨(some 8), .mv (.c (.b false)), none⟩] []) .ret) .skip)) (.seq (.reg [⟨(some 8), .mv (.c (.b true)), none⟩] []) .ret)))))))))))))))))))))))))))))))))))
def V8 : List RV := [.t 8]
theorem m8 : mtcF Try.prog 8 4 A8 V8 = true := by kernel_rfl
end Vs

