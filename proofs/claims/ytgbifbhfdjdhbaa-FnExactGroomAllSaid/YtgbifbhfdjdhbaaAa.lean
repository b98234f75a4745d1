/-
  Part of the proof that the law FnExactGroomAll returns true at every input; no condition beside the row's own.
-/
import Derived.Test.YtgbifbhfdjdhbaaFe
import Derived.Test.YtgbifbhfdjdhbaaChecked
import Derived.KernelRfl
set_option linter.unusedSimpArgs false
set_option linter.unusedVariables false
namespace Vs
open Go
structure TLink where
  A : Int
  B : Int
  Capacity : Int
  deriving DecidableEq
def e_TLink (f : Fl) (x : TLink) : AV := .agg [.i x.A, .i x.B, .i x.Capacity]
theorem e_TLink_nrm (f : Fl) (x : TLink) : (e_TLink f x).nrm = e_TLink .o x := by simp [e_TLink, nrm_sc, nrm_lst, nrm_agg, nrm_sc]
theorem e_TLink_nrmm (f : Fl) (xs : List TLink) : (xs.map (e_TLink f)).map AV.nrm = xs.map (e_TLink .o) := by simp [e_TLink_nrm]
theorem e_TLink_als (f : Fl) (x : TLink) : (e_TLink f x).als = e_TLink f.als x := by simp [e_TLink, als_sc, als_lst, als_agg, nrm_sc]
theorem e_TLink_alsm (f : Fl) (xs : List TLink) : (xs.map (e_TLink f)).map AV.als = xs.map (e_TLink f.als) := by simp [e_TLink_als]
theorem e_TLink_fix (f : Fl) (x : TLink) : (e_TLink f x).fix = e_TLink f.fix x := by simp [e_TLink, fix_sc, fix_lst, fix_agg, nrm_sc]
theorem e_TLink_fixm (f : Fl) (xs : List TLink) : (xs.map (e_TLink f)).map AV.fix = xs.map (e_TLink f.fix) := by simp [e_TLink_fix]
theorem e_TLink_fz (x : TLink) : (e_TLink .o x).fz = true := by simp [e_TLink, AV.i, AV.b, AV.z, fz_sc, fz_lsto, fz_agg, fzL_nil, fzL_cons, fzL_mi, fzL_mb, fzL_mz, fzL_m8, fzL_m64, ouL_m8, ouL_m64, ou_sc, ou_lstu, ou_agg, ouL_nil, ouL_cons, ouL_mi, ouL_mb, ouL_mz]
theorem e_TLink_fzm (xs : List TLink) : fzL (xs.map (e_TLink .o)) = true := fzL_of e_TLink_fz xs
theorem e_TLink_ou (x : TLink) : (e_TLink .u x).ouB = true := by simp [e_TLink, AV.i, AV.b, AV.z, fz_sc, fz_lsto, fz_agg, fzL_nil, fzL_cons, fzL_mi, fzL_mb, fzL_mz, fzL_m8, fzL_m64, ouL_m8, ouL_m64, ou_sc, ou_lstu, ou_agg, ouL_nil, ouL_cons, ouL_mi, ouL_mb, ouL_mz]
theorem e_TLink_oum (xs : List TLink) : ouBL (xs.map (e_TLink .u)) = true := ouL_of e_TLink_ou xs
structure TTributary where
  From : Int
  To : Int
  Rate : Int
  deriving DecidableEq
def e_TTributary (f : Fl) (x : TTributary) : AV := .agg [.i x.From, .i x.To, .i x.Rate]
theorem e_TTributary_nrm (f : Fl) (x : TTributary) : (e_TTributary f x).nrm = e_TTributary .o x := by simp [e_TTributary, nrm_sc, nrm_lst, nrm_agg, nrm_sc]
theorem e_TTributary_nrmm (f : Fl) (xs : List TTributary) : (xs.map (e_TTributary f)).map AV.nrm = xs.map (e_TTributary .o) := by simp [e_TTributary_nrm]
theorem e_TTributary_als (f : Fl) (x : TTributary) : (e_TTributary f x).als = e_TTributary f.als x := by simp [e_TTributary, als_sc, als_lst, als_agg, nrm_sc]
theorem e_TTributary_alsm (f : Fl) (xs : List TTributary) : (xs.map (e_TTributary f)).map AV.als = xs.map (e_TTributary f.als) := by simp [e_TTributary_als]
theorem e_TTributary_fix (f : Fl) (x : TTributary) : (e_TTributary f x).fix = e_TTributary f.fix x := by simp [e_TTributary, fix_sc, fix_lst, fix_agg, nrm_sc]
theorem e_TTributary_fixm (f : Fl) (xs : List TTributary) : (xs.map (e_TTributary f)).map AV.fix = xs.map (e_TTributary f.fix) := by simp [e_TTributary_fix]
theorem e_TTributary_fz (x : TTributary) : (e_TTributary .o x).fz = true := by simp [e_TTributary, AV.i, AV.b, AV.z, fz_sc, fz_lsto, fz_agg, fzL_nil, fzL_cons, fzL_mi, fzL_mb, fzL_mz, fzL_m8, fzL_m64, ouL_m8, ouL_m64, ou_sc, ou_lstu, ou_agg, ouL_nil, ouL_cons, ouL_mi, ouL_mb, ouL_mz]
theorem e_TTributary_fzm (xs : List TTributary) : fzL (xs.map (e_TTributary .o)) = true := fzL_of e_TTributary_fz xs
theorem e_TTributary_ou (x : TTributary) : (e_TTributary .u x).ouB = true := by simp [e_TTributary, AV.i, AV.b, AV.z, fz_sc, fz_lsto, fz_agg, fzL_nil, fzL_cons, fzL_mi, fzL_mb, fzL_mz, fzL_m8, fzL_m64, ouL_m8, ouL_m64, ou_sc, ou_lstu, ou_agg, ouL_nil, ouL_cons, ouL_mi, ouL_mb, ouL_mz]
theorem e_TTributary_oum (xs : List TTributary) : ouBL (xs.map (e_TTributary .u)) = true := ouL_of e_TTributary_ou xs
def e_Li (f : Fl) (xs : List Int) : AV := .lst f 1 (xs.map AV.i)
theorem e_Li_nrm (f : Fl) (x : List Int) : (e_Li f x).nrm = e_Li .o x := by simp [e_Li, nrm_sc, nrm_lst, nrm_agg, map_nrm_i]
theorem e_Li_nrmm (f : Fl) (xs : List (List Int)) : (xs.map (e_Li f)).map AV.nrm = xs.map (e_Li .o) := by simp [e_Li_nrm]
theorem e_Li_als (f : Fl) (x : List Int) : (e_Li f x).als = e_Li f.als x := by simp [e_Li, als_sc, als_lst, als_agg, map_als_i]
theorem e_Li_alsm (f : Fl) (xs : List (List Int)) : (xs.map (e_Li f)).map AV.als = xs.map (e_Li f.als) := by simp [e_Li_als]
theorem e_Li_fix (f : Fl) (x : List Int) : (e_Li f x).fix = e_Li f.fix x := by simp [e_Li, fix_sc, fix_lst, fix_agg, map_fix_i]
theorem e_Li_fixm (f : Fl) (xs : List (List Int)) : (xs.map (e_Li f)).map AV.fix = xs.map (e_Li f.fix) := by simp [e_Li_fix]
theorem e_Li_fz (x : List Int) : (e_Li .o x).fz = true := by simp [e_Li, AV.i, AV.b, AV.z, fz_sc, fz_lsto, fz_agg, fzL_nil, fzL_cons, fzL_mi, fzL_mb, fzL_mz, fzL_m8, fzL_m64, ouL_m8, ouL_m64, ou_sc, ou_lstu, ou_agg, ouL_nil, ouL_cons, ouL_mi, ouL_mb, ouL_mz]
theorem e_Li_fzm (xs : List (List Int)) : fzL (xs.map (e_Li .o)) = true := fzL_of e_Li_fz xs
theorem e_Li_ou (x : List Int) : (e_Li .u x).ouB = true := by simp [e_Li, AV.i, AV.b, AV.z, fz_sc, fz_lsto, fz_agg, fzL_nil, fzL_cons, fzL_mi, fzL_mb, fzL_mz, fzL_m8, fzL_m64, ouL_m8, ouL_m64, ou_sc, ou_lstu, ou_agg, ouL_nil, ouL_cons, ouL_mi, ouL_mb, ouL_mz]
theorem e_Li_oum (xs : List (List Int)) : ouBL (xs.map (e_Li .u)) = true := ouL_of e_Li_ou xs
structure TFiber where
  A : Int
  B : Int
  Length : Int
  Risk : Int
  deriving DecidableEq
def e_TFiber (f : Fl) (x : TFiber) : AV := .agg [.i x.A, .i x.B, .i x.Length, .i x.Risk]
theorem e_TFiber_nrm (f : Fl) (x : TFiber) : (e_TFiber f x).nrm = e_TFiber .o x := by simp [e_TFiber, nrm_sc, nrm_lst, nrm_agg, nrm_sc]
theorem e_TFiber_nrmm (f : Fl) (xs : List TFiber) : (xs.map (e_TFiber f)).map AV.nrm = xs.map (e_TFiber .o) := by simp [e_TFiber_nrm]
theorem e_TFiber_als (f : Fl) (x : TFiber) : (e_TFiber f x).als = e_TFiber f.als x := by simp [e_TFiber, als_sc, als_lst, als_agg, nrm_sc]
theorem e_TFiber_alsm (f : Fl) (xs : List TFiber) : (xs.map (e_TFiber f)).map AV.als = xs.map (e_TFiber f.als) := by simp [e_TFiber_als]
theorem e_TFiber_fix (f : Fl) (x : TFiber) : (e_TFiber f x).fix = e_TFiber f.fix x := by simp [e_TFiber, fix_sc, fix_lst, fix_agg, nrm_sc]
theorem e_TFiber_fixm (f : Fl) (xs : List TFiber) : (xs.map (e_TFiber f)).map AV.fix = xs.map (e_TFiber f.fix) := by simp [e_TFiber_fix]
theorem e_TFiber_fz (x : TFiber) : (e_TFiber .o x).fz = true := by simp [e_TFiber, AV.i, AV.b, AV.z, fz_sc, fz_lsto, fz_agg, fzL_nil, fzL_cons, fzL_mi, fzL_mb, fzL_mz, fzL_m8, fzL_m64, ouL_m8, ouL_m64, ou_sc, ou_lstu, ou_agg, ouL_nil, ouL_cons, ouL_mi, ouL_mb, ouL_mz]
theorem e_TFiber_fzm (xs : List TFiber) : fzL (xs.map (e_TFiber .o)) = true := fzL_of e_TFiber_fz xs
theorem e_TFiber_ou (x : TFiber) : (e_TFiber .u x).ouB = true := by simp [e_TFiber, AV.i, AV.b, AV.z, fz_sc, fz_lsto, fz_agg, fzL_nil, fzL_cons, fzL_mi, fzL_mb, fzL_mz, fzL_m8, fzL_m64, ouL_m8, ouL_m64, ou_sc, ou_lstu, ou_agg, ouL_nil, ouL_cons, ouL_mi, ouL_mb, ouL_mz]
theorem e_TFiber_oum (xs : List TFiber) : ouBL (xs.map (e_TFiber .u)) = true := ouL_of e_TFiber_ou xs
def M_laws_szLinkS (aZ0 : List TLink) (leftZ0 : Int) : Option Int :=
  cond (decide ((IntKind.wrap .i64 (leftZ0 - (aZ0.length : Int))) < 0)) (some (-1)) (some (IntKind.wrap .i64 (leftZ0 - (aZ0.length : Int))))
def M_laws_szTributaryS (aZ0 : List TTributary) (leftZ0 : Int) : Option Int :=
  cond (decide ((IntKind.wrap .i64 (leftZ0 - (aZ0.length : Int))) < 0)) (some (-1)) (some (IntKind.wrap .i64 (leftZ0 - (aZ0.length : Int))))
def M_laws_toLink (aZ0 : TLink) : Option TLink :=
  some (⟨aZ0.A, aZ0.B, aZ0.Capacity⟩ : TLink)
def M_laws_toLinkSL1 (aZ0 : List TLink) (sZ4 : Int × List TLink) : Option ((Int × List TLink) ⊕ (List TLink)) :=
  cond (decide (sZ4.1 < (aZ0.length : Int))) ((geti aZ0 sZ4.1).bind fun yZ6 => (M_laws_toLink yZ6).bind fun rZ7 => (grd (0 ≤ sZ4.1 ∧ sZ4.1 < (sZ4.2.length : Int))).bind fun kZ8 => (sZ4.2[(Int.toNat sZ4.1)]?).bind fun yZ9 => bnd (sZ4.2.set (Int.toNat sZ4.1) rZ7) fun lZ10 => some (.inl (IntKind.wrap .i64 (sZ4.1 + 1), lZ10))) (some (.inr sZ4.2))
def M_laws_toLinkS (aZ0 : List TLink) : Option (List TLink) :=
  (grd (0 ≤ (aZ0.length : Int) ∧ (aZ0.length : Int) ≤ (aZ0.length : Int) ∧ (aZ0.length : Int) * ((24 : Nat) : Int) ≤ 140737488355328 ∧ (aZ0.length : Int) ≤ 9223372036854775807)).bind fun uZ1 => bnd (List.replicate (Int.toNat (aZ0.length : Int)) (⟨0, 0, 0⟩ : TLink)) fun lZ2 => (iter (M_laws_toLinkSL1 aZ0) N0 (0, lZ2)).bind fun oZ12 => some oZ12
def M_laws_toTributary (aZ0 : TTributary) : Option TTributary :=
  some (⟨aZ0.From, aZ0.To, aZ0.Rate⟩ : TTributary)
def M_laws_toTributarySL1 (aZ0 : List TTributary) (sZ4 : Int × List TTributary) : Option ((Int × List TTributary) ⊕ (List TTributary)) :=
  cond (decide (sZ4.1 < (aZ0.length : Int))) ((geti aZ0 sZ4.1).bind fun yZ6 => (M_laws_toTributary yZ6).bind fun rZ7 => (grd (0 ≤ sZ4.1 ∧ sZ4.1 < (sZ4.2.length : Int))).bind fun kZ8 => (sZ4.2[(Int.toNat sZ4.1)]?).bind fun yZ9 => bnd (sZ4.2.set (Int.toNat sZ4.1) rZ7) fun lZ10 => some (.inl (IntKind.wrap .i64 (sZ4.1 + 1), lZ10))) (some (.inr sZ4.2))
def M_laws_toTributaryS (aZ0 : List TTributary) : Option (List TTributary) :=
  (grd (0 ≤ (aZ0.length : Int) ∧ (aZ0.length : Int) ≤ (aZ0.length : Int) ∧ (aZ0.length : Int) * ((24 : Nat) : Int) ≤ 140737488355328 ∧ (aZ0.length : Int) ≤ 9223372036854775807)).bind fun uZ1 => bnd (List.replicate (Int.toNat (aZ0.length : Int)) (⟨0, 0, 0⟩ : TTributary)) fun lZ2 => (iter (M_laws_toTributarySL1 aZ0) N0 (0, lZ2)).bind fun oZ12 => some oZ12
def M_spec_l1In (xZ0 : Int) (aZ0 : Int) (bZ0 : Int) : Option Bool :=
  cond (decide (aZ0 ≤ xZ0)) (some (decide (xZ0 ≤ bZ0))) (some false)
def M_spec_l18Pair (aZ0 : Int) (bZ0 : Int) (nodesZ0 : Int) : Option Bool :=
  (M_spec_l1In aZ0 0 (IntKind.wrap .i64 (nodesZ0 - 1))).bind fun rZ1 => cond (rZ1) ((M_spec_l1In bZ0 0 (IntKind.wrap .i64 (nodesZ0 - 1))).bind fun rZ3 => cond (rZ3) (some (aZ0 != bZ0)) (some false)) (some false)
def M_spec_l18LinksL1 (linksZ0 : List TLink) (nodesZ0 : Int) (sZ1 : Int) : Option (Int ⊕ (Unit ⊕ Bool)) :=
  (cond (decide (sZ1 < (linksZ0.length : Int))) (some (decide (sZ1 ≤ 12))) (some false) : Option Bool).bind fun oZ3 => cond (oZ3) (((geti linksZ0 sZ1).bind fun yZ5 => (M_spec_l18Pair yZ5.A yZ5.B nodesZ0).bind fun rZ6 => cond (!rZ6) (some true) ((M_spec_l1In yZ5.Capacity 0 10000).bind fun rZ8 => some (!rZ8)) : Option Bool).bind fun oZ9 => cond (oZ9) (some (.inr (.inr false))) (some (.inl (IntKind.wrap .i64 (sZ1 + 1))))) (some (.inr (.inl ())))
def M_spec_l18Links (linksZ0 : List TLink) (nodesZ0 : Int) : Option Bool :=
  (iter (M_spec_l18LinksL1 linksZ0 nodesZ0) N0 0).bind fun oZ11 => (match oZ11 with | .inl vZ12 => (M_spec_l1In nodesZ0 2 8).bind fun rZ14 => cond (rZ14) (some (decide ((linksZ0.length : Int) ≤ 12))) (some false) | .inr xZ13 => some xZ13)
def M_spec_l18GoodL1 (listZ0 : List TTributary) (nodesZ0 : Int) (sZ1 : Int) : Option (Int ⊕ (Unit ⊕ Bool)) :=
  (cond (decide (sZ1 < (listZ0.length : Int))) (some (decide (sZ1 ≤ 12))) (some false) : Option Bool).bind fun oZ3 => cond (oZ3) (((geti listZ0 sZ1).bind fun yZ5 => (M_spec_l18Pair yZ5.From yZ5.To nodesZ0).bind fun rZ6 => cond (!rZ6) (some true) ((M_spec_l1In yZ5.Rate 1 1000).bind fun rZ8 => some (!rZ8)) : Option Bool).bind fun oZ9 => cond (oZ9) (some (.inr (.inr false))) (some (.inl (IntKind.wrap .i64 (sZ1 + 1))))) (some (.inr (.inl ())))
def M_spec_l18Good (listZ0 : List TTributary) (nodesZ0 : Int) : Option Bool :=
  (iter (M_spec_l18GoodL1 listZ0 nodesZ0) N0 0).bind fun oZ11 => (match oZ11 with | .inl vZ12 => (M_spec_l1In nodesZ0 2 8).bind fun rZ14 => cond (rZ14) (some (decide ((listZ0.length : Int) ≤ 12))) (some false) | .inr xZ13 => some xZ13)
def M_spec_l1HasL1 (lZ0 : List Int) (nZ0 : Int) (sZ1 : Int) : Option (Int ⊕ (Unit ⊕ Bool)) :=
  cond (decide (sZ1 < (lZ0.length : Int))) ((geti lZ0 sZ1).bind fun yZ3 => cond (yZ3 == nZ0) (some (.inr (.inr true))) (some (.inl (IntKind.wrap .i64 (sZ1 + 1))))) (some (.inr (.inl ())))
def M_spec_l1Has (lZ0 : List Int) (nZ0 : Int) : Option Bool :=
  (iter (M_spec_l1HasL1 lZ0 nZ0) N0 0).bind fun oZ5 => (match oZ5 with | .inl vZ6 => some false | .inr xZ7 => some xZ7)
def M_spec_l1Own (lZ0 : List Int) : Option (List Int) :=
  (grd (lZ0.length * 8 ≤ 140737488355328)).bind fun uZ1 => some lZ0
def M_spec_l18FindL1 (linksZ0 : List TLink) (freeZ0 : List Int) (atZ0 : Int) (toZ0 : Int) (rateZ0 : Int) (kZ0 : Int) (seenZ0 : List Int) (rcZ0 : List TLink → List Int → Int → Int → Int → Int → List Int → Option (List Int)) (sZ1 : Int) : Option (Int ⊕ (Unit ⊕ (List Int))) :=
  (cond (decide (sZ1 < (linksZ0.length : Int))) (some (decide (0 < kZ0))) (some false) : Option Bool).bind fun oZ3 => cond (oZ3) (((geti linksZ0 sZ1).bind fun yZ5 => cond (yZ5.A == atZ0) (some yZ5.B) (some (-1)) : Option Int).bind fun oZ7 => ((geti linksZ0 sZ1).bind fun yZ8 => cond (yZ8.B == atZ0) (some yZ8.A) (some oZ7) : Option Int).bind fun oZ10 => (cond (decide (oZ10 < 0)) (some true) ((geti freeZ0 sZ1).bind fun yZ12 => cond (decide (yZ12 < rateZ0)) (some true) ((M_spec_l1Has seenZ0 oZ10).bind fun rZ14 => some rZ14)) : Option Bool).bind fun oZ15 => cond (oZ15) (some (.inl (IntKind.wrap .i64 (sZ1 + 1)))) (cond (oZ10 == toZ0) (cond (kZ0 == 1) (bnd ([sZ1]) fun lZ19 => some (.inr (.inr lZ19))) (some (.inl (IntKind.wrap .i64 (sZ1 + 1))))) ((M_spec_l1Own seenZ0).bind fun rZ23 => bnd ([oZ10]) fun lZ24 => (grd ((rZ23.length + 1) * 8 ≤ 140737488355328)).bind fun uZ27 => bnd (rZ23 ++ lZ24) fun lZ28 => (rcZ0 linksZ0 freeZ0 oZ10 toZ0 rateZ0 (IntKind.wrap .i64 (kZ0 - 1)) lZ28).bind fun rZ31 => cond (decide (0 < (rZ31.length : Int))) (bnd ([sZ1]) fun lZ33 => (grd ((1 + rZ31.length) * 8 ≤ 140737488355328)).bind fun uZ37 => bnd (lZ33 ++ rZ31) fun lZ38 => some (.inr (.inr lZ38))) (some (.inl (IntKind.wrap .i64 (sZ1 + 1))))))) (some (.inr (.inl ())))
def M_spec_l18Find_B (rcZ0 : List TLink → List Int → Int → Int → Int → Int → List Int → Option (List Int)) (linksZ0 : List TLink) (freeZ0 : List Int) (atZ0 : Int) (toZ0 : Int) (rateZ0 : Int) (kZ0 : Int) (seenZ0 : List Int) : Option (List Int) :=
  (iter (M_spec_l18FindL1 linksZ0 freeZ0 atZ0 toZ0 rateZ0 kZ0 seenZ0 rcZ0) N0 0).bind fun oZ41 => (match oZ41 with | .inl vZ42 => some ([]) | .inr xZ43 => some xZ43)
def M_spec_l18Find : Nat → List TLink → List Int → Int → Int → Int → Int → List Int → Option (List Int)
  | 0, _, _, _, _, _, _, _ => none
  | n + 1, linksZ0, freeZ0, atZ0, toZ0, rateZ0, kZ0, seenZ0 => M_spec_l18Find_B (M_spec_l18Find n) linksZ0 freeZ0 atZ0 toZ0 rateZ0 kZ0 seenZ0
def M_spec_l18RouteL1 (linksZ0 : List TLink) (freeZ0 : List Int) (tZ0 : TTributary) (sZ1 : Int) : Option (Int ⊕ (Unit ⊕ (List Int))) :=
  cond (decide (sZ1 < 8)) (bnd ([tZ0.From]) fun lZ3 => (M_spec_l18Find N0 linksZ0 freeZ0 tZ0.From tZ0.To tZ0.Rate sZ1 lZ3).bind fun rZ7 => cond (decide (0 < (rZ7.length : Int))) (some (.inr (.inr rZ7))) (some (.inl (IntKind.wrap .i64 (sZ1 + 1))))) (some (.inr (.inl ())))
def M_spec_l18Route (linksZ0 : List TLink) (freeZ0 : List Int) (tZ0 : TTributary) : Option (List Int) :=
  (iter (M_spec_l18RouteL1 linksZ0 freeZ0 tZ0) N0 1).bind fun oZ9 => (match oZ9 with | .inl vZ10 => some ([]) | .inr xZ11 => some xZ11)
def M_spec_GroomAllL1 (linksZ0 : List TLink) (sZ6 : Int × List Int) : Option ((Int × List Int) ⊕ (List Int)) :=
  cond (decide (sZ6.1 < (linksZ0.length : Int))) ((geti linksZ0 sZ6.1).bind fun yZ8 => bnd ([yZ8.Capacity]) fun lZ9 => (grd ((sZ6.2.length + 1) * 8 ≤ 140737488355328)).bind fun uZ12 => bnd (sZ6.2 ++ lZ9) fun lZ13 => some (.inl (IntKind.wrap .i64 (sZ6.1 + 1), lZ13))) (some (.inr sZ6.2))
def M_spec_GroomAllL3 (listZ0 : List TTributary) (sZ17 : Int × List (List Int) × List Int) (rZ20 : List Int) (sZ21 : Int × List Int) : Option ((Int × List Int) ⊕ (List Int)) :=
  cond (decide (sZ21.1 < (rZ20.length : Int))) ((grd (0 ≤ sZ21.1 ∧ sZ21.1 < (rZ20.length : Int))).bind fun kZ23 => (rZ20[(Int.toNat sZ21.1)]?).bind fun yZ24 => (grd (0 ≤ yZ24 ∧ yZ24 < (sZ21.2.length : Int))).bind fun kZ25 => (sZ21.2[(Int.toNat yZ24)]?).bind fun yZ26 => (geti listZ0 sZ17.1).bind fun yZ27 => bnd (sZ21.2.set (Int.toNat yZ24) (IntKind.wrap .i64 (yZ26 - yZ27.Rate))) fun lZ28 => some (.inl (IntKind.wrap .i64 (sZ21.1 + 1), lZ28))) (some (.inr sZ21.2))
def M_spec_GroomAllL2 (linksZ0 : List TLink) (listZ0 : List TTributary) (sZ17 : Int × List (List Int) × List Int) : Option ((Int × List (List Int) × List Int) ⊕ (List (List Int) × List Int)) :=
  cond (decide (sZ17.1 < (listZ0.length : Int))) ((geti listZ0 sZ17.1).bind fun yZ19 => (M_spec_l18Route linksZ0 sZ17.2.2 yZ19).bind fun rZ20 => (iter (M_spec_GroomAllL3 listZ0 sZ17 rZ20) N0 (0, sZ17.2.2)).bind fun oZ30 => bnd ([rZ20]) fun lZ31 => (grd ((sZ17.2.1.length + 1) * 24 ≤ 140737488355328)).bind fun uZ34 => bnd (sZ17.2.1 ++ lZ31) fun lZ35 => some (.inl (IntKind.wrap .i64 (sZ17.1 + 1), lZ35, oZ30))) (some (.inr (sZ17.2.1, sZ17.2.2)))
def M_spec_GroomAll (linksZ0 : List TLink) (nodesZ0 : Int) (listZ0 : List TTributary) : Option (List (List Int) × List Int × Bool) :=
  ((M_spec_l18Links linksZ0 nodesZ0).bind fun rZ1 => cond (!rZ1) (some true) ((M_spec_l18Good listZ0 nodesZ0).bind fun rZ3 => some (!rZ3)) : Option Bool).bind fun oZ4 => cond (oZ4) (some (([]), ([]), false)) ((iter (M_spec_GroomAllL1 linksZ0) N0 (0, [])).bind fun oZ16 => (iter (M_spec_GroomAllL2 linksZ0 listZ0) N0 (0, [], oZ16)).bind fun oZ38 => some (oZ38.1, oZ38.2, true))
def M_impl_within (nZ0 : Int) (lowZ0 : Int) (highZ0 : Int) : Option Bool :=
  cond (decide (lowZ0 ≤ nZ0)) (some (decide (nZ0 ≤ highZ0))) (some false)
def M_slices_IndexFunc_LinkL1 (sZ0 : List TLink) (fZ0 : TLink → Option Bool) (sZ1 : Int) : Option (Int ⊕ (Unit ⊕ Int)) :=
  cond (decide (sZ1 < (sZ0.length : Int))) ((geti sZ0 sZ1).bind fun yZ3 => (fZ0 yZ3).bind fun rZ4 => cond (rZ4) (some (.inr (.inr sZ1))) (some (.inl (IntKind.wrap .i64 (sZ1 + 1))))) (some (.inr (.inl ())))
def M_slices_IndexFunc_Link (sZ0 : List TLink) (fZ0 : TLink → Option Bool) : Option Int :=
  (iter (M_slices_IndexFunc_LinkL1 sZ0 fZ0) N0 0).bind fun oZ6 => (match oZ6 with | .inl vZ7 => some (-1) | .inr xZ8 => some xZ8)
def M_slices_ContainsFunc_Link (sZ0 : List TLink) (fZ0 : TLink → Option Bool) : Option Bool :=
  (M_slices_IndexFunc_Link sZ0 fZ0).bind fun rZ1 => some (decide (0 ≤ rZ1))
def M_impl_areEnds (aZ0 : Int) (bZ0 : Int) (nodesZ0 : Int) : Option Bool :=
  (M_impl_within aZ0 0 (IntKind.wrap .i64 (nodesZ0 - 1))).bind fun rZ1 => cond (rZ1) ((M_impl_within bZ0 0 (IntKind.wrap .i64 (nodesZ0 - 1))).bind fun rZ3 => cond (rZ3) (some (aZ0 != bZ0)) (some false)) (some false)
def M_impl_areLinks_c1 (lZ0 : TLink) (p1Z0 : Int) : Option Bool :=
  (M_impl_areEnds lZ0.A lZ0.B p1Z0).bind fun rZ1 => cond (!rZ1) (some true) ((M_impl_within lZ0.Capacity 0 10000).bind fun rZ3 => some (!rZ3))
def M_impl_areLinks (linksZ0 : List TLink) (nodesZ0 : Int) : Option Bool :=
  (M_impl_within nodesZ0 2 8).bind fun rZ1 => cond (rZ1) (cond (decide ((linksZ0.length : Int) ≤ 12)) ((M_slices_ContainsFunc_Link linksZ0 (fun x0 => M_impl_areLinks_c1 x0 nodesZ0)).bind fun rZ4 => some (!rZ4)) (some false)) (some false)
def M_slices_IndexFunc_TributaryL1 (sZ0 : List TTributary) (fZ0 : TTributary → Option Bool) (sZ1 : Int) : Option (Int ⊕ (Unit ⊕ Int)) :=
  cond (decide (sZ1 < (sZ0.length : Int))) ((geti sZ0 sZ1).bind fun yZ3 => (fZ0 yZ3).bind fun rZ4 => cond (rZ4) (some (.inr (.inr sZ1))) (some (.inl (IntKind.wrap .i64 (sZ1 + 1))))) (some (.inr (.inl ())))
def M_slices_IndexFunc_Tributary (sZ0 : List TTributary) (fZ0 : TTributary → Option Bool) : Option Int :=
  (iter (M_slices_IndexFunc_TributaryL1 sZ0 fZ0) N0 0).bind fun oZ6 => (match oZ6 with | .inl vZ7 => some (-1) | .inr xZ8 => some xZ8)
def M_slices_ContainsFunc_Tributary (sZ0 : List TTributary) (fZ0 : TTributary → Option Bool) : Option Bool :=
  (M_slices_IndexFunc_Tributary sZ0 fZ0).bind fun rZ1 => some (decide (0 ≤ rZ1))
def M_impl_IsValidTributaries_c1 (tZ0 : TTributary) (p1Z0 : Int) : Option Bool :=
  (M_impl_areEnds tZ0.From tZ0.To p1Z0).bind fun rZ1 => cond (!rZ1) (some true) ((M_impl_within tZ0.Rate 1 1000).bind fun rZ3 => some (!rZ3))
def M_impl_IsValidTributaries (listZ0 : List TTributary) (nodesZ0 : Int) : Option Bool :=
  (M_impl_within nodesZ0 2 8).bind fun rZ1 => cond (rZ1) (cond (decide ((listZ0.length : Int) ≤ 12)) ((M_slices_ContainsFunc_Tributary listZ0 (fun x0 => M_impl_IsValidTributaries_c1 x0 nodesZ0)).bind fun rZ4 => some (!rZ4)) (some false)) (some false)
def M_impl_isGrooming (linksZ0 : List TLink) (nodesZ0 : Int) (listZ0 : List TTributary) : Option Bool :=
  (M_impl_areLinks linksZ0 nodesZ0).bind fun rZ1 => cond (rZ1) ((M_impl_IsValidTributaries listZ0 nodesZ0).bind fun rZ3 => some rZ3) (some false)
def M_impl_otherEnd (fZ0 : TFiber) (nodeZ0 : Int) : Option Int :=
  cond (nodeZ0 == fZ0.A) (some fZ0.B) (cond (nodeZ0 == fZ0.B) (some fZ0.A) (some (-1)))
def M_impl_leadsL1 (linksZ0 : List TLink) (freeZ0 : List Int) (atZ0 : Int) (toZ0 : Int) (rateZ0 : Int) (countZ0 : Int) (seenZ0 : Int) (rcZ0 : List TLink → List Int → Int → Int → Int → Int → Int → Option (List Int × Bool)) (sZ3 : Int) : Option (Int ⊕ (Unit ⊕ (List Int × Bool))) :=
  cond (decide (sZ3 < (linksZ0.length : Int))) ((geti linksZ0 sZ3).bind fun yZ5 => (M_impl_otherEnd (⟨yZ5.A, yZ5.B, 0, 0⟩ : TFiber) atZ0).bind fun rZ6 => (cond (decide (rZ6 < 0)) (some true) ((geti freeZ0 sZ3).bind fun yZ8 => cond (decide (yZ8 < rateZ0)) (some true) ((grd (0 ≤ rZ6)).bind fun uZ10 => some ((bits .and .i64 (Int.fdiv seenZ0 (2 ^ (min (Int.toNat rZ6) (IntKind.bits .i64)))) 1) == 1))) : Option Bool).bind fun oZ11 => cond (oZ11) (some (.inl (IntKind.wrap .i64 (sZ3 + 1)))) ((grd (0 ≤ rZ6)).bind fun uZ13 => (rcZ0 linksZ0 freeZ0 rZ6 toZ0 rateZ0 (IntKind.wrap .i64 (countZ0 - 1)) (bits .or .i64 seenZ0 (IntKind.wrap .i64 (1 * 2 ^ (min (Int.toNat rZ6) (IntKind.bits .i64)))))).bind fun rZ14 => cond (rZ14.2) (bnd ([sZ3]) fun lZ16 => (grd ((1 + rZ14.1.length) * 8 ≤ 140737488355328)).bind fun uZ20 => bnd (lZ16 ++ rZ14.1) fun lZ21 => some (.inr (.inr (lZ21, true)))) (some (.inl (IntKind.wrap .i64 (sZ3 + 1)))))) (some (.inr (.inl ())))
def M_impl_leads_B (rcZ0 : List TLink → List Int → Int → Int → Int → Int → Int → Option (List Int × Bool)) (linksZ0 : List TLink) (freeZ0 : List Int) (atZ0 : Int) (toZ0 : Int) (rateZ0 : Int) (countZ0 : Int) (seenZ0 : Int) : Option (List Int × Bool) :=
  cond (atZ0 == toZ0) (some (([]), true)) (cond (countZ0 == 0) (some (([]), false)) ((iter (M_impl_leadsL1 linksZ0 freeZ0 atZ0 toZ0 rateZ0 countZ0 seenZ0 rcZ0) N0 0).bind fun oZ24 => (match oZ24 with | .inl vZ25 => some (([]), false) | .inr xZ26 => some xZ26)))
def M_impl_leads : Nat → List TLink → List Int → Int → Int → Int → Int → Int → Option (List Int × Bool)
  | 0, _, _, _, _, _, _, _ => none
  | n + 1, linksZ0, freeZ0, atZ0, toZ0, rateZ0, countZ0, seenZ0 => M_impl_leads_B (M_impl_leads n) linksZ0 freeZ0 atZ0 toZ0 rateZ0 countZ0 seenZ0
def M_impl_routedL1 (linksZ0 : List TLink) (freeZ0 : List Int) (tZ0 : TTributary) (sZ1 : Int) : Option (Int ⊕ (Unit ⊕ (List Int × Bool))) :=
  cond (decide (sZ1 < 8)) ((grd (0 ≤ tZ0.From)).bind fun uZ3 => (M_impl_leads N0 linksZ0 freeZ0 tZ0.From tZ0.To tZ0.Rate sZ1 (IntKind.wrap .i64 (1 * 2 ^ (min (Int.toNat tZ0.From) (IntKind.bits .i64))))).bind fun rZ4 => cond (rZ4.2) (some (.inr (.inr (rZ4.1, true)))) (some (.inl (IntKind.wrap .i64 (sZ1 + 1))))) (some (.inr (.inl ())))
def M_impl_routed (linksZ0 : List TLink) (freeZ0 : List Int) (tZ0 : TTributary) : Option (List Int × Bool) :=
  (iter (M_impl_routedL1 linksZ0 freeZ0 tZ0) N0 1).bind fun oZ6 => (match oZ6 with | .inl vZ7 => some (([]), false) | .inr xZ8 => some xZ8)
def M_impl_groomedL1 (linksZ0 : List TLink) (sZ1 : Int × List Int) : Option ((Int × List Int) ⊕ (List Int)) :=
  cond (decide (sZ1.1 < (linksZ0.length : Int))) ((geti linksZ0 sZ1.1).bind fun yZ3 => bnd ([yZ3.Capacity]) fun lZ4 => (grd ((sZ1.2.length + 1) * 8 ≤ 140737488355328)).bind fun uZ7 => bnd (sZ1.2 ++ lZ4) fun lZ8 => some (.inl (IntKind.wrap .i64 (sZ1.1 + 1), lZ8))) (some (.inr sZ1.2))
def M_impl_groomedL3 (yZ14 : TTributary) (rZ15 : List Int × Bool) (sZ18 : Int × List Int) : Option ((Int × List Int) ⊕ (List Int)) :=
  cond (decide (sZ18.1 < (rZ15.1.length : Int))) ((grd (0 ≤ sZ18.1 ∧ sZ18.1 < (rZ15.1.length : Int))).bind fun kZ20 => (rZ15.1[(Int.toNat sZ18.1)]?).bind fun yZ21 => (grd (0 ≤ yZ21 ∧ yZ21 < (sZ18.2.length : Int))).bind fun kZ22 => (sZ18.2[(Int.toNat yZ21)]?).bind fun yZ23 => bnd (sZ18.2.set (Int.toNat yZ21) (IntKind.wrap .i64 (yZ23 - yZ14.Rate))) fun lZ24 => some (.inl (IntKind.wrap .i64 (sZ18.1 + 1), lZ24))) (some (.inr sZ18.2))
def M_impl_groomedL2 (linksZ0 : List TLink) (listZ0 : List TTributary) (sZ12 : Int × Int × List (List Int) × List Int) : Option ((Int × Int × List (List Int) × List Int) ⊕ (Int × List (List Int) × List Int)) :=
  cond (decide (sZ12.2.1 < (listZ0.length : Int))) ((geti listZ0 sZ12.2.1).bind fun yZ14 => (M_impl_routed linksZ0 sZ12.2.2.2 yZ14).bind fun rZ15 => (cond (!rZ15.2) (some (IntKind.wrap .i64 (sZ12.1 + yZ14.Rate))) (some sZ12.1) : Option Int).bind fun oZ17 => (iter (M_impl_groomedL3 yZ14 rZ15) N0 (0, sZ12.2.2.2)).bind fun oZ26 => bnd ([rZ15.1]) fun lZ27 => (grd ((sZ12.2.2.1.length + 1) * 24 ≤ 140737488355328)).bind fun uZ30 => bnd (sZ12.2.2.1 ++ lZ27) fun lZ31 => some (.inl (oZ17, IntKind.wrap .i64 (sZ12.2.1 + 1), lZ31, oZ26))) (some (.inr (sZ12.1, sZ12.2.2.1, sZ12.2.2.2)))
def M_impl_groomed (linksZ0 : List TLink) (listZ0 : List TTributary) : Option (List (List Int) × List Int × Int) :=
  (iter (M_impl_groomedL1 linksZ0) N0 (0, [])).bind fun oZ11 => (iter (M_impl_groomedL2 linksZ0 listZ0) N0 (0, 0, [], oZ11)).bind fun oZ34 => some (oZ34.2.1, oZ34.2.2, oZ34.1)
def M_impl_GroomAll (linksZ0 : List TLink) (nodesZ0 : Int) (listZ0 : List TTributary) : Option (List (List Int) × List Int × Bool) :=
  (M_impl_isGrooming linksZ0 nodesZ0 listZ0).bind fun rZ1 => cond (!rZ1) (some (([]), ([]), false)) ((M_impl_groomed linksZ0 listZ0).bind fun rZ3 => some (rZ3.1, rZ3.2.1, true))
def M_laws_eqIntSL1 (aZ0 : List Int) (bZ0 : List Int) (sZ2 : Int) : Option (Int ⊕ (Unit ⊕ Bool)) :=
  cond (decide (sZ2 < (aZ0.length : Int))) ((geti aZ0 sZ2).bind fun yZ4 => (geti bZ0 sZ2).bind fun yZ5 => cond (yZ4 != yZ5) (some (.inr (.inr false))) (some (.inl (IntKind.wrap .i64 (sZ2 + 1))))) (some (.inr (.inl ())))
def M_laws_eqIntS (aZ0 : List Int) (bZ0 : List Int) : Option Bool :=
  cond ((aZ0.length : Int) != (bZ0.length : Int)) (some false) ((iter (M_laws_eqIntSL1 aZ0 bZ0) N0 0).bind fun oZ7 => (match oZ7 with | .inl vZ8 => some true | .inr xZ9 => some xZ9))
def M_laws_eqIntSSL1 (aZ0 : List (List Int)) (bZ0 : List (List Int)) (sZ2 : Int) : Option (Int ⊕ (Unit ⊕ Bool)) :=
  cond (decide (sZ2 < (aZ0.length : Int))) ((geti aZ0 sZ2).bind fun yZ4 => (geti bZ0 sZ2).bind fun yZ5 => (M_laws_eqIntS yZ4 yZ5).bind fun rZ6 => cond (!rZ6) (some (.inr (.inr false))) (some (.inl (IntKind.wrap .i64 (sZ2 + 1))))) (some (.inr (.inl ())))
def M_laws_eqIntSS (aZ0 : List (List Int)) (bZ0 : List (List Int)) : Option Bool :=
  cond ((aZ0.length : Int) != (bZ0.length : Int)) (some false) ((iter (M_laws_eqIntSSL1 aZ0 bZ0) N0 0).bind fun oZ8 => (match oZ8 with | .inl vZ9 => some true | .inr xZ10 => some xZ10))
def M_laws_eqLink (aZ0 : TLink) (bZ0 : TLink) : Option Bool :=
  cond (aZ0.A != bZ0.A) (some false) (cond (aZ0.B != bZ0.B) (some false) (cond (aZ0.Capacity != bZ0.Capacity) (some false) (some true)))
def M_laws_eqLinkSL1 (aZ0 : List TLink) (bZ0 : List TLink) (sZ2 : Int) : Option (Int ⊕ (Unit ⊕ Bool)) :=
  cond (decide (sZ2 < (aZ0.length : Int))) ((geti aZ0 sZ2).bind fun yZ4 => (geti bZ0 sZ2).bind fun yZ5 => (M_laws_eqLink yZ4 yZ5).bind fun rZ6 => cond (!rZ6) (some (.inr (.inr false))) (some (.inl (IntKind.wrap .i64 (sZ2 + 1))))) (some (.inr (.inl ())))
def M_laws_eqLinkS (aZ0 : List TLink) (bZ0 : List TLink) : Option Bool :=
  cond ((aZ0.length : Int) != (bZ0.length : Int)) (some false) ((iter (M_laws_eqLinkSL1 aZ0 bZ0) N0 0).bind fun oZ8 => (match oZ8 with | .inl vZ9 => some true | .inr xZ10 => some xZ10))
def M_laws_eqTributary (aZ0 : TTributary) (bZ0 : TTributary) : Option Bool :=
  cond (aZ0.From != bZ0.From) (some false) (cond (aZ0.To != bZ0.To) (some false) (cond (aZ0.Rate != bZ0.Rate) (some false) (some true)))
def M_laws_eqTributarySL1 (aZ0 : List TTributary) (bZ0 : List TTributary) (sZ2 : Int) : Option (Int ⊕ (Unit ⊕ Bool)) :=
  cond (decide (sZ2 < (aZ0.length : Int))) ((geti aZ0 sZ2).bind fun yZ4 => (geti bZ0 sZ2).bind fun yZ5 => (M_laws_eqTributary yZ4 yZ5).bind fun rZ6 => cond (!rZ6) (some (.inr (.inr false))) (some (.inl (IntKind.wrap .i64 (sZ2 + 1))))) (some (.inr (.inl ())))
def M_laws_eqTributaryS (aZ0 : List TTributary) (bZ0 : List TTributary) : Option Bool :=
  cond ((aZ0.length : Int) != (bZ0.length : Int)) (some false) ((iter (M_laws_eqTributarySL1 aZ0 bZ0) N0 0).bind fun oZ8 => (match oZ8 with | .inl vZ9 => some true | .inr xZ10 => some xZ10))
def M_laws_markLinkSM1L1 (sZ1 : Int × Int × List TLink) : Option ((Int × Int × List TLink) ⊕ (Int × List TLink)) :=
  cond (decide (sZ1.2.1 < (sZ1.2.2.length : Int))) ((grd (0 ≤ sZ1.2.1 ∧ sZ1.2.1 < (sZ1.2.2.length : Int))).bind fun kZ3 => (sZ1.2.2[(Int.toNat sZ1.2.1)]?).bind fun yZ4 => bnd (sZ1.2.2.set (Int.toNat sZ1.2.1) (⟨sZ1.1, yZ4.B, yZ4.Capacity⟩ : TLink)) fun lZ5 => (lZ5[(Int.toNat sZ1.2.1)]?).bind fun yZ7 => bnd (lZ5.set (Int.toNat sZ1.2.1) (⟨yZ7.A, IntKind.wrap .i64 (sZ1.1 + 1), yZ7.Capacity⟩ : TLink)) fun lZ8 => (lZ8[(Int.toNat sZ1.2.1)]?).bind fun yZ10 => bnd (lZ8.set (Int.toNat sZ1.2.1) (⟨yZ10.A, yZ10.B, IntKind.wrap .i64 ((IntKind.wrap .i64 (sZ1.1 + 1)) + 1)⟩ : TLink)) fun lZ11 => some (.inl (IntKind.wrap .i64 ((IntKind.wrap .i64 ((IntKind.wrap .i64 (sZ1.1 + 1)) + 1)) + 1), IntKind.wrap .i64 (sZ1.2.1 + 1), lZ11))) (some (.inr (sZ1.1, sZ1.2.2)))
def M_laws_markLinkSM1 (aaZ0 : Int) (abZ0 : List TLink) : Option (Int × List TLink) :=
  (iter (M_laws_markLinkSM1L1) N0 (aaZ0, 0, abZ0)).bind fun oZ13 => some (oZ13.1, oZ13.2)
def M_laws_markTributarySM1L1 (sZ1 : Int × Int × List TTributary) : Option ((Int × Int × List TTributary) ⊕ (Int × List TTributary)) :=
  cond (decide (sZ1.2.1 < (sZ1.2.2.length : Int))) ((grd (0 ≤ sZ1.2.1 ∧ sZ1.2.1 < (sZ1.2.2.length : Int))).bind fun kZ3 => (sZ1.2.2[(Int.toNat sZ1.2.1)]?).bind fun yZ4 => bnd (sZ1.2.2.set (Int.toNat sZ1.2.1) (⟨sZ1.1, yZ4.To, yZ4.Rate⟩ : TTributary)) fun lZ5 => (lZ5[(Int.toNat sZ1.2.1)]?).bind fun yZ7 => bnd (lZ5.set (Int.toNat sZ1.2.1) (⟨yZ7.From, IntKind.wrap .i64 (sZ1.1 + 1), yZ7.Rate⟩ : TTributary)) fun lZ8 => (lZ8[(Int.toNat sZ1.2.1)]?).bind fun yZ10 => bnd (lZ8.set (Int.toNat sZ1.2.1) (⟨yZ10.From, yZ10.To, IntKind.wrap .i64 ((IntKind.wrap .i64 (sZ1.1 + 1)) + 1)⟩ : TTributary)) fun lZ11 => some (.inl (IntKind.wrap .i64 ((IntKind.wrap .i64 ((IntKind.wrap .i64 (sZ1.1 + 1)) + 1)) + 1), IntKind.wrap .i64 (sZ1.2.1 + 1), lZ11))) (some (.inr (sZ1.1, sZ1.2.2)))
def M_laws_markTributarySM1 (aaZ0 : Int) (abZ0 : List TTributary) : Option (Int × List TTributary) :=
  (iter (M_laws_markTributarySM1L1) N0 (aaZ0, 0, abZ0)).bind fun oZ13 => some (oZ13.1, oZ13.2)
def M_laws_markIntSM1L1 (sZ1 : Int × Int × List Int) : Option ((Int × Int × List Int) ⊕ (Int × List Int)) :=
  cond (decide (sZ1.2.1 < (sZ1.2.2.length : Int))) ((grd (0 ≤ sZ1.2.1 ∧ sZ1.2.1 < (sZ1.2.2.length : Int))).bind fun kZ3 => (sZ1.2.2[(Int.toNat sZ1.2.1)]?).bind fun yZ4 => bnd (sZ1.2.2.set (Int.toNat sZ1.2.1) sZ1.1) fun lZ5 => some (.inl (IntKind.wrap .i64 (sZ1.1 + 1), IntKind.wrap .i64 (sZ1.2.1 + 1), lZ5))) (some (.inr (sZ1.1, sZ1.2.2)))
def M_laws_markIntSM1 (aaZ0 : Int) (abZ0 : List Int) : Option (Int × List Int) :=
  (iter (M_laws_markIntSM1L1) N0 (aaZ0, 0, abZ0)).bind fun oZ7 => some (oZ7.1, oZ7.2)
def M_laws_markIntSSM1L1 (sZ1 : Int × Int × List (List Int)) : Option ((Int × Int × List (List Int)) ⊕ (Int × List (List Int))) :=
  cond (decide (sZ1.2.1 < (sZ1.2.2.length : Int))) ((grd (0 ≤ sZ1.2.1 ∧ sZ1.2.1 < (sZ1.2.2.length : Int))).bind fun kZ3 => (sZ1.2.2[(Int.toNat sZ1.2.1)]?).bind fun yZ4 => (M_laws_markIntSM1 sZ1.1 yZ4).bind fun rZ5 => bnd (sZ1.2.2.set (Int.toNat sZ1.2.1) rZ5.2) fun lZ6 => some (.inl (rZ5.1, IntKind.wrap .i64 (sZ1.2.1 + 1), lZ6))) (some (.inr (sZ1.1, sZ1.2.2)))
def M_laws_markIntSSM1 (aaZ0 : Int) (abZ0 : List (List Int)) : Option (Int × List (List Int)) :=
  (iter (M_laws_markIntSSM1L1) N0 (aaZ0, 0, abZ0)).bind fun oZ8 => some (oZ8.1, oZ8.2)
def M_laws_heldIntSL1 (aZ0 : List Int) (sZ1 : Int × Int) : Option ((Int × Int) ⊕ (Int ⊕ Int)) :=
  cond (decide (sZ1.2 < (aZ0.length : Int))) ((geti aZ0 sZ1.2).bind fun yZ3 => cond (yZ3 != sZ1.1) (some (.inr (.inr (-1)))) (some (.inl (IntKind.wrap .i64 (sZ1.1 + 1), IntKind.wrap .i64 (sZ1.2 + 1))))) (some (.inr (.inl sZ1.1)))
def M_laws_heldIntS (aZ0 : List Int) (kZ0 : Int) : Option Int :=
  (iter (M_laws_heldIntSL1 aZ0) N0 (kZ0, 0)).bind fun oZ5 => (match oZ5 with | .inl vZ6 => some vZ6 | .inr xZ7 => some xZ7)
def M_laws_heldIntSSL1 (aZ0 : List (List Int)) (sZ1 : Int × Int) : Option ((Int × Int) ⊕ (Int ⊕ Int)) :=
  cond (decide (sZ1.2 < (aZ0.length : Int))) ((geti aZ0 sZ1.2).bind fun yZ3 => (M_laws_heldIntS yZ3 sZ1.1).bind fun rZ4 => cond (decide (rZ4 < 0)) (some (.inr (.inr (-1)))) (some (.inl (rZ4, IntKind.wrap .i64 (sZ1.2 + 1))))) (some (.inr (.inl sZ1.1)))
def M_laws_heldIntSS (aZ0 : List (List Int)) (kZ0 : Int) : Option Int :=
  (iter (M_laws_heldIntSSL1 aZ0) N0 (kZ0, 0)).bind fun oZ6 => (match oZ6 with | .inl vZ7 => some vZ7 | .inr xZ8 => some xZ8)
def M_laws_FnExactGroomAll (aLinksZ0 : List TLink) (aNodesZ0 : Int) (aListZ0 : List TTributary) : Option Bool :=
  (M_laws_szLinkS aLinksZ0 1048576).bind fun rZ1 => cond (decide (rZ1 < 0)) (some true) ((M_laws_szTributaryS aListZ0 rZ1).bind fun rZ3 => cond (decide (rZ3 < 0)) (some true) ((M_laws_toLinkS aLinksZ0).bind fun rZ5 => (M_laws_toTributaryS aListZ0).bind fun rZ6 => (M_spec_GroomAll rZ5 aNodesZ0 rZ6).bind fun rZ7 => (M_laws_toLinkS aLinksZ0).bind fun rZ8 => (M_laws_toTributaryS aListZ0).bind fun rZ9 => (M_impl_GroomAll rZ8 aNodesZ0 rZ9).bind fun rZ10 => ((M_laws_eqIntSS rZ10.1 rZ7.1).bind fun rZ11 => cond (!rZ11) (some true) ((M_laws_eqIntS rZ10.2.1 rZ7.2.1).bind fun rZ13 => cond (!rZ13) (some true) (some (!(rZ10.2.2 == rZ7.2.2)))) : Option Bool).bind fun oZ15 => cond (oZ15) (some false) ((M_laws_toLinkS aLinksZ0).bind fun rZ17 => (M_laws_eqLinkS rZ8 rZ17).bind fun rZ18 => cond (!rZ18) (some false) ((M_laws_toTributaryS aListZ0).bind fun rZ20 => (M_laws_eqTributaryS rZ9 rZ20).bind fun rZ21 => cond (!rZ21) (some false) ((M_laws_markLinkSM1 1 rZ8).bind fun rZ23 => (M_laws_markTributarySM1 rZ23.1 rZ9).bind fun rZ24 => (cond (decide (rZ24.1 < 0)) (some true) ((M_laws_eqIntSS rZ10.1 rZ7.1).bind fun rZ26 => cond (!rZ26) (some true) ((M_laws_eqIntS rZ10.2.1 rZ7.2.1).bind fun rZ28 => cond (!rZ28) (some true) (some (!(rZ10.2.2 == rZ7.2.2))))) : Option Bool).bind fun oZ30 => cond (oZ30) (some false) ((M_laws_markIntSSM1 1 rZ10.1).bind fun rZ32 => (M_laws_markIntSM1 rZ32.1 rZ10.2.1).bind fun rZ33 => bnd (subT rZ32.2 0 rZ10.1.length) fun lZ34 => (M_laws_heldIntSS lZ34 1).bind fun rZ36 => cond (decide (rZ36 < 0)) (some false) (bnd (subT rZ33.2 0 rZ10.2.1.length) fun lZ38 => (M_laws_heldIntS lZ38 rZ36).bind fun rZ40 => cond (decide (rZ40 < 0)) (some false) (cond (rZ40 != rZ33.1) (some false) ((M_laws_toLinkS aLinksZ0).bind fun rZ43 => (M_laws_toTributaryS aListZ0).bind fun rZ44 => (M_impl_GroomAll rZ43 aNodesZ0 rZ44).bind fun rZ45 => ((M_laws_eqIntSS rZ45.1 rZ7.1).bind fun rZ46 => cond (!rZ46) (some true) ((M_laws_eqIntS rZ45.2.1 rZ7.2.1).bind fun rZ48 => cond (!rZ48) (some true) (some (!(rZ45.2.2 == rZ7.2.2)))) : Option Bool).bind fun oZ50 => cond (oZ50) (some false) ((M_laws_heldIntSS lZ34 1).bind fun rZ52 => cond (decide (rZ52 < 0)) (some false) ((M_laws_heldIntS lZ38 rZ52).bind fun rZ54 => cond (decide (rZ54 < 0)) (some false) (cond (rZ54 != rZ33.1) (some false) (some true)))))))))))))
end Vs

namespace Vs
open Go Go.Proofs
theorem hmix : Try.prog.follows .mixedOrders = true := Try.checked.mixed
def A25 : ACode := (.seq (.reg [⟨(some 4), .mv (.c (.i 0)), none⟩] []) (.seq (.reg [⟨(some 5), .mv (.t 1), none⟩,
    ⟨(some 6), .mv (.t 0), none⟩,
    ⟨(some 7), .len (.t 6), none⟩,
    ⟨(some 8), .bin .sub (.t 5) (.t 7), none⟩,
    ⟨(some 1), .mv (.t 8), none⟩] []) (.seq (.seq (.reg [⟨(some 9), .mv (.t 1), none⟩,
    ⟨(some 10), .bin .lss (.t 9) (.c (.i 0)), none⟩] []) (.cond (.t 10) (.seq (.reg [⟨(some 4), .mv (.c (.i (-1))), none⟩] []) .ret) .skip)) (.seq (.reg [⟨(some 11), .mv (.t 1), none⟩,
    ⟨(some 4), .mv (.t 11), none⟩] []) .ret))))
def V25 : List RV := [.t 4]
theorem m25 : mtcF Try.prog 25 2 A25 V25 = true := by kernel_rfl
def A14 : ACode := (.seq (.reg [⟨(some 4), .mv (.c (.i 0)), none⟩] []) (.seq (.reg [⟨(some 5), .mv (.t 1), none⟩,
    ⟨(some 6), .mv (.t 0), none⟩,
    ⟨(some 7), .len (.t 6), none⟩,
    ⟨(some 8), .bin .sub (.t 5) (.t 7), none⟩,
    ⟨(some 1), .mv (.t 8), none⟩] []) (.seq (.seq (.reg [⟨(some 9), .mv (.t 1), none⟩,
    ⟨(some 10), .bin .lss (.t 9) (.c (.i 0)), none⟩] []) (.cond (.t 10) (.seq (.reg [⟨(some 4), .mv (.c (.i (-1))), none⟩] []) .ret) .skip)) (.seq (.reg [⟨(some 11), .mv (.t 1), none⟩,
    ⟨(some 4), .mv (.t 11), none⟩] []) .ret))))
def V14 : List RV := [.t 4]
theorem m14 : mtcF Try.prog 14 2 A14 V14 = true := by kernel_rfl
def A69 : ACode := (.seq (.reg [⟨(some 1), .box 3 (.t 0), none⟩,
    ⟨(some 2), .alloc (.agg [.i 0, .i 0, .i 0]), none⟩] []) (.seq (.reg [⟨(some 3), .alloc (.agg [.i 0, .i 0, .i 0]), none⟩] []) (.seq (.reg [⟨(some 4), .fad 0 (.t 1), none⟩,
    ⟨(some 5), .load 1 false (.t 4), none⟩,
    ⟨(some 6), .fad 0 (.t 3), none⟩,
    ⟨none, .store 1 (.t 6) (.t 5), none⟩] []) (.seq (.reg [⟨(some 7), .fad 1 (.t 1), none⟩,
    ⟨(some 8), .load 1 false (.t 7), none⟩,
    ⟨(some 9), .fad 1 (.t 3), none⟩,
    ⟨none, .store 1 (.t 9) (.t 8), none⟩] []) (.seq (.reg [⟨(some 10), .fad 2 (.t 1), none⟩,
    ⟨(some 11), .load 1 false (.t 10), none⟩,
    ⟨(some 12), .fad 2 (.t 3), none⟩,
    ⟨none, .store 1 (.t 12) (.t 11), none⟩] []) (.seq (.reg [⟨(some 13), .load 3 true (.t 3), none⟩,
    ⟨none, .store 3 (.t 2) (.t 13), none⟩] []) .ret))))))
def V69 : List RV := [.c 2 3 true]
theorem m69 : mtcF Try.prog 69 1 A69 V69 = true := by kernel_rfl
def A27L1 : ACode := (.seq (.seq (.reg [⟨(some 8), .mv (.t 4), none⟩,
    ⟨(some 9), .mv (.t 0), none⟩,
    ⟨(some 10), .len (.t 9), none⟩,
    ⟨(some 11), .bin .lss (.t 8) (.t 10), none⟩] []) (.cond (.t 11) .skip (.exit 0))) (.seq (.blk 1 (.reg [⟨(some 14), .mv (.t 3), none⟩,
    ⟨(some 15), .mv (.t 4), none⟩,
    ⟨(some 16), .mv (.t 0), none⟩,
    ⟨(some 17), .mv (.t 4), none⟩,
    ⟨(some 18), .idx 3 (.t 16) (.t 17), none⟩,
    ⟨(some 19), .load 3 true (.t 18), none⟩,
    ⟨(some 20), .call 69 [(.t 19)], none⟩,
    ⟨(some 21), .idx 3 (.t 14) (.t 15), none⟩,
    ⟨none, .store 3 (.t 21) (.t 20), none⟩] [])) (.reg [⟨(some 12), .mv (.t 4), none⟩,
    ⟨(some 13), .bin .add (.t 12) (.c (.i 1)), none⟩,
    ⟨(some 4), .mv (.t 13), none⟩] [])))
def A27R2 : ACode := (.seq (.reg [⟨(some 22), .mv (.t 3), none⟩,
    ⟨(some 2), .mv (.t 22), none⟩] [2]) .ret)
def A27 : ACode := (.seq (.reg [⟨(some 2), .mv (.c (.lst .u 3 [])), none⟩] [2]) (.seq (.reg [⟨(some 5), .mv (.t 0), none⟩,
    ⟨(some 6), .len (.t 5), none⟩,
    ⟨(some 7), .mks 3 (.agg [.i 0, .i 0, .i 0]) 24 (.t 6) (.t 6), none⟩,
    ⟨(some 3), .mv (.t 7), none⟩] [3]) (.seqa (.reg [⟨(some 4), .mv (.c (.i 0)), none⟩] []) (.blk 0 (.loop A27L1)) [3] [3] A27R2)))
def V27 : List RV := [.t 2]
theorem m27 : mtcF Try.prog 27 1 A27 V27 = true := by kernel_rfl
def A28 : ACode := (.seq (.reg [⟨(some 1), .box 3 (.t 0), none⟩,
    ⟨(some 2), .alloc (.agg [.i 0, .i 0, .i 0]), none⟩] []) (.seq (.reg [⟨(some 3), .alloc (.agg [.i 0, .i 0, .i 0]), none⟩] []) (.seq (.reg [⟨(some 4), .fad 0 (.t 1), none⟩,
    ⟨(some 5), .load 1 false (.t 4), none⟩,
    ⟨(some 6), .fad 0 (.t 3), none⟩,
    ⟨none, .store 1 (.t 6) (.t 5), none⟩] []) (.seq (.reg [⟨(some 7), .fad 1 (.t 1), none⟩,
    ⟨(some 8), .load 1 false (.t 7), none⟩,
    ⟨(some 9), .fad 1 (.t 3), none⟩,
    ⟨none, .store 1 (.t 9) (.t 8), none⟩] []) (.seq (.reg [⟨(some 10), .fad 2 (.t 1), none⟩,
    ⟨(some 11), .load 1 false (.t 10), none⟩,
    ⟨(some 12), .fad 2 (.t 3), none⟩,
    ⟨none, .store 1 (.t 12) (.t 11), none⟩] []) (.seq (.reg [⟨(some 13), .load 3 true (.t 3), none⟩,
    ⟨none, .store 3 (.t 2) (.t 13), none⟩] []) .ret))))))
def V28 : List RV := [.c 2 3 true]
theorem m28 : mtcF Try.prog 28 1 A28 V28 = true := by kernel_rfl
def A16L1 : ACode := (.seq (.seq (.reg [⟨(some 8), .mv (.t 4), none⟩,
    ⟨(some 9), .mv (.t 0), none⟩,
    ⟨(some 10), .len (.t 9), none⟩,
    ⟨(some 11), .bin .lss (.t 8) (.t 10), none⟩] []) (.cond (.t 11) .skip (.exit 0))) (.seq (.blk 1 (.reg [⟨(some 14), .mv (.t 3), none⟩,
    ⟨(some 15), .mv (.t 4), none⟩,
    ⟨(some 16), .mv (.t 0), none⟩,
    ⟨(some 17), .mv (.t 4), none⟩,
    ⟨(some 18), .idx 3 (.t 16) (.t 17), none⟩,
    ⟨(some 19), .load 3 true (.t 18), none⟩,
    ⟨(some 20), .call 28 [(.t 19)], none⟩,
    ⟨(some 21), .idx 3 (.t 14) (.t 15), none⟩,
    ⟨none, .store 3 (.t 21) (.t 20), none⟩] [])) (.reg [⟨(some 12), .mv (.t 4), none⟩,
    ⟨(some 13), .bin .add (.t 12) (.c (.i 1)), none⟩,
    ⟨(some 4), .mv (.t 13), none⟩] [])))
def A16R2 : ACode := (.seq (.reg [⟨(some 22), .mv (.t 3), none⟩,
    ⟨(some 2), .mv (.t 22), none⟩] [2]) .ret)
def A16 : ACode := (.seq (.reg [⟨(some 2), .mv (.c (.lst .u 3 [])), none⟩] [2]) (.seq (.reg [⟨(some 5), .mv (.t 0), none⟩,
    ⟨(some 6), .len (.t 5), none⟩,
    ⟨(some 7), .mks 3 (.agg [.i 0, .i 0, .i 0]) 24 (.t 6) (.t 6), none⟩,
    ⟨(some 3), .mv (.t 7), none⟩] [3]) (.seqa (.reg [⟨(some 4), .mv (.c (.i 0)), none⟩] []) (.blk 0 (.loop A16L1)) [3] [3] A16R2)))
def V16 : List RV := [.t 2]
theorem m16 : mtcF Try.prog 16 1 A16 V16 = true := by kernel_rfl
def A67 : ACode := (.seq (.reg [⟨(some 6), .mv (.c (.b false)), none⟩] []) (.seq (.reg [⟨(some 7), .mv (.t 0), none⟩,
    ⟨(some 8), .mv (.t 1), none⟩,
    ⟨(some 9), .bin .geq (.t 7) (.t 8), none⟩,
    ⟨(some 10), .mv (.t 9), none⟩,
    ⟨(some 11), .mv (.t 0), (some (10, true))⟩,
    ⟨(some 12), .mv (.t 2), (some (10, true))⟩,
    ⟨(some 13), .bin .leq (.t 11) (.t 12), (some (10, true))⟩,
    ⟨(some 14), .pick (.t 10) (.t 13) (.c (.b false)), none⟩,
    ⟨(some 6), .mv (.t 14), none⟩] []) .ret))
def V67 : List RV := [.t 6]
theorem m67 : mtcF Try.prog 67 3 A67 V67 = true := by kernel_rfl
def A95 : ACode := (.seq (.reg [⟨(some 6), .mv (.c (.b false)), none⟩] []) (.seq (.reg [⟨(some 7), .mv (.t 0), none⟩,
    ⟨(some 8), .mv (.t 2), none⟩,
    ⟨(some 9), .bin .sub (.t 8) (.c (.i 1)), none⟩,
    ⟨(some 10), .call 67 [(.t 7), (.c (.i 0)), (.t 9)], none⟩,
    ⟨(some 11), .mv (.t 10), none⟩,
    ⟨(some 12), .mv (.t 1), (some (11, true))⟩,
    ⟨(some 13), .mv (.t 2), (some (11, true))⟩,
    ⟨(some 14), .bin .sub (.t 13) (.c (.i 1)), (some (11, true))⟩,
    ⟨(some 15), .call 67 [(.t 12), (.c (.i 0)), (.t 14)], (some (11, true))⟩,
    ⟨(some 16), .pick (.t 11) (.t 15) (.c (.b false)), none⟩,
    ⟨(some 17), .mv (.t 16), none⟩,
    ⟨(some 18), .mv (.t 0), (some (17, true))⟩,
    ⟨(some 19), .mv (.t 1), (some (17, true))⟩,
    ⟨(some 20), .bin .neq (.t 18) (.t 19), (some (17, true))⟩,
    ⟨(some 21), .pick (.t 17) (.t 20) (.c (.b false)), none⟩,
    ⟨(some 6), .mv (.t 21), none⟩] []) .ret))
def V95 : List RV := [.t 6]
theorem m95 : mtcF Try.prog 95 3 A95 V95 = true := by kernel_rfl
def A66R1 : ACode := (.cond (.t 13) .skip (.exit 0))
def A66R2 : ACode := (.cond (.t 37) (.seq (.reg [⟨(some 4), .mv (.c (.b false)), none⟩] []) .ret) .skip)
def A66L3 : ACode := (.seq (.seqr (.reg [⟨(some 6), .mv (.t 5), none⟩,
    ⟨(some 7), .mv (.t 0), none⟩,
    ⟨(some 8), .len (.t 7), none⟩,
    ⟨(some 9), .bin .lss (.t 6) (.t 8), none⟩,
    ⟨(some 10), .mv (.t 9), none⟩,
    ⟨(some 11), .mv (.t 5), (some (10, true))⟩,
    ⟨(some 12), .bin .leq (.t 11) (.c (.i 12)), (some (10, true))⟩,
    ⟨(some 13), .pick (.t 10) (.t 12) (.c (.b false)), none⟩] []) [0, 1, 5, 13] [] A66R1) (.seq (.blk 1 (.seqr (.drw [⟨(some 16), .mv (.t 0), none⟩,
    ⟨(some 17), .mv (.t 5), none⟩,
    ⟨(some 18), .idx 3 (.t 16) (.t 17), none⟩,
    ⟨(some 19), .fad 0 (.t 18), none⟩,
    ⟨(some 20), .load 1 false (.t 19), none⟩,
    ⟨(some 21), .mv (.t 0), none⟩,
    ⟨(some 22), .mv (.t 5), none⟩,
    ⟨(some 23), .idx 3 (.t 21) (.t 22), none⟩,
    ⟨(some 24), .fad 1 (.t 23), none⟩,
    ⟨(some 25), .load 1 false (.t 24), none⟩,
    ⟨(some 26), .mv (.t 1), none⟩,
    ⟨(some 27), .call 95 [(.t 20), (.t 25), (.t 26)], none⟩,
    ⟨(some 28), .un .not (.t 27), none⟩,
    ⟨(some 29), .mv (.t 28), none⟩,
    ⟨(some 30), .mv (.t 0), (some (29, false))⟩,
    ⟨(some 31), .mv (.t 5), (some (29, false))⟩,
    ⟨(some 32), .idx 3 (.t 30) (.t 31), (some (29, false))⟩,
    ⟨(some 33), .fad 2 (.t 32), (some (29, false))⟩,
    ⟨(some 34), .load 1 false (.t 33), (some (29, false))⟩,
    ⟨(some 35), .call 67 [(.t 34), (.c (.i 0)), (.c (.i 10000))], (some (29, false))⟩,
    ⟨(some 36), .un .not (.t 35), (some (29, false))⟩,
    ⟨(some 37), .pick (.t 29) (.c (.b true)) (.t 36), none⟩] []) [0, 1, 5, 37] [] A66R2)) (.reg [⟨(some 14), .mv (.t 5), none⟩,
    ⟨(some 15), .bin .add (.t 14) (.c (.i 1)), none⟩,
    ⟨(some 5), .mv (.t 15), none⟩] [])))
def A66R4 : ACode := (.seq (.reg [⟨(some 38), .mv (.t 1), none⟩,
    ⟨(some 39), .call 67 [(.t 38), (.c (.i 2)), (.c (.i 8))], none⟩,
    ⟨(some 40), .mv (.t 39), none⟩,
    ⟨(some 41), .mv (.t 0), (some (40, true))⟩,
    ⟨(some 42), .len (.t 41), (some (40, true))⟩,
    ⟨(some 43), .bin .leq (.t 42) (.c (.i 12)), (some (40, true))⟩,
    ⟨(some 44), .pick (.t 40) (.t 43) (.c (.b false)), none⟩,
    ⟨(some 4), .mv (.t 44), none⟩] []) .ret)
def A66 : ACode := (.seq (.reg [⟨(some 4), .mv (.c (.b false)), none⟩] []) (.seqa (.reg [⟨(some 5), .mv (.c (.i 0)), none⟩] []) (.blk 0 (.loop A66L3)) [0, 1] [] A66R4))
def V66 : List RV := [.t 4]
theorem m66 : mtcF Try.prog 66 2 A66 V66 = true := by kernel_rfl
def A54R1 : ACode := (.cond (.t 13) .skip (.exit 0))
def A54R2 : ACode := (.cond (.t 37) (.seq (.reg [⟨(some 4), .mv (.c (.b false)), none⟩] []) .ret) .skip)
def A54L3 : ACode := (.seq (.seqr (.reg [⟨(some 6), .mv (.t 5), none⟩,
    ⟨(some 7), .mv (.t 0), none⟩,
    ⟨(some 8), .len (.t 7), none⟩,
    ⟨(some 9), .bin .lss (.t 6) (.t 8), none⟩,
    ⟨(some 10), .mv (.t 9), none⟩,
    ⟨(some 11), .mv (.t 5), (some (10, true))⟩,
    ⟨(some 12), .bin .leq (.t 11) (.c (.i 12)), (some (10, true))⟩,
    ⟨(some 13), .pick (.t 10) (.t 12) (.c (.b false)), none⟩] []) [0, 1, 5, 13] [] A54R1) (.seq (.blk 1 (.seqr (.drw [⟨(some 16), .mv (.t 0), none⟩,
    ⟨(some 17), .mv (.t 5), none⟩,
    ⟨(some 18), .idx 3 (.t 16) (.t 17), none⟩,
    ⟨(some 19), .fad 0 (.t 18), none⟩,
    ⟨(some 20), .load 1 false (.t 19), none⟩,
    ⟨(some 21), .mv (.t 0), none⟩,
    ⟨(some 22), .mv (.t 5), none⟩,
    ⟨(some 23), .idx 3 (.t 21) (.t 22), none⟩,
    ⟨(some 24), .fad 1 (.t 23), none⟩,
    ⟨(some 25), .load 1 false (.t 24), none⟩,
    ⟨(some 26), .mv (.t 1), none⟩,
    ⟨(some 27), .call 95 [(.t 20), (.t 25), (.t 26)], none⟩,
    ⟨(some 28), .un .not (.t 27), none⟩,
    ⟨(some 29), .mv (.t 28), none⟩,
    ⟨(some 30), .mv (.t 0), (some (29, false))⟩,
    ⟨(some 31), .mv (.t 5), (some (29, false))⟩,
    ⟨(some 32), .idx 3 (.t 30) (.t 31), (some (29, false))⟩,
    ⟨(some 33), .fad 2 (.t 32), (some (29, false))⟩,
    ⟨(some 34), .load 1 false (.t 33), (some (29, false))⟩,
    ⟨(some 35), .call 67 [(.t 34), (.c (.i 1)), (.c (.i 1000))], (some (29, false))⟩,
    ⟨(some 36), .un .not (.t 35), (some (29, false))⟩,
    ⟨(some 37), .pick (.t 29) (.c (.b true)) (.t 36), none⟩] []) [0, 1, 5, 37] [] A54R2)) (.reg [⟨(some 14), .mv (.t 5), none⟩,
    ⟨(some 15), .bin .add (.t 14) (.c (.i 1)), none⟩,
    ⟨(some 5), .mv (.t 15), none⟩] [])))
def A54R4 : ACode := (.seq (.reg [⟨(some 38), .mv (.t 1), none⟩,
    ⟨(some 39), .call 67 [(.t 38), (.c (.i 2)), (.c (.i 8))], none⟩,
    ⟨(some 40), .mv (.t 39), none⟩,
    ⟨(some 41), .mv (.t 0), (some (40, true))⟩,
    ⟨(some 42), .len (.t 41), (some (40, true))⟩,
    ⟨(some 43), .bin .leq (.t 42) (.c (.i 12)), (some (40, true))⟩,
    ⟨(some 44), .pick (.t 40) (.t 43) (.c (.b false)), none⟩,
    ⟨(some 4), .mv (.t 44), none⟩] []) .ret)
def A54 : ACode := (.seq (.reg [⟨(some 4), .mv (.c (.b false)), none⟩] []) (.seqa (.reg [⟨(some 5), .mv (.c (.i 0)), none⟩] []) (.blk 0 (.loop A54L3)) [0, 1] [] A54R4))
def V54 : List RV := [.t 4]
theorem m54 : mtcF Try.prog 54 2 A54 V54 = true := by kernel_rfl
def A79L1 : ACode := (.seq (.seq (.reg [⟨(some 6), .mv (.t 5), none⟩,
    ⟨(some 7), .mv (.t 0), none⟩,
    ⟨(some 8), .len (.t 7), none⟩,
    ⟨(some 9), .bin .lss (.t 6) (.t 8), none⟩] []) (.cond (.t 9) .skip (.exit 0))) (.seq (.blk 1 (.seq (.reg [⟨(some 12), .mv (.t 0), none⟩,
    ⟨(some 13), .mv (.t 5), none⟩,
    ⟨(some 14), .idx 1 (.t 12) (.t 13), none⟩,
    ⟨(some 15), .load 1 false (.t 14), none⟩,
    ⟨(some 16), .mv (.t 1), none⟩,
    ⟨(some 17), .bin .eql (.t 15) (.t 16), none⟩] []) (.cond (.t 17) (.seq (.reg [⟨(some 4), .mv (.c (.b true)), none⟩] []) .ret) .skip))) (.reg [⟨(some 10), .mv (.t 5), none⟩,
    ⟨(some 11), .bin .add (.t 10) (.c (.i 1)), none⟩,
    ⟨(some 5), .mv (.t 11), none⟩] [])))
def A79R2 : ACode := (.seq (.reg [⟨(some 4), .mv (.c (.b false)), none⟩] []) .ret)
def A79 : ACode := (.seq (.reg [⟨(some 4), .mv (.c (.b false)), none⟩] []) (.seqa (.reg [⟨(some 5), .mv (.c (.i 0)), none⟩] []) (.blk 0 (.loop A79L1)) [] [] A79R2))
def V79 : List RV := [.t 4]
theorem m79 : mtcF Try.prog 79 2 A79 V79 = true := by kernel_rfl
def A112 : ACode := (.seq (.reg [⟨(some 2), .mv (.c (.lst .u 1 [])), none⟩] [2]) (.seq (.reg [⟨(some 3), .bsl 1 false [], none⟩,
    ⟨(some 4), .mv (.t 0), none⟩,
    ⟨(some 5), .app 1 8 false (.t 3) (.t 4), none⟩,
    ⟨(some 2), .mv (.t 5), none⟩] [2]) .ret))
def V112 : List RV := [.t 2]
theorem m112 : mtcF Try.prog 112 1 A112 V112 = true := by kernel_rfl
def A100R1 : ACode := (.cond (.t 25) .skip (.exit 0))
def A100R4 : ACode := (.cond (.t 66) (.exit 1) .skip)
def A100R3 : ACode := (.seq (.seqr (.reg [⟨(some 52), .mv (.t 16), none⟩,
    ⟨(some 53), .bin .lss (.t 52) (.c (.i 0)), none⟩,
    ⟨(some 54), .mv (.t 53), none⟩,
    ⟨(some 55), .mv (.t 1), (some (54, false))⟩,
    ⟨(some 56), .mv (.t 15), (some (54, false))⟩,
    ⟨(some 57), .idx 1 (.t 55) (.t 56), (some (54, false))⟩,
    ⟨(some 58), .load 1 false (.t 57), (some (54, false))⟩,
    ⟨(some 59), .mv (.t 4), (some (54, false))⟩,
    ⟨(some 60), .bin .lss (.t 58) (.t 59), (some (54, false))⟩,
    ⟨(some 61), .pick (.t 54) (.c (.b true)) (.t 60), none⟩,
    ⟨(some 62), .mv (.t 61), none⟩,
    ⟨(some 63), .mv (.t 6), (some (62, false))⟩,
    ⟨(some 64), .mv (.t 16), (some (62, false))⟩,
    ⟨(some 65), .call 79 [(.t 63), (.t 64)], (some (62, false))⟩,
    ⟨(some 66), .pick (.t 62) (.c (.b true)) (.t 65), none⟩] []) [0, 1, 2, 3, 4, 5, 6, 15, 16, 66] [] A100R4) (.seq (.seq (.reg [⟨(some 67), .mv (.t 16), none⟩,
    ⟨(some 68), .mv (.t 3), none⟩,
    ⟨(some 69), .bin .eql (.t 67) (.t 68), none⟩] []) (.cond (.t 69) (.seq (.seq (.reg [⟨(some 70), .mv (.t 5), none⟩,
    ⟨(some 71), .bin .eql (.t 70) (.c (.i 1)), none⟩] []) (.cond (.t 71) (.seq (.reg [⟨(some 72), .mv (.t 15), none⟩,
    ⟨(some 73), .bsl 1 false [(.t 72)], none⟩,
    ⟨(some 14), .mv (.t 73), none⟩] [14]) .ret) .skip)) (.exit 1)) .skip)) (.seq (.reg [⟨(some 74), .mv (.t 0), none⟩,
    ⟨(some 75), .mv (.t 1), none⟩,
    ⟨(some 76), .mv (.t 16), none⟩,
    ⟨(some 77), .mv (.t 3), none⟩,
    ⟨(some 78), .mv (.t 4), none⟩,
    ⟨(some 79), .mv (.t 5), none⟩,
    ⟨(some 80), .bin .sub (.t 79) (.c (.i 1)), none⟩,
    ⟨(some 81), .mv (.t 6), none⟩,
    ⟨(some 82), .call 112 [(.t 81)], none⟩,
    ⟨(some 83), .mv (.t 16), none⟩,
    ⟨(some 84), .bsl 1 false [(.t 83)], none⟩,
    ⟨(some 85), .app 1 8 true (.t 82) (.t 84), none⟩,
    ⟨(some 86), .call 100 [(.t 74), (.t 75), (.t 76), (.t 77), (.t 78), (.t 80), (.t 85)], none⟩,
    ⟨(some 17), .mv (.t 86), none⟩] [17]) (.seq (.reg [⟨(some 87), .mv (.t 17), none⟩,
    ⟨(some 88), .len (.t 87), none⟩,
    ⟨(some 89), .bin .gtr (.t 88) (.c (.i 0)), none⟩] []) (.cond (.t 89) (.seq (.reg [⟨(some 90), .mv (.t 15), none⟩,
    ⟨(some 91), .bsl 1 false [(.t 90)], none⟩,
    ⟨(some 92), .mv (.t 17), none⟩,
    ⟨(some 93), .app 1 8 false (.t 91) (.t 92), none⟩,
    ⟨(some 14), .mv (.t 93), none⟩] [14]) .ret) .skip)))))
def A100R2 : ACode := (.seqr (.seq (.reg [⟨(some 40), .mv (.t 0), none⟩,
    ⟨(some 41), .mv (.t 15), none⟩,
    ⟨(some 42), .idx 3 (.t 40) (.t 41), none⟩,
    ⟨(some 43), .fad 1 (.t 42), none⟩,
    ⟨(some 44), .load 1 false (.t 43), none⟩,
    ⟨(some 45), .mv (.t 2), none⟩,
    ⟨(some 46), .bin .eql (.t 44) (.t 45), none⟩] []) (.cond (.t 46) (.reg [⟨(some 47), .mv (.t 0), none⟩,
    ⟨(some 48), .mv (.t 15), none⟩,
    ⟨(some 49), .idx 3 (.t 47) (.t 48), none⟩,
    ⟨(some 50), .fad 0 (.t 49), none⟩,
    ⟨(some 51), .load 1 false (.t 50), none⟩,
    ⟨(some 16), .mv (.t 51), none⟩] []) .skip)) [0, 1, 2, 3, 4, 5, 6, 15, 16] [] A100R3)
def A100L5 : ACode := (.seq (.seqr (.reg [⟨(some 18), .mv (.t 15), none⟩,
    ⟨(some 19), .mv (.t 0), none⟩,
    ⟨(some 20), .len (.t 19), none⟩,
    ⟨(some 21), .bin .lss (.t 18) (.t 20), none⟩,
    ⟨(some 22), .mv (.t 21), none⟩,
    ⟨(some 23), .mv (.t 5), (some (22, true))⟩,
    ⟨(some 24), .bin .gtr (.t 23) (.c (.i 0)), (some (22, true))⟩,
    ⟨(some 25), .pick (.t 22) (.t 24) (.c (.b false)), none⟩] []) [0, 1, 2, 3, 4, 5, 6, 15, 25] [] A100R1) (.seq (.blk 1 (.seq (.reg [⟨(some 16), .mv (.c (.i (-1))), none⟩] []) (.seqr (.seq (.reg [⟨(some 28), .mv (.t 0), none⟩,
    ⟨(some 29), .mv (.t 15), none⟩,
    ⟨(some 30), .idx 3 (.t 28) (.t 29), none⟩,
    ⟨(some 31), .fad 0 (.t 30), none⟩,
    ⟨(some 32), .load 1 false (.t 31), none⟩,
    ⟨(some 33), .mv (.t 2), none⟩,
    ⟨(some 34), .bin .eql (.t 32) (.t 33), none⟩] []) (.cond (.t 34) (.reg [⟨(some 35), .mv (.t 0), none⟩,
    ⟨(some 36), .mv (.t 15), none⟩,
    ⟨(some 37), .idx 3 (.t 35) (.t 36), none⟩,
    ⟨(some 38), .fad 1 (.t 37), none⟩,
    ⟨(some 39), .load 1 false (.t 38), none⟩,
    ⟨(some 16), .mv (.t 39), none⟩] []) .skip)) [0, 1, 2, 3, 4, 5, 6, 15, 16] [] A100R2))) (.reg [⟨(some 26), .mv (.t 15), none⟩,
    ⟨(some 27), .bin .add (.t 26) (.c (.i 1)), none⟩,
    ⟨(some 15), .mv (.t 27), none⟩] [])))
def A100R6 : ACode := (.seq (.reg [⟨(some 94), .bsl 1 false [], none⟩,
    ⟨(some 14), .mv (.t 94), none⟩] [14]) .ret)
def A100 : ACode := (.seq (.reg [⟨(some 14), .mv (.c (.lst .u 1 [])), none⟩] [14]) (.seqa (.reg [⟨(some 15), .mv (.c (.i 0)), none⟩] []) (.blk 0 (.loop A100L5)) [] [] A100R6))
def V100 : List RV := [.t 14]
theorem m100 : mtcF Try.prog 100 7 A100 V100 = true := by kernel_rfl
def A68L1 : ACode := (.seq (.seq (.reg [⟨(some 9), .mv (.t 7), none⟩,
    ⟨(some 10), .bin .lss (.t 9) (.c (.i 8)), none⟩] []) (.cond (.t 10) .skip (.exit 0))) (.seq (.blk 1 (.seq (.reg [⟨(some 13), .mv (.t 0), none⟩,
    ⟨(some 14), .mv (.t 1), none⟩,
    ⟨(some 15), .fad 0 (.t 5), none⟩,
    ⟨(some 16), .load 1 false (.t 15), none⟩,
    ⟨(some 17), .fad 1 (.t 5), none⟩,
    ⟨(some 18), .load 1 false (.t 17), none⟩,
    ⟨(some 19), .fad 2 (.t 5), none⟩,
    ⟨(some 20), .load 1 false (.t 19), none⟩,
    ⟨(some 21), .mv (.t 7), none⟩,
    ⟨(some 22), .fad 0 (.t 5), none⟩,
    ⟨(some 23), .load 1 false (.t 22), none⟩,
    ⟨(some 24), .bsl 1 false [(.t 23)], none⟩,
    ⟨(some 25), .call 100 [(.t 13), (.t 14), (.t 16), (.t 18), (.t 20), (.t 21), (.t 24)], none⟩,
    ⟨(some 8), .mv (.t 25), none⟩] [8]) (.seq (.reg [⟨(some 26), .mv (.t 8), none⟩,
    ⟨(some 27), .len (.t 26), none⟩,
    ⟨(some 28), .bin .gtr (.t 27) (.c (.i 0)), none⟩] []) (.cond (.t 28) (.seq (.reg [⟨(some 29), .mv (.t 8), none⟩,
    ⟨(some 6), .mv (.t 29), none⟩] [6]) .ret) .skip)))) (.reg [⟨(some 11), .mv (.t 7), none⟩,
    ⟨(some 12), .bin .add (.t 11) (.c (.i 1)), none⟩,
    ⟨(some 7), .mv (.t 12), none⟩] [])))
def A68R2 : ACode := (.seq (.reg [⟨(some 30), .bsl 1 false [], none⟩,
    ⟨(some 6), .mv (.t 30), none⟩] [6]) .ret)
def A68 : ACode := (.seq (.reg [⟨(some 5), .box 3 (.t 2), none⟩,
    ⟨(some 6), .mv (.c (.lst .u 1 [])), none⟩] [6]) (.seqa (.reg [⟨(some 7), .mv (.c (.i 1)), none⟩] []) (.blk 0 (.loop A68L1)) [] [] A68R2))
def V68 : List RV := [.t 6]
theorem m68 : mtcF Try.prog 68 3 A68 V68 = true := by kernel_rfl
def A46R1 : ACode := (.cond (.t 26) (.seq (.reg [⟨(some 27), .mv (.t 9), none⟩,
    ⟨(some 28), .mv (.t 10), none⟩,
    ⟨(some 6), .mv (.t 27), none⟩,
    ⟨(some 7), .mv (.t 28), none⟩,
    ⟨(some 8), .mv (.c (.b false)), none⟩] [6, 7]) .ret) .skip)
def A46L2 : ACode := (.seq (.seq (.reg [⟨(some 29), .mv (.t 11), none⟩,
    ⟨(some 30), .mv (.t 0), none⟩,
    ⟨(some 31), .len (.t 30), none⟩,
    ⟨(some 32), .bin .lss (.t 29) (.t 31), none⟩] []) (.cond (.t 32) .skip (.exit 0))) (.seq (.blk 1 (.reg [⟨(some 35), .mv (.t 10), none⟩,
    ⟨(some 36), .mv (.t 0), none⟩,
    ⟨(some 37), .mv (.t 11), none⟩,
    ⟨(some 38), .idx 3 (.t 36) (.t 37), none⟩,
    ⟨(some 39), .fad 2 (.t 38), none⟩,
    ⟨(some 40), .load 1 false (.t 39), none⟩,
    ⟨(some 41), .bsl 1 false [(.t 40)], none⟩,
    ⟨(some 42), .app 1 8 true (.t 35) (.t 41), none⟩,
    ⟨(some 10), .mv (.t 42), none⟩] [10])) (.reg [⟨(some 33), .mv (.t 11), none⟩,
    ⟨(some 34), .bin .add (.t 33) (.c (.i 1)), none⟩,
    ⟨(some 11), .mv (.t 34), none⟩] [])))
def A46L4 : ACode := (.seq (.seq (.reg [⟨(some 56), .mv (.t 14), none⟩,
    ⟨(some 57), .mv (.t 13), none⟩,
    ⟨(some 58), .len (.t 57), none⟩,
    ⟨(some 59), .bin .lss (.t 56) (.t 58), none⟩] []) (.cond (.t 59) .skip (.exit 4))) (.seq (.blk 5 (.drw [⟨(some 62), .mv (.t 10), none⟩,
    ⟨(some 63), .mv (.t 13), none⟩,
    ⟨(some 64), .mv (.t 14), none⟩,
    ⟨(some 65), .idx 1 (.t 63) (.t 64), none⟩,
    ⟨(some 66), .load 1 false (.t 65), none⟩,
    ⟨(some 67), .mv (.t 10), none⟩,
    ⟨(some 68), .mv (.t 13), none⟩,
    ⟨(some 69), .mv (.t 14), none⟩,
    ⟨(some 70), .idx 1 (.t 68) (.t 69), none⟩,
    ⟨(some 71), .load 1 false (.t 70), none⟩,
    ⟨(some 72), .idx 1 (.t 67) (.t 71), none⟩,
    ⟨(some 73), .load 1 false (.t 72), none⟩,
    ⟨(some 74), .mv (.t 2), none⟩,
    ⟨(some 75), .mv (.t 12), none⟩,
    ⟨(some 76), .idx 3 (.t 74) (.t 75), none⟩,
    ⟨(some 77), .fad 2 (.t 76), none⟩,
    ⟨(some 78), .load 1 false (.t 77), none⟩,
    ⟨(some 79), .bin .sub (.t 73) (.t 78), none⟩,
    ⟨(some 80), .idx 1 (.t 62) (.t 66), none⟩,
    ⟨none, .store 1 (.t 80) (.t 79), none⟩] [])) (.reg [⟨(some 60), .mv (.t 14), none⟩,
    ⟨(some 61), .bin .add (.t 60) (.c (.i 1)), none⟩,
    ⟨(some 14), .mv (.t 61), none⟩] [])))
def A46R5 : ACode := (.reg [⟨(some 81), .mv (.t 9), none⟩,
    ⟨(some 82), .mv (.t 13), none⟩,
    ⟨(some 83), .bsl 1 false [(.t 82)], none⟩,
    ⟨(some 84), .app 1 24 true (.t 81) (.t 83), none⟩,
    ⟨(some 9), .mv (.t 84), none⟩] [9])
def A46L6 : ACode := (.seq (.seq (.reg [⟨(some 43), .mv (.t 12), none⟩,
    ⟨(some 44), .mv (.t 2), none⟩,
    ⟨(some 45), .len (.t 44), none⟩,
    ⟨(some 46), .bin .lss (.t 43) (.t 45), none⟩] []) (.cond (.t 46) .skip (.exit 2))) (.seq (.blk 3 (.seq (.reg [⟨(some 49), .mv (.t 0), none⟩,
    ⟨(some 50), .mv (.t 10), none⟩,
    ⟨(some 51), .mv (.t 2), none⟩,
    ⟨(some 52), .mv (.t 12), none⟩,
    ⟨(some 53), .idx 3 (.t 51) (.t 52), none⟩,
    ⟨(some 54), .load 3 true (.t 53), none⟩,
    ⟨(some 55), .call 68 [(.t 49), (.t 50), (.t 54)], none⟩,
    ⟨(some 13), .mv (.t 55), none⟩] [13]) (.seqa (.reg [⟨(some 14), .mv (.c (.i 0)), none⟩] []) (.blk 4 (.loop A46L4)) [0, 2, 9, 10, 12, 13] [9, 10, 13] A46R5))) (.reg [⟨(some 47), .mv (.t 12), none⟩,
    ⟨(some 48), .bin .add (.t 47) (.c (.i 1)), none⟩,
    ⟨(some 12), .mv (.t 48), none⟩] [])))
def A46R7 : ACode := (.seq (.reg [⟨(some 85), .mv (.t 9), none⟩,
    ⟨(some 86), .mv (.t 10), none⟩,
    ⟨(some 6), .mv (.t 85), none⟩,
    ⟨(some 7), .mv (.t 86), none⟩,
    ⟨(some 8), .mv (.c (.b true)), none⟩] [6, 7]) .ret)
def A46R3 : ACode := (.seqa (.reg [⟨(some 12), .mv (.c (.i 0)), none⟩] []) (.blk 2 (.loop A46L6)) [9, 10] [9, 10] A46R7)
def A46 : ACode := (.seq (.reg [⟨(some 6), .mv (.c (.lst .u 1 [])), none⟩,
    ⟨(some 7), .mv (.c (.lst .u 1 [])), none⟩,
    ⟨(some 8), .mv (.c (.b false)), none⟩] [6, 7]) (.seq (.reg [⟨(some 15), .bsl 1 false [], none⟩,
    ⟨(some 9), .mv (.t 15), none⟩] [9]) (.seq (.reg [⟨(some 16), .bsl 1 false [], none⟩,
    ⟨(some 10), .mv (.t 16), none⟩] [10]) (.seq (.seqr (.reg [⟨(some 17), .mv (.t 0), none⟩,
    ⟨(some 18), .mv (.t 1), none⟩,
    ⟨(some 19), .call 66 [(.t 17), (.t 18)], none⟩,
    ⟨(some 20), .un .not (.t 19), none⟩,
    ⟨(some 21), .mv (.t 20), none⟩,
    ⟨(some 22), .mv (.t 2), (some (21, false))⟩,
    ⟨(some 23), .mv (.t 1), (some (21, false))⟩,
    ⟨(some 24), .call 54 [(.t 22), (.t 23)], (some (21, false))⟩,
    ⟨(some 25), .un .not (.t 24), (some (21, false))⟩,
    ⟨(some 26), .pick (.t 21) (.c (.b true)) (.t 25), none⟩] []) [0, 2, 9, 10, 26] [9, 10] A46R1) (.seqa (.reg [⟨(some 11), .mv (.c (.i 0)), none⟩] []) (.blk 0 (.loop A46L2)) [0, 2, 9, 10] [9, 10] A46R3)))))
def V46 : List RV := [.t 6, .t 7, .t 8]
theorem m46 : mtcF Try.prog 46 3 A46 V46 = true := by kernel_rfl
def A55 : ACode := (.seq (.reg [⟨(some 6), .mv (.c (.b false)), none⟩] []) (.seq (.reg [⟨(some 7), .mv (.t 1), none⟩,
    ⟨(some 8), .mv (.t 0), none⟩,
    ⟨(some 9), .bin .leq (.t 7) (.t 8), none⟩,
    ⟨(some 10), .mv (.t 9), none⟩,
    ⟨(some 11), .mv (.t 0), (some (10, true))⟩,
    ⟨(some 12), .mv (.t 2), (some (10, true))⟩,
    ⟨(some 13), .bin .leq (.t 11) (.t 12), (some (10, true))⟩,
    ⟨(some 14), .pick (.t 10) (.t 13) (.c (.b false)), none⟩,
    ⟨(some 6), .mv (.t 14), none⟩] []) .ret))
def V55 : List RV := [.t 6]
theorem m55 : mtcF Try.prog 55 3 A55 V55 = true := by kernel_rfl
def A113L1 : ACode := (.seq (.reg [⟨(some 9), .bin .lss (.t 8) (.t 7), none⟩] []) (.seq (.cond (.t 9) .skip (.exit 0)) (.seq (.blk 1 (.seq (.reg [⟨(some 10), .mv (.t 8), none⟩,
    ⟨(some 5), .mv (.t 10), none⟩] []) (.seq (.reg [⟨(some 11), .mv (.t 1), none⟩,
    ⟨(some 12), .mv (.t 0), none⟩,
    ⟨(some 13), .mv (.t 5), none⟩,
    ⟨(some 14), .idx 3 (.t 12) (.t 13), none⟩,
    ⟨(some 15), .load 3 true (.t 14), none⟩,
    ⟨(some 16), .dyn (.t 11) [(.t 15)], none⟩] []) (.cond (.t 16) (.seq (.reg [⟨(some 17), .mv (.t 5), none⟩,
    ⟨(some 4), .mv (.t 17), none⟩] []) .ret) .skip)))) (.reg [⟨(some 18), .bin .add (.t 8) (.c (.i 1)), none⟩,
    ⟨(some 8), .mv (.t 18), none⟩] []))))
def A113R2 : ACode := (.seq (.reg [⟨(some 4), .mv (.c (.i (-1))), none⟩] []) .ret)
def A113 : ACode := (.seq (.reg [⟨(some 4), .mv (.c (.i 0)), none⟩] []) (.seqa (.reg [⟨(some 6), .mv (.t 0), none⟩,
    ⟨(some 7), .len (.t 6), none⟩,
    ⟨(some 8), .mv (.c (.i 0)), none⟩] []) (.blk 0 (.loop A113L1)) [] [] A113R2))
def V113 : List RV := [.t 4]
theorem m113 : mtcF Try.prog 113 2 A113 V113 = true := by kernel_rfl
def A101 : ACode := (.seq (.reg [⟨(some 4), .mv (.c (.b false)), none⟩] []) (.seq (.reg [⟨(some 5), .mv (.t 0), none⟩,
    ⟨(some 6), .mv (.t 1), none⟩,
    ⟨(some 7), .call 113 [(.t 5), (.t 6)], none⟩,
    ⟨(some 8), .bin .geq (.t 7) (.c (.i 0)), none⟩,
    ⟨(some 4), .mv (.t 8), none⟩] []) .ret))
def V101 : List RV := [.t 4]
theorem m101 : mtcF Try.prog 101 2 A101 V101 = true := by kernel_rfl
def A58 : ACode := (.seq (.reg [⟨(some 6), .mv (.c (.b false)), none⟩] []) (.seq (.reg [⟨(some 7), .mv (.t 0), none⟩,
    ⟨(some 8), .mv (.t 2), none⟩,
    ⟨(some 9), .bin .sub (.t 8) (.c (.i 1)), none⟩,
    ⟨(some 10), .call 55 [(.t 7), (.c (.i 0)), (.t 9)], none⟩,
    ⟨(some 11), .mv (.t 10), none⟩,
    ⟨(some 12), .mv (.t 1), (some (11, true))⟩,
    ⟨(some 13), .mv (.t 2), (some (11, true))⟩,
    ⟨(some 14), .bin .sub (.t 13) (.c (.i 1)), (some (11, true))⟩,
    ⟨(some 15), .call 55 [(.t 12), (.c (.i 0)), (.t 14)], (some (11, true))⟩,
    ⟨(some 16), .pick (.t 11) (.t 15) (.c (.b false)), none⟩,
    ⟨(some 17), .mv (.t 16), none⟩,
    ⟨(some 18), .mv (.t 0), (some (17, true))⟩,
    ⟨(some 19), .mv (.t 1), (some (17, true))⟩,
    ⟨(some 20), .bin .neq (.t 18) (.t 19), (some (17, true))⟩,
    ⟨(some 21), .pick (.t 17) (.t 20) (.c (.b false)), none⟩,
    ⟨(some 6), .mv (.t 21), none⟩] []) .ret))
def V58 : List RV := [.t 6]
theorem m58 : mtcF Try.prog 58 3 A58 V58 = true := by kernel_rfl
def A102 : ACode := (.seq (.reg [⟨(some 2), .box 3 (.t 0), none⟩,
    ⟨(some 3), .mv (.c (.b false)), none⟩] []) (.seq (.reg [⟨(some 4), .fad 0 (.t 2), none⟩,
    ⟨(some 5), .load 1 false (.t 4), none⟩,
    ⟨(some 6), .fad 1 (.t 2), none⟩,
    ⟨(some 7), .load 1 false (.t 6), none⟩,
    ⟨(some 8), .load 1 false (.t 1), none⟩,
    ⟨(some 9), .call 58 [(.t 5), (.t 7), (.t 8)], none⟩,
    ⟨(some 10), .un .not (.t 9), none⟩,
    ⟨(some 11), .mv (.t 10), none⟩,
    ⟨(some 12), .fad 2 (.t 2), (some (11, false))⟩,
    ⟨(some 13), .load 1 false (.t 12), (some (11, false))⟩,
    ⟨(some 14), .call 55 [(.t 13), (.c (.i 0)), (.c (.i 10000))], (some (11, false))⟩,
    ⟨(some 15), .un .not (.t 14), (some (11, false))⟩,
    ⟨(some 16), .pick (.t 11) (.c (.b true)) (.t 15), none⟩,
    ⟨(some 3), .mv (.t 16), none⟩] []) .ret))
def V102 : List RV := [.t 3]
theorem m102 : mtcF Try.prog 102 2 A102 V102 = true := by kernel_rfl
def A70 : ACode := (.seq (.reg [⟨(some 3), .box 1 (.t 1), none⟩,
    ⟨(some 4), .mv (.c (.b false)), none⟩] []) (.seq (.reg [⟨(some 5), .load 1 false (.t 3), none⟩,
    ⟨(some 6), .call 55 [(.t 5), (.c (.i 2)), (.c (.i 8))], none⟩,
    ⟨(some 7), .mv (.t 6), none⟩,
    ⟨(some 8), .mv (.t 0), (some (7, true))⟩,
    ⟨(some 9), .len (.t 8), (some (7, true))⟩,
    ⟨(some 10), .bin .leq (.t 9) (.c (.i 12)), (some (7, true))⟩,
    ⟨(some 11), .pick (.t 7) (.t 10) (.c (.b false)), none⟩,
    ⟨(some 12), .mv (.t 11), none⟩,
    ⟨(some 13), .mv (.t 0), (some (12, true))⟩,
    ⟨(some 14), .mkf 102 [(.t 3)], (some (12, true))⟩,
    ⟨(some 15), .call 101 [(.t 13), (.t 14)], (some (12, true))⟩,
    ⟨(some 16), .un .not (.t 15), (some (12, true))⟩,
    ⟨(some 17), .pick (.t 12) (.t 16) (.c (.b false)), none⟩,
    ⟨(some 4), .mv (.t 17), none⟩] []) .ret))
def V70 : List RV := [.t 4]
theorem m70 : mtcF Try.prog 70 2 A70 V70 = true := by kernel_rfl
def A96L1 : ACode := (.seq (.reg [⟨(some 9), .bin .lss (.t 8) (.t 7), none⟩] []) (.seq (.cond (.t 9) .skip (.exit 0)) (.seq (.blk 1 (.seq (.reg [⟨(some 10), .mv (.t 8), none⟩,
    ⟨(some 5), .mv (.t 10), none⟩] []) (.seq (.reg [⟨(some 11), .mv (.t 1), none⟩,
    ⟨(some 12), .mv (.t 0), none⟩,
    ⟨(some 13), .mv (.t 5), none⟩,
    ⟨(some 14), .idx 3 (.t 12) (.t 13), none⟩,
    ⟨(some 15), .load 3 true (.t 14), none⟩,
    ⟨(some 16), .dyn (.t 11) [(.t 15)], none⟩] []) (.cond (.t 16) (.seq (.reg [⟨(some 17), .mv (.t 5), none⟩,
    ⟨(some 4), .mv (.t 17), none⟩] []) .ret) .skip)))) (.reg [⟨(some 18), .bin .add (.t 8) (.c (.i 1)), none⟩,
    ⟨(some 8), .mv (.t 18), none⟩] []))))
def A96R2 : ACode := (.seq (.reg [⟨(some 4), .mv (.c (.i (-1))), none⟩] []) .ret)
def A96 : ACode := (.seq (.reg [⟨(some 4), .mv (.c (.i 0)), none⟩] []) (.seqa (.reg [⟨(some 6), .mv (.t 0), none⟩,
    ⟨(some 7), .len (.t 6), none⟩,
    ⟨(some 8), .mv (.c (.i 0)), none⟩] []) (.blk 0 (.loop A96L1)) [] [] A96R2))
def V96 : List RV := [.t 4]
theorem m96 : mtcF Try.prog 96 2 A96 V96 = true := by kernel_rfl
def A56 : ACode := (.seq (.reg [⟨(some 4), .mv (.c (.b false)), none⟩] []) (.seq (.reg [⟨(some 5), .mv (.t 0), none⟩,
    ⟨(some 6), .mv (.t 1), none⟩,
    ⟨(some 7), .call 96 [(.t 5), (.t 6)], none⟩,
    ⟨(some 8), .bin .geq (.t 7) (.c (.i 0)), none⟩,
    ⟨(some 4), .mv (.t 8), none⟩] []) .ret))
def V56 : List RV := [.t 4]
theorem m56 : mtcF Try.prog 56 2 A56 V56 = true := by kernel_rfl
def A57 : ACode := (.seq (.reg [⟨(some 2), .box 3 (.t 0), none⟩,
    ⟨(some 3), .mv (.c (.b false)), none⟩] []) (.seq (.reg [⟨(some 4), .fad 0 (.t 2), none⟩,
    ⟨(some 5), .load 1 false (.t 4), none⟩,
    ⟨(some 6), .fad 1 (.t 2), none⟩,
    ⟨(some 7), .load 1 false (.t 6), none⟩,
    ⟨(some 8), .load 1 false (.t 1), none⟩,
    ⟨(some 9), .call 58 [(.t 5), (.t 7), (.t 8)], none⟩,
    ⟨(some 10), .un .not (.t 9), none⟩,
    ⟨(some 11), .mv (.t 10), none⟩,
    ⟨(some 12), .fad 2 (.t 2), (some (11, false))⟩,
    ⟨(some 13), .load 1 false (.t 12), (some (11, false))⟩,
    ⟨(some 14), .call 55 [(.t 13), (.c (.i 1)), (.c (.i 1000))], (some (11, false))⟩,
    ⟨(some 15), .un .not (.t 14), (some (11, false))⟩,
    ⟨(some 16), .pick (.t 11) (.c (.b true)) (.t 15), none⟩,
    ⟨(some 3), .mv (.t 16), none⟩] []) .ret))
def V57 : List RV := [.t 3]
theorem m57 : mtcF Try.prog 57 2 A57 V57 = true := by kernel_rfl
def A17 : ACode := (.seq (.reg [⟨(some 3), .box 1 (.t 1), none⟩,
    ⟨(some 4), .mv (.c (.b false)), none⟩] []) (.seq (.reg [⟨(some 5), .load 1 false (.t 3), none⟩,
    ⟨(some 6), .call 55 [(.t 5), (.c (.i 2)), (.c (.i 8))], none⟩,
    ⟨(some 7), .mv (.t 6), none⟩,
    ⟨(some 8), .mv (.t 0), (some (7, true))⟩,
    ⟨(some 9), .len (.t 8), (some (7, true))⟩,
    ⟨(some 10), .bin .leq (.t 9) (.c (.i 12)), (some (7, true))⟩,
    ⟨(some 11), .pick (.t 7) (.t 10) (.c (.b false)), none⟩,
    ⟨(some 12), .mv (.t 11), none⟩,
    ⟨(some 13), .mv (.t 0), (some (12, true))⟩,
    ⟨(some 14), .mkf 57 [(.t 3)], (some (12, true))⟩,
    ⟨(some 15), .call 56 [(.t 13), (.t 14)], (some (12, true))⟩,
    ⟨(some 16), .un .not (.t 15), (some (12, true))⟩,
    ⟨(some 17), .pick (.t 12) (.t 16) (.c (.b false)), none⟩,
    ⟨(some 4), .mv (.t 17), none⟩] []) .ret))
def V17 : List RV := [.t 4]
theorem m17 : mtcF Try.prog 17 2 A17 V17 = true := by kernel_rfl
def A75 : ACode := (.seq (.reg [⟨(some 6), .mv (.c (.b false)), none⟩] []) (.seq (.reg [⟨(some 7), .mv (.t 0), none⟩,
    ⟨(some 8), .mv (.t 1), none⟩,
    ⟨(some 9), .call 70 [(.t 7), (.t 8)], none⟩,
    ⟨(some 10), .mv (.t 9), none⟩,
    ⟨(some 11), .mv (.t 2), (some (10, true))⟩,
    ⟨(some 12), .mv (.t 1), (some (10, true))⟩,
    ⟨(some 13), .call 17 [(.t 11), (.t 12)], (some (10, true))⟩,
    ⟨(some 14), .pick (.t 10) (.t 13) (.c (.b false)), none⟩,
    ⟨(some 6), .mv (.t 14), none⟩] []) .ret))
def V75 : List RV := [.t 6]
theorem m75 : mtcF Try.prog 75 3 A75 V75 = true := by kernel_rfl
def A114 : ACode := (.seq (.reg [⟨(some 2), .box 4 (.t 0), none⟩,
    ⟨(some 4), .mv (.c (.i 0)), none⟩] []) (.seq (.seq (.reg [⟨(some 5), .mv (.t 1), none⟩] []) (.blk 0 (.seq (.reg [⟨(some 7), .fad 0 (.t 2), none⟩,
    ⟨(some 8), .load 1 false (.t 7), none⟩,
    ⟨(some 9), .bin .eql (.t 5) (.t 8), none⟩,
    ⟨(some 6), .mv (.t 9), none⟩] []) (.cond (.t 6) (.seq (.reg [⟨(some 10), .fad 1 (.t 2), none⟩,
    ⟨(some 11), .load 1 false (.t 10), none⟩,
    ⟨(some 4), .mv (.t 11), none⟩] []) .ret) (.seq (.reg [⟨(some 13), .fad 1 (.t 2), none⟩,
    ⟨(some 14), .load 1 false (.t 13), none⟩,
    ⟨(some 15), .bin .eql (.t 5) (.t 14), none⟩,
    ⟨(some 12), .mv (.t 15), none⟩] []) (.cond (.t 12) (.seq (.reg [⟨(some 16), .fad 0 (.t 2), none⟩,
    ⟨(some 17), .load 1 false (.t 16), none⟩,
    ⟨(some 4), .mv (.t 17), none⟩] []) .ret) .skip)))))) (.seq (.reg [⟨(some 4), .mv (.c (.i (-1))), none⟩] []) .ret)))
def V114 : List RV := [.t 4]
theorem m114 : mtcF Try.prog 114 2 A114 V114 = true := by kernel_rfl
def A103R1 : ACode := (.cond (.t 57) (.exit 1) .skip)
def A103L2 : ACode := (.seq (.reg [⟨(some 30), .bin .lss (.t 29) (.t 28), none⟩] []) (.seq (.cond (.t 30) .skip (.exit 0)) (.seq (.blk 1 (.seq (.reg [⟨(some 31), .mv (.t 29), none⟩,
    ⟨(some 32), .idx 3 (.t 27) (.t 29), none⟩,
    ⟨(some 33), .load 3 true (.t 32), none⟩,
    ⟨(some 17), .alloc (.agg [.i 0, .i 0, .i 0]), none⟩,
    ⟨(some 16), .mv (.t 31), none⟩,
    ⟨none, .store 3 (.t 17) (.t 33), none⟩] []) (.seq (.reg [⟨(some 34), .fad 0 (.t 17), none⟩,
    ⟨(some 35), .load 1 false (.t 34), none⟩,
    ⟨(some 36), .fad 1 (.t 17), none⟩,
    ⟨(some 37), .load 1 false (.t 36), none⟩,
    ⟨(some 38), .build [.i 0, .i 0, .i 0, .i 0] [(0, 1, (.t 35)), (1, 1, (.t 37))], none⟩,
    ⟨(some 39), .mv (.t 2), none⟩,
    ⟨(some 40), .call 114 [(.t 38), (.t 39)], none⟩,
    ⟨(some 18), .mv (.t 40), none⟩] []) (.seq (.seqr (.reg [⟨(some 41), .mv (.t 18), none⟩,
    ⟨(some 42), .bin .lss (.t 41) (.c (.i 0)), none⟩,
    ⟨(some 43), .mv (.t 42), none⟩,
    ⟨(some 44), .mv (.t 1), (some (43, false))⟩,
    ⟨(some 45), .mv (.t 16), (some (43, false))⟩,
    ⟨(some 46), .idx 1 (.t 44) (.t 45), (some (43, false))⟩,
    ⟨(some 47), .load 1 false (.t 46), (some (43, false))⟩,
    ⟨(some 48), .mv (.t 4), (some (43, false))⟩,
    ⟨(some 49), .bin .lss (.t 47) (.t 48), (some (43, false))⟩,
    ⟨(some 50), .pick (.t 43) (.c (.b true)) (.t 49), none⟩,
    ⟨(some 51), .mv (.t 50), none⟩,
    ⟨(some 52), .mv (.t 6), (some (51, false))⟩,
    ⟨(some 53), .mv (.t 18), (some (51, false))⟩,
    ⟨(some 54), .bin .shr (.t 52) (.t 53), (some (51, false))⟩,
    ⟨(some 55), .bin .and (.t 54) (.c (.i 1)), (some (51, false))⟩,
    ⟨(some 56), .bin .eql (.t 55) (.c (.i 1)), (some (51, false))⟩,
    ⟨(some 57), .pick (.t 51) (.c (.b true)) (.t 56), none⟩] []) [0, 1, 2, 3, 4, 5, 6, 16, 18, 27, 28, 29, 57] [] A103R1) (.seq (.reg [⟨(some 59), .mv (.t 0), none⟩,
    ⟨(some 60), .mv (.t 1), none⟩,
    ⟨(some 61), .mv (.t 18), none⟩,
    ⟨(some 62), .mv (.t 3), none⟩,
    ⟨(some 63), .mv (.t 4), none⟩,
    ⟨(some 64), .mv (.t 5), none⟩,
    ⟨(some 65), .bin .sub (.t 64) (.c (.i 1)), none⟩,
    ⟨(some 66), .mv (.t 6), none⟩,
    ⟨(some 67), .mv (.t 18), none⟩,
    ⟨(some 68), .bin .shl (.c (.i 1)) (.t 67), none⟩,
    ⟨(some 69), .bin .or (.t 66) (.t 68), none⟩,
    ⟨(some 70), .call 103 [(.t 59), (.t 60), (.t 61), (.t 62), (.t 63), (.t 65), (.t 69)], none⟩,
    ⟨(some 58), .mv (.t 70), none⟩,
    ⟨(some 71), .ext (.t 58) 0, none⟩,
    ⟨(some 72), .ext (.t 58) 1, none⟩,
    ⟨(some 19), .mv (.t 71), none⟩,
    ⟨(some 20), .mv (.t 72), none⟩] [19]) (.seq (.reg [⟨(some 73), .mv (.t 20), none⟩] []) (.cond (.t 73) (.seq (.reg [⟨(some 74), .mv (.t 16), none⟩,
    ⟨(some 75), .bsl 1 false [(.t 74)], none⟩,
    ⟨(some 76), .mv (.t 19), none⟩,
    ⟨(some 77), .app 1 8 false (.t 75) (.t 76), none⟩,
    ⟨(some 14), .mv (.t 77), none⟩,
    ⟨(some 15), .mv (.c (.b true)), none⟩] [14]) .ret) .skip))))))) (.reg [⟨(some 78), .bin .add (.t 29) (.c (.i 1)), none⟩,
    ⟨(some 29), .mv (.t 78), none⟩] []))))
def A103R3 : ACode := (.seq (.reg [⟨(some 14), .mv (.c (.lst .u 1 [])), none⟩,
    ⟨(some 15), .mv (.c (.b false)), none⟩] [14]) .ret)
def A103 : ACode := (.seq (.reg [⟨(some 14), .mv (.c (.lst .u 1 [])), none⟩,
    ⟨(some 15), .mv (.c (.b false)), none⟩] [14]) (.seq (.seq (.reg [⟨(some 21), .mv (.t 2), none⟩,
    ⟨(some 22), .mv (.t 3), none⟩,
    ⟨(some 23), .bin .eql (.t 21) (.t 22), none⟩] []) (.cond (.t 23) (.seq (.reg [⟨(some 24), .bsl 1 false [], none⟩,
    ⟨(some 14), .mv (.t 24), none⟩,
    ⟨(some 15), .mv (.c (.b true)), none⟩] [14]) .ret) .skip)) (.seq (.seq (.reg [⟨(some 25), .mv (.t 5), none⟩,
    ⟨(some 26), .bin .eql (.t 25) (.c (.i 0)), none⟩] []) (.cond (.t 26) (.seq (.reg [⟨(some 14), .mv (.c (.lst .u 1 [])), none⟩,
    ⟨(some 15), .mv (.c (.b false)), none⟩] [14]) .ret) .skip)) (.seqa (.reg [⟨(some 27), .mv (.t 0), none⟩,
    ⟨(some 28), .len (.t 27), none⟩,
    ⟨(some 29), .mv (.c (.i 0)), none⟩] []) (.blk 0 (.loop A103L2)) [] [] A103R3))))
def V103 : List RV := [.t 14, .t 15]
theorem m103 : mtcF Try.prog 103 7 A103 V103 = true := by kernel_rfl
def A73L1 : ACode := (.seq (.seq (.reg [⟨(some 11), .mv (.t 8), none⟩,
    ⟨(some 12), .bin .lss (.t 11) (.c (.i 8)), none⟩] []) (.cond (.t 12) .skip (.exit 0))) (.seq (.blk 1 (.seq (.drw [⟨(some 16), .mv (.t 0), none⟩,
    ⟨(some 17), .mv (.t 1), none⟩,
    ⟨(some 18), .fad 0 (.t 5), none⟩,
    ⟨(some 19), .load 1 false (.t 18), none⟩,
    ⟨(some 20), .fad 1 (.t 5), none⟩,
    ⟨(some 21), .load 1 false (.t 20), none⟩,
    ⟨(some 22), .fad 2 (.t 5), none⟩,
    ⟨(some 23), .load 1 false (.t 22), none⟩,
    ⟨(some 24), .mv (.t 8), none⟩,
    ⟨(some 25), .fad 0 (.t 5), none⟩,
    ⟨(some 26), .load 1 false (.t 25), none⟩,
    ⟨(some 27), .bin .shl (.c (.i 1)) (.t 26), none⟩,
    ⟨(some 28), .call 103 [(.t 16), (.t 17), (.t 19), (.t 21), (.t 23), (.t 24), (.t 27)], none⟩,
    ⟨(some 15), .mv (.t 28), none⟩,
    ⟨(some 29), .ext (.t 15) 0, none⟩,
    ⟨(some 30), .ext (.t 15) 1, none⟩,
    ⟨(some 9), .mv (.t 29), none⟩,
    ⟨(some 10), .mv (.t 30), none⟩] [9]) (.seq (.reg [⟨(some 31), .mv (.t 10), none⟩] []) (.cond (.t 31) (.seq (.reg [⟨(some 32), .mv (.t 9), none⟩,
    ⟨(some 6), .mv (.t 32), none⟩,
    ⟨(some 7), .mv (.c (.b true)), none⟩] [6]) .ret) .skip)))) (.reg [⟨(some 13), .mv (.t 8), none⟩,
    ⟨(some 14), .bin .add (.t 13) (.c (.i 1)), none⟩,
    ⟨(some 8), .mv (.t 14), none⟩] [])))
def A73R2 : ACode := (.seq (.reg [⟨(some 6), .mv (.c (.lst .u 1 [])), none⟩,
    ⟨(some 7), .mv (.c (.b false)), none⟩] [6]) .ret)
def A73 : ACode := (.seq (.reg [⟨(some 5), .box 3 (.t 2), none⟩,
    ⟨(some 6), .mv (.c (.lst .u 1 [])), none⟩,
    ⟨(some 7), .mv (.c (.b false)), none⟩] [6]) (.seqa (.reg [⟨(some 8), .mv (.c (.i 1)), none⟩] []) (.blk 0 (.loop A73L1)) [] [] A73R2))
def V73 : List RV := [.t 6, .t 7]
theorem m73 : mtcF Try.prog 73 3 A73 V73 = true := by kernel_rfl
def A76L1 : ACode := (.seq (.reg [⟨(some 23), .bin .lss (.t 22) (.t 21), none⟩] []) (.seq (.cond (.t 23) .skip (.exit 0)) (.seq (.blk 1 (.seq (.reg [⟨(some 24), .idx 3 (.t 20) (.t 22), none⟩,
    ⟨(some 25), .load 3 true (.t 24), none⟩,
    ⟨(some 11), .alloc (.agg [.i 0, .i 0, .i 0]), none⟩,
    ⟨none, .store 3 (.t 11) (.t 25), none⟩] []) (.reg [⟨(some 26), .mv (.t 8), none⟩,
    ⟨(some 27), .fad 2 (.t 11), none⟩,
    ⟨(some 28), .load 1 false (.t 27), none⟩,
    ⟨(some 29), .bsl 1 false [(.t 28)], none⟩,
    ⟨(some 30), .app 1 8 true (.t 26) (.t 29), none⟩,
    ⟨(some 8), .mv (.t 30), none⟩] [8]))) (.reg [⟨(some 31), .bin .add (.t 22) (.c (.i 1)), none⟩,
    ⟨(some 22), .mv (.t 31), none⟩] []))))
def A76L4 : ACode := (.seq (.reg [⟨(some 54), .bin .lss (.t 53) (.t 52), none⟩] []) (.seq (.cond (.t 54) .skip (.exit 4)) (.seq (.blk 5 (.seq (.reg [⟨(some 55), .idx 1 (.t 51) (.t 53), none⟩,
    ⟨(some 56), .load 1 false (.t 55), none⟩,
    ⟨(some 17), .mv (.t 56), none⟩] []) (.drw [⟨(some 57), .mv (.t 8), none⟩,
    ⟨(some 58), .mv (.t 17), none⟩,
    ⟨(some 59), .idx 1 (.t 57) (.t 58), none⟩,
    ⟨(some 60), .load 1 false (.t 59), none⟩,
    ⟨(some 61), .fad 2 (.t 13), none⟩,
    ⟨(some 62), .load 1 false (.t 61), none⟩,
    ⟨(some 63), .bin .sub (.t 60) (.t 62), none⟩,
    ⟨(some 64), .idx 1 (.t 57) (.t 58), none⟩,
    ⟨none, .store 1 (.t 64) (.t 63), none⟩] []))) (.reg [⟨(some 65), .bin .add (.t 53) (.c (.i 1)), none⟩,
    ⟨(some 53), .mv (.t 65), none⟩] []))))
def A76R5 : ACode := (.reg [⟨(some 66), .mv (.t 7), none⟩,
    ⟨(some 67), .mv (.t 14), none⟩,
    ⟨(some 68), .bsl 1 false [(.t 67)], none⟩,
    ⟨(some 69), .app 1 24 true (.t 66) (.t 68), none⟩,
    ⟨(some 7), .mv (.t 69), none⟩] [7])
def A76R3 : ACode := (.seqa (.reg [⟨(some 51), .mv (.t 14), none⟩,
    ⟨(some 52), .len (.t 51), none⟩,
    ⟨(some 53), .mv (.c (.i 0)), none⟩] []) (.blk 4 (.loop A76L4)) [0, 7, 8, 9, 14, 32, 33, 34] [7, 8, 14] A76R5)
def A76L6 : ACode := (.seq (.reg [⟨(some 35), .bin .lss (.t 34) (.t 33), none⟩] []) (.seq (.cond (.t 35) .skip (.exit 2)) (.seq (.blk 3 (.seq (.reg [⟨(some 36), .idx 3 (.t 32) (.t 34), none⟩,
    ⟨(some 37), .load 3 true (.t 36), none⟩,
    ⟨(some 13), .alloc (.agg [.i 0, .i 0, .i 0]), none⟩,
    ⟨none, .store 3 (.t 13) (.t 37), none⟩] []) (.seq (.reg [⟨(some 39), .mv (.t 0), none⟩,
    ⟨(some 40), .mv (.t 8), none⟩,
    ⟨(some 41), .load 3 true (.t 13), none⟩,
    ⟨(some 42), .call 73 [(.t 39), (.t 40), (.t 41)], none⟩,
    ⟨(some 38), .mv (.t 42), none⟩,
    ⟨(some 43), .ext (.t 38) 0, none⟩,
    ⟨(some 44), .ext (.t 38) 1, none⟩,
    ⟨(some 14), .mv (.t 43), none⟩,
    ⟨(some 15), .mv (.t 44), none⟩] [14]) (.seqr (.seq (.reg [⟨(some 45), .mv (.t 15), none⟩,
    ⟨(some 46), .un .not (.t 45), none⟩] []) (.cond (.t 46) (.reg [⟨(some 47), .mv (.t 9), none⟩,
    ⟨(some 48), .fad 2 (.t 13), none⟩,
    ⟨(some 49), .load 1 false (.t 48), none⟩,
    ⟨(some 50), .bin .add (.t 47) (.t 49), none⟩,
    ⟨(some 9), .mv (.t 50), none⟩] []) .skip)) [0, 7, 8, 9, 13, 14, 32, 33, 34] [7, 8, 13, 14] A76R3)))) (.reg [⟨(some 70), .bin .add (.t 34) (.c (.i 1)), none⟩,
    ⟨(some 34), .mv (.t 70), none⟩] []))))
def A76R7 : ACode := (.seq (.reg [⟨(some 71), .mv (.t 7), none⟩,
    ⟨(some 72), .mv (.t 8), none⟩,
    ⟨(some 73), .mv (.t 9), none⟩,
    ⟨(some 4), .mv (.t 71), none⟩,
    ⟨(some 5), .mv (.t 72), none⟩,
    ⟨(some 6), .mv (.t 73), none⟩] [4, 5]) .ret)
def A76R2 : ACode := (.seqa (.reg [⟨(some 32), .mv (.t 1), none⟩,
    ⟨(some 33), .len (.t 32), none⟩,
    ⟨(some 34), .mv (.c (.i 0)), none⟩] []) (.blk 2 (.loop A76L6)) [7, 8, 9] [7, 8] A76R7)
def A76 : ACode := (.seq (.reg [⟨(some 4), .mv (.c (.lst .u 1 [])), none⟩,
    ⟨(some 5), .mv (.c (.lst .u 1 [])), none⟩,
    ⟨(some 6), .mv (.c (.i 0)), none⟩] [4, 5]) (.seq (.reg [⟨(some 18), .bsl 1 false [], none⟩,
    ⟨(some 19), .bsl 1 false [], none⟩,
    ⟨(some 7), .mv (.t 18), none⟩,
    ⟨(some 8), .mv (.t 19), none⟩,
    ⟨(some 9), .mv (.c (.i 0)), none⟩] [7, 8]) (.seqa (.reg [⟨(some 20), .mv (.t 0), none⟩,
    ⟨(some 21), .len (.t 20), none⟩,
    ⟨(some 22), .mv (.c (.i 0)), none⟩] []) (.blk 0 (.loop A76L1)) [0, 1, 7, 8, 9] [7, 8] A76R2)))
def V76 : List RV := [.t 4, .t 5, .t 6]
theorem m76 : mtcF Try.prog 76 2 A76 V76 = true := by kernel_rfl
def A45 : ACode := (.seq (.reg [⟨(some 6), .mv (.c (.lst .u 1 [])), none⟩,
    ⟨(some 7), .mv (.c (.lst .u 1 [])), none⟩,
    ⟨(some 8), .mv (.c (.b false)), none⟩] [6, 7]) (.seq (.seq (.reg [⟨(some 12), .mv (.t 0), none⟩,
    ⟨(some 13), .mv (.t 1), none⟩,
    ⟨(some 14), .mv (.t 2), none⟩,
    ⟨(some 15), .call 75 [(.t 12), (.t 13), (.t 14)], none⟩,
    ⟨(some 16), .un .not (.t 15), none⟩] []) (.cond (.t 16) (.seq (.reg [⟨(some 6), .mv (.c (.lst .u 1 [])), none⟩,
    ⟨(some 7), .mv (.c (.lst .u 1 [])), none⟩,
    ⟨(some 8), .mv (.c (.b false)), none⟩] [6, 7]) .ret) .skip)) (.seq (.reg [⟨(some 18), .mv (.t 0), none⟩,
    ⟨(some 19), .mv (.t 2), none⟩,
    ⟨(some 20), .call 76 [(.t 18), (.t 19)], none⟩,
    ⟨(some 17), .mv (.t 20), none⟩,
    ⟨(some 21), .ext (.t 17) 0, none⟩,
    ⟨(some 22), .ext (.t 17) 1, none⟩,
    ⟨(some 23), .ext (.t 17) 2, none⟩,
    ⟨(some 9), .mv (.t 21), none⟩,
    ⟨(some 10), .mv (.t 22), none⟩,
    ⟨(some 11), .mv (.t 23), none⟩] [9, 10]) (.seq (.reg [⟨(some 24), .mv (.t 9), none⟩,
    ⟨(some 25), .mv (.t 10), none⟩,
    ⟨(some 6), .mv (.t 24), none⟩,
    ⟨(some 7), .mv (.t 25), none⟩,
    ⟨(some 8), .mv (.c (.b true)), none⟩] [6, 7]) .ret))))
def V45 : List RV := [.t 6, .t 7, .t 8]
theorem m45 : mtcF Try.prog 45 3 A45 V45 = true := by kernel_rfl
def A22L1 : ACode := (.seq (.seq (.reg [⟨(some 11), .mv (.t 5), none⟩,
    ⟨(some 12), .mv (.t 0), none⟩,
    ⟨(some 13), .len (.t 12), none⟩,
    ⟨(some 14), .bin .lss (.t 11) (.t 13), none⟩] []) (.cond (.t 14) .skip (.exit 0))) (.seq (.blk 1 (.seq (.drw [⟨(some 17), .mv (.t 0), none⟩,
    ⟨(some 18), .mv (.t 5), none⟩,
    ⟨(some 19), .idx 1 (.t 17) (.t 18), none⟩,
    ⟨(some 20), .load 1 false (.t 19), none⟩,
    ⟨(some 21), .mv (.t 1), none⟩,
    ⟨(some 22), .mv (.t 5), none⟩,
    ⟨(some 23), .idx 1 (.t 21) (.t 22), none⟩,
    ⟨(some 24), .load 1 false (.t 23), none⟩,
    ⟨(some 25), .bin .neq (.t 20) (.t 24), none⟩] []) (.cond (.t 25) (.seq (.reg [⟨(some 4), .mv (.c (.b false)), none⟩] []) .ret) .skip))) (.reg [⟨(some 15), .mv (.t 5), none⟩,
    ⟨(some 16), .bin .add (.t 15) (.c (.i 1)), none⟩,
    ⟨(some 5), .mv (.t 16), none⟩] [])))
def A22R2 : ACode := (.seq (.reg [⟨(some 4), .mv (.c (.b true)), none⟩] []) .ret)
def A22 : ACode := (.seq (.reg [⟨(some 4), .mv (.c (.b false)), none⟩] []) (.seq (.seq (.reg [⟨(some 6), .mv (.t 0), none⟩,
    ⟨(some 7), .len (.t 6), none⟩,
    ⟨(some 8), .mv (.t 1), none⟩,
    ⟨(some 9), .len (.t 8), none⟩,
    ⟨(some 10), .bin .neq (.t 7) (.t 9), none⟩] []) (.cond (.t 10) (.seq (.reg [⟨(some 4), .mv (.c (.b false)), none⟩] []) .ret) .skip)) (.seqa (.reg [⟨(some 5), .mv (.c (.i 0)), none⟩] []) (.blk 0 (.loop A22L1)) [] [] A22R2)))
def V22 : List RV := [.t 4]
theorem m22 : mtcF Try.prog 22 2 A22 V22 = true := by kernel_rfl
def A40L1 : ACode := (.seq (.seq (.reg [⟨(some 11), .mv (.t 5), none⟩,
    ⟨(some 12), .mv (.t 0), none⟩,
    ⟨(some 13), .len (.t 12), none⟩,
    ⟨(some 14), .bin .lss (.t 11) (.t 13), none⟩] []) (.cond (.t 14) .skip (.exit 0))) (.seq (.blk 1 (.seq (.drw [⟨(some 17), .mv (.t 0), none⟩,
    ⟨(some 18), .mv (.t 5), none⟩,
    ⟨(some 19), .idx 1 (.t 17) (.t 18), none⟩,
    ⟨(some 20), .load 1 false (.t 19), none⟩,
    ⟨(some 21), .mv (.t 1), none⟩,
    ⟨(some 22), .mv (.t 5), none⟩,
    ⟨(some 23), .idx 1 (.t 21) (.t 22), none⟩,
    ⟨(some 24), .load 1 false (.t 23), none⟩,
    ⟨(some 25), .call 22 [(.t 20), (.t 24)], none⟩,
    ⟨(some 26), .un .not (.t 25), none⟩] []) (.cond (.t 26) (.seq (.reg [⟨(some 4), .mv (.c (.b false)), none⟩] []) .ret) .skip))) (.reg [⟨(some 15), .mv (.t 5), none⟩,
    ⟨(some 16), .bin .add (.t 15) (.c (.i 1)), none⟩,
    ⟨(some 5), .mv (.t 16), none⟩] [])))
def A40R2 : ACode := (.seq (.reg [⟨(some 4), .mv (.c (.b true)), none⟩] []) .ret)
def A40 : ACode := (.seq (.reg [⟨(some 4), .mv (.c (.b false)), none⟩] []) (.seq (.seq (.reg [⟨(some 6), .mv (.t 0), none⟩,
    ⟨(some 7), .len (.t 6), none⟩,
    ⟨(some 8), .mv (.t 1), none⟩,
    ⟨(some 9), .len (.t 8), none⟩,
    ⟨(some 10), .bin .neq (.t 7) (.t 9), none⟩] []) (.cond (.t 10) (.seq (.reg [⟨(some 4), .mv (.c (.b false)), none⟩] []) .ret) .skip)) (.seqa (.reg [⟨(some 5), .mv (.c (.i 0)), none⟩] []) (.blk 0 (.loop A40L1)) [] [] A40R2)))
def V40 : List RV := [.t 4]
theorem m40 : mtcF Try.prog 40 2 A40 V40 = true := by kernel_rfl
def A74 : ACode := (.seq (.reg [⟨(some 2), .box 3 (.t 0), none⟩,
    ⟨(some 3), .box 3 (.t 1), none⟩,
    ⟨(some 4), .mv (.c (.b false)), none⟩] []) (.seq (.seq (.reg [⟨(some 5), .fad 0 (.t 2), none⟩,
    ⟨(some 6), .load 1 false (.t 5), none⟩,
    ⟨(some 7), .fad 0 (.t 3), none⟩,
    ⟨(some 8), .load 1 false (.t 7), none⟩,
    ⟨(some 9), .bin .neq (.t 6) (.t 8), none⟩] []) (.cond (.t 9) (.seq (.reg [⟨(some 4), .mv (.c (.b false)), none⟩] []) .ret) .skip)) (.seq (.seq (.reg [⟨(some 10), .fad 1 (.t 2), none⟩,
    ⟨(some 11), .load 1 false (.t 10), none⟩,
    ⟨(some 12), .fad 1 (.t 3), none⟩,
    ⟨(some 13), .load 1 false (.t 12), none⟩,
    ⟨(some 14), .bin .neq (.t 11) (.t 13), none⟩] []) (.cond (.t 14) (.seq (.reg [⟨(some 4), .mv (.c (.b false)), none⟩] []) .ret) .skip)) (.seq (.seq (.reg [⟨(some 15), .fad 2 (.t 2), none⟩,
    ⟨(some 16), .load 1 false (.t 15), none⟩,
    ⟨(some 17), .fad 2 (.t 3), none⟩,
    ⟨(some 18), .load 1 false (.t 17), none⟩,
    ⟨(some 19), .bin .neq (.t 16) (.t 18), none⟩] []) (.cond (.t 19) (.seq (.reg [⟨(some 4), .mv (.c (.b false)), none⟩] []) .ret) .skip)) (.seq (.reg [⟨(some 4), .mv (.c (.b true)), none⟩] []) .ret)))))
def V74 : List RV := [.t 4]
theorem m74 : mtcF Try.prog 74 2 A74 V74 = true := by kernel_rfl
def A30L1 : ACode := (.seq (.seq (.reg [⟨(some 11), .mv (.t 5), none⟩,
    ⟨(some 12), .mv (.t 0), none⟩,
    ⟨(some 13), .len (.t 12), none⟩,
    ⟨(some 14), .bin .lss (.t 11) (.t 13), none⟩] []) (.cond (.t 14) .skip (.exit 0))) (.seq (.blk 1 (.seq (.drw [⟨(some 17), .mv (.t 0), none⟩,
    ⟨(some 18), .mv (.t 5), none⟩,
    ⟨(some 19), .idx 3 (.t 17) (.t 18), none⟩,
    ⟨(some 20), .load 3 true (.t 19), none⟩,
    ⟨(some 21), .mv (.t 1), none⟩,
    ⟨(some 22), .mv (.t 5), none⟩,
    ⟨(some 23), .idx 3 (.t 21) (.t 22), none⟩,
    ⟨(some 24), .load 3 true (.t 23), none⟩,
    ⟨(some 25), .call 74 [(.t 20), (.t 24)], none⟩,
    ⟨(some 26), .un .not (.t 25), none⟩] []) (.cond (.t 26) (.seq (.reg [⟨(some 4), .mv (.c (.b false)), none⟩] []) .ret) .skip))) (.reg [⟨(some 15), .mv (.t 5), none⟩,
    ⟨(some 16), .bin .add (.t 15) (.c (.i 1)), none⟩,
    ⟨(some 5), .mv (.t 16), none⟩] [])))
def A30R2 : ACode := (.seq (.reg [⟨(some 4), .mv (.c (.b true)), none⟩] []) .ret)
def A30 : ACode := (.seq (.reg [⟨(some 4), .mv (.c (.b false)), none⟩] []) (.seq (.seq (.reg [⟨(some 6), .mv (.t 0), none⟩,
    ⟨(some 7), .len (.t 6), none⟩,
    ⟨(some 8), .mv (.t 1), none⟩,
    ⟨(some 9), .len (.t 8), none⟩,
    ⟨(some 10), .bin .neq (.t 7) (.t 9), none⟩] []) (.cond (.t 10) (.seq (.reg [⟨(some 4), .mv (.c (.b false)), none⟩] []) .ret) .skip)) (.seqa (.reg [⟨(some 5), .mv (.c (.i 0)), none⟩] []) (.blk 0 (.loop A30L1)) [] [] A30R2)))
def V30 : List RV := [.t 4]
theorem m30 : mtcF Try.prog 30 2 A30 V30 = true := by kernel_rfl
def A59 : ACode := (.seq (.reg [⟨(some 2), .box 3 (.t 0), none⟩,
    ⟨(some 3), .box 3 (.t 1), none⟩,
    ⟨(some 4), .mv (.c (.b false)), none⟩] []) (.seq (.seq (.reg [⟨(some 5), .fad 0 (.t 2), none⟩,
    ⟨(some 6), .load 1 false (.t 5), none⟩,
    ⟨(some 7), .fad 0 (.t 3), none⟩,
    ⟨(some 8), .load 1 false (.t 7), none⟩,
    ⟨(some 9), .bin .neq (.t 6) (.t 8), none⟩] []) (.cond (.t 9) (.seq (.reg [⟨(some 4), .mv (.c (.b false)), none⟩] []) .ret) .skip)) (.seq (.seq (.reg [⟨(some 10), .fad 1 (.t 2), none⟩,
    ⟨(some 11), .load 1 false (.t 10), none⟩,
    ⟨(some 12), .fad 1 (.t 3), none⟩,
    ⟨(some 13), .load 1 false (.t 12), none⟩,
    ⟨(some 14), .bin .neq (.t 11) (.t 13), none⟩] []) (.cond (.t 14) (.seq (.reg [⟨(some 4), .mv (.c (.b false)), none⟩] []) .ret) .skip)) (.seq (.seq (.reg [⟨(some 15), .fad 2 (.t 2), none⟩,
    ⟨(some 16), .load 1 false (.t 15), none⟩,
    ⟨(some 17), .fad 2 (.t 3), none⟩,
    ⟨(some 18), .load 1 false (.t 17), none⟩,
    ⟨(some 19), .bin .neq (.t 16) (.t 18), none⟩] []) (.cond (.t 19) (.seq (.reg [⟨(some 4), .mv (.c (.b false)), none⟩] []) .ret) .skip)) (.seq (.reg [⟨(some 4), .mv (.c (.b true)), none⟩] []) .ret)))))
def V59 : List RV := [.t 4]
theorem m59 : mtcF Try.prog 59 2 A59 V59 = true := by kernel_rfl
def A18L1 : ACode := (.seq (.seq (.reg [⟨(some 11), .mv (.t 5), none⟩,
    ⟨(some 12), .mv (.t 0), none⟩,
    ⟨(some 13), .len (.t 12), none⟩,
    ⟨(some 14), .bin .lss (.t 11) (.t 13), none⟩] []) (.cond (.t 14) .skip (.exit 0))) (.seq (.blk 1 (.seq (.drw [⟨(some 17), .mv (.t 0), none⟩,
    ⟨(some 18), .mv (.t 5), none⟩,
    ⟨(some 19), .idx 3 (.t 17) (.t 18), none⟩,
    ⟨(some 20), .load 3 true (.t 19), none⟩,
    ⟨(some 21), .mv (.t 1), none⟩,
    ⟨(some 22), .mv (.t 5), none⟩,
    ⟨(some 23), .idx 3 (.t 21) (.t 22), none⟩,
    ⟨(some 24), .load 3 true (.t 23), none⟩,
    ⟨(some 25), .call 59 [(.t 20), (.t 24)], none⟩,
    ⟨(some 26), .un .not (.t 25), none⟩] []) (.cond (.t 26) (.seq (.reg [⟨(some 4), .mv (.c (.b false)), none⟩] []) .ret) .skip))) (.reg [⟨(some 15), .mv (.t 5), none⟩,
    ⟨(some 16), .bin .add (.t 15) (.c (.i 1)), none⟩,
    ⟨(some 5), .mv (.t 16), none⟩] [])))
def A18R2 : ACode := (.seq (.reg [⟨(some 4), .mv (.c (.b true)), none⟩] []) .ret)
def A18 : ACode := (.seq (.reg [⟨(some 4), .mv (.c (.b false)), none⟩] []) (.seq (.seq (.reg [⟨(some 6), .mv (.t 0), none⟩,
    ⟨(some 7), .len (.t 6), none⟩,
    ⟨(some 8), .mv (.t 1), none⟩,
    ⟨(some 9), .len (.t 8), none⟩,
    ⟨(some 10), .bin .neq (.t 7) (.t 9), none⟩] []) (.cond (.t 10) (.seq (.reg [⟨(some 4), .mv (.c (.b false)), none⟩] []) .ret) .skip)) (.seqa (.reg [⟨(some 5), .mv (.c (.i 0)), none⟩] []) (.blk 0 (.loop A18L1)) [] [] A18R2)))
def V18 : List RV := [.t 4]
theorem m18 : mtcF Try.prog 18 2 A18 V18 = true := by kernel_rfl
def A31M1L1 : ACode := (.seq (.seq (.reg [⟨(some 6), .mv (.t 5), none⟩,
    ⟨(some 7), .mv (.t 0), none⟩,
    ⟨(some 8), .len (.t 7), none⟩,
    ⟨(some 9), .bin .lss (.t 6) (.t 8), none⟩] []) (.cond (.t 9) .skip (.exit 0))) (.seq (.blk 1 (.seq (.reg [⟨(some 12), .mv (.t 0), none⟩,
    ⟨(some 13), .mv (.t 5), none⟩,
    ⟨(some 14), .mv (.t 1), none⟩,
    ⟨(some 15), .idx 3 (.t 12) (.t 13), none⟩,
    ⟨(some 16), .fad 0 (.t 15), none⟩,
    ⟨none, .store 1 (.t 16) (.t 14), none⟩] []) (.seq (.reg [⟨(some 17), .mv (.t 1), none⟩,
    ⟨(some 18), .bin .add (.t 17) (.c (.i 1)), none⟩,
    ⟨(some 1), .mv (.t 18), none⟩] []) (.seq (.reg [⟨(some 19), .mv (.t 0), none⟩,
    ⟨(some 20), .mv (.t 5), none⟩,
    ⟨(some 21), .mv (.t 1), none⟩,
    ⟨(some 22), .idx 3 (.t 19) (.t 20), none⟩,
    ⟨(some 23), .fad 1 (.t 22), none⟩,
    ⟨none, .store 1 (.t 23) (.t 21), none⟩] []) (.seq (.reg [⟨(some 24), .mv (.t 1), none⟩,
    ⟨(some 25), .bin .add (.t 24) (.c (.i 1)), none⟩,
    ⟨(some 1), .mv (.t 25), none⟩] []) (.seq (.reg [⟨(some 26), .mv (.t 0), none⟩,
    ⟨(some 27), .mv (.t 5), none⟩,
    ⟨(some 28), .mv (.t 1), none⟩,
    ⟨(some 29), .idx 3 (.t 26) (.t 27), none⟩,
    ⟨(some 30), .fad 2 (.t 29), none⟩,
    ⟨none, .store 1 (.t 30) (.t 28), none⟩] []) (.reg [⟨(some 31), .mv (.t 1), none⟩,
    ⟨(some 32), .bin .add (.t 31) (.c (.i 1)), none⟩,
    ⟨(some 1), .mv (.t 32), none⟩] []))))))) (.reg [⟨(some 10), .mv (.t 5), none⟩,
    ⟨(some 11), .bin .add (.t 10) (.c (.i 1)), none⟩,
    ⟨(some 5), .mv (.t 11), none⟩] [])))
def A31M1R2 : ACode := (.seq (.reg [⟨(some 33), .mv (.t 1), none⟩,
    ⟨(some 4), .mv (.t 33), none⟩] []) .ret)
def A31M1 : ACode := (.seq (.reg [⟨(some 4), .mv (.c (.i 0)), none⟩] []) (.seqa (.reg [⟨(some 5), .mv (.c (.i 0)), none⟩] []) (.blk 0 (.loop A31M1L1)) [1] [1000000000] A31M1R2))
def V31M1 : List RV := [.t 4]
theorem m31M1 : mtcF Try.prog 31 2 A31M1 V31M1 = true := by kernel_rfl
def A41M1L1 : ACode := (.seq (.seq (.reg [⟨(some 6), .mv (.t 5), none⟩,
    ⟨(some 7), .mv (.t 0), none⟩,
    ⟨(some 8), .len (.t 7), none⟩,
    ⟨(some 9), .bin .lss (.t 6) (.t 8), none⟩] []) (.cond (.t 9) .skip (.exit 0))) (.seq (.blk 1 (.seq (.reg [⟨(some 12), .mv (.t 0), none⟩,
    ⟨(some 13), .mv (.t 5), none⟩,
    ⟨(some 14), .mv (.t 1), none⟩,
    ⟨(some 15), .idx 3 (.t 12) (.t 13), none⟩,
    ⟨(some 16), .fad 0 (.t 15), none⟩,
    ⟨none, .store 1 (.t 16) (.t 14), none⟩] []) (.seq (.reg [⟨(some 17), .mv (.t 1), none⟩,
    ⟨(some 18), .bin .add (.t 17) (.c (.i 1)), none⟩,
    ⟨(some 1), .mv (.t 18), none⟩] []) (.seq (.reg [⟨(some 19), .mv (.t 0), none⟩,
    ⟨(some 20), .mv (.t 5), none⟩,
    ⟨(some 21), .mv (.t 1), none⟩,
    ⟨(some 22), .idx 3 (.t 19) (.t 20), none⟩,
    ⟨(some 23), .fad 1 (.t 22), none⟩,
    ⟨none, .store 1 (.t 23) (.t 21), none⟩] []) (.seq (.reg [⟨(some 24), .mv (.t 1), none⟩,
    ⟨(some 25), .bin .add (.t 24) (.c (.i 1)), none⟩,
    ⟨(some 1), .mv (.t 25), none⟩] []) (.seq (.reg [⟨(some 26), .mv (.t 0), none⟩,
    ⟨(some 27), .mv (.t 5), none⟩,
    ⟨(some 28), .mv (.t 1), none⟩,
    ⟨(some 29), .idx 3 (.t 26) (.t 27), none⟩,
    ⟨(some 30), .fad 2 (.t 29), none⟩,
    ⟨none, .store 1 (.t 30) (.t 28), none⟩] []) (.reg [⟨(some 31), .mv (.t 1), none⟩,
    ⟨(some 32), .bin .add (.t 31) (.c (.i 1)), none⟩,
    ⟨(some 1), .mv (.t 32), none⟩] []))))))) (.reg [⟨(some 10), .mv (.t 5), none⟩,
    ⟨(some 11), .bin .add (.t 10) (.c (.i 1)), none⟩,
    ⟨(some 5), .mv (.t 11), none⟩] [])))
def A41M1R2 : ACode := (.seq (.reg [⟨(some 33), .mv (.t 1), none⟩,
    ⟨(some 4), .mv (.t 33), none⟩] []) .ret)
def A41M1 : ACode := (.seq (.reg [⟨(some 4), .mv (.c (.i 0)), none⟩] []) (.seqa (.reg [⟨(some 5), .mv (.c (.i 0)), none⟩] []) (.blk 0 (.loop A41M1L1)) [1] [1000000000] A41M1R2))
def V41M1 : List RV := [.t 4]
theorem m41M1 : mtcF Try.prog 41 2 A41M1 V41M1 = true := by kernel_rfl
def A23M1L1 : ACode := (.seq (.seq (.reg [⟨(some 6), .mv (.t 5), none⟩,
    ⟨(some 7), .mv (.t 0), none⟩,
    ⟨(some 8), .len (.t 7), none⟩,
    ⟨(some 9), .bin .lss (.t 6) (.t 8), none⟩] []) (.cond (.t 9) .skip (.exit 0))) (.seq (.blk 1 (.seq (.reg [⟨(some 12), .mv (.t 0), none⟩,
    ⟨(some 13), .mv (.t 5), none⟩,
    ⟨(some 14), .mv (.t 1), none⟩,
    ⟨(some 15), .idx 1 (.t 12) (.t 13), none⟩,
    ⟨none, .store 1 (.t 15) (.t 14), none⟩] []) (.reg [⟨(some 16), .mv (.t 1), none⟩,
    ⟨(some 17), .bin .add (.t 16) (.c (.i 1)), none⟩,
    ⟨(some 1), .mv (.t 17), none⟩] []))) (.reg [⟨(some 10), .mv (.t 5), none⟩,
    ⟨(some 11), .bin .add (.t 10) (.c (.i 1)), none⟩,
    ⟨(some 5), .mv (.t 11), none⟩] [])))
def A23M1R2 : ACode := (.seq (.reg [⟨(some 18), .mv (.t 1), none⟩,
    ⟨(some 4), .mv (.t 18), none⟩] []) .ret)
def A23M1 : ACode := (.seq (.reg [⟨(some 4), .mv (.c (.i 0)), none⟩] []) (.seqa (.reg [⟨(some 5), .mv (.c (.i 0)), none⟩] []) (.blk 0 (.loop A23M1L1)) [1] [1000000000] A23M1R2))
def V23M1 : List RV := [.t 4]
theorem m23M1 : mtcF Try.prog 23 2 A23M1 V23M1 = true := by kernel_rfl
def A42M1L1 : ACode := (.seq (.seq (.reg [⟨(some 6), .mv (.t 5), none⟩,
    ⟨(some 7), .mv (.t 0), none⟩,
    ⟨(some 8), .len (.t 7), none⟩,
    ⟨(some 9), .bin .lss (.t 6) (.t 8), none⟩] []) (.cond (.t 9) .skip (.exit 0))) (.seq (.blk 1 (.regh [⟨(some 12), .mv (.t 0), none⟩,
    ⟨(some 13), .mv (.t 5), none⟩,
    ⟨(some 14), .idx 1 (.t 12) (.t 13), none⟩] (.inn 15 1 1 (.t 14) [(16, (.t 1))] 17 23 [(.t 15), (.t 16)]) [⟨(some 1), .mv (.t 17), none⟩] [])) (.reg [⟨(some 10), .mv (.t 5), none⟩,
    ⟨(some 11), .bin .add (.t 10) (.c (.i 1)), none⟩,
    ⟨(some 5), .mv (.t 11), none⟩] [])))
def A42M1R2 : ACode := (.seq (.reg [⟨(some 18), .mv (.t 1), none⟩,
    ⟨(some 4), .mv (.t 18), none⟩] []) .ret)
def A42M1 : ACode := (.seq (.reg [⟨(some 4), .mv (.c (.i 0)), none⟩] []) (.seqa (.reg [⟨(some 5), .mv (.c (.i 0)), none⟩] []) (.blk 0 (.loop A42M1L1)) [1] [1000000000] A42M1R2))
def V42M1 : List RV := [.t 4]
theorem m42M1 : mtcF Try.prog 42 2 A42M1 V42M1 = true := by kernel_rfl
def A24L1 : ACode := (.seq (.seq (.reg [⟨(some 6), .mv (.t 5), none⟩,
    ⟨(some 7), .mv (.t 0), none⟩,
    ⟨(some 8), .len (.t 7), none⟩,
    ⟨(some 9), .bin .lss (.t 6) (.t 8), none⟩] []) (.cond (.t 9) .skip (.exit 0))) (.seq (.blk 1 (.seq (.seq (.reg [⟨(some 12), .mv (.t 0), none⟩,
    ⟨(some 13), .mv (.t 5), none⟩,
    ⟨(some 14), .idx 1 (.t 12) (.t 13), none⟩,
    ⟨(some 15), .load 1 false (.t 14), none⟩,
    ⟨(some 16), .mv (.t 1), none⟩,
    ⟨(some 17), .bin .neq (.t 15) (.t 16), none⟩] []) (.cond (.t 17) (.seq (.reg [⟨(some 4), .mv (.c (.i (-1))), none⟩] []) .ret) .skip)) (.reg [⟨(some 18), .mv (.t 1), none⟩,
    ⟨(some 19), .bin .add (.t 18) (.c (.i 1)), none⟩,
    ⟨(some 1), .mv (.t 19), none⟩] []))) (.reg [⟨(some 10), .mv (.t 5), none⟩,
    ⟨(some 11), .bin .add (.t 10) (.c (.i 1)), none⟩,
    ⟨(some 5), .mv (.t 11), none⟩] [])))
def A24R2 : ACode := (.seq (.reg [⟨(some 20), .mv (.t 1), none⟩,
    ⟨(some 4), .mv (.t 20), none⟩] []) .ret)
def A24 : ACode := (.seq (.reg [⟨(some 4), .mv (.c (.i 0)), none⟩] []) (.seqa (.reg [⟨(some 5), .mv (.c (.i 0)), none⟩] []) (.blk 0 (.loop A24L1)) [1] [] A24R2))
def V24 : List RV := [.t 4]
theorem m24 : mtcF Try.prog 24 2 A24 V24 = true := by kernel_rfl
def A48L1 : ACode := (.seq (.seq (.reg [⟨(some 6), .mv (.t 5), none⟩,
    ⟨(some 7), .mv (.t 0), none⟩,
    ⟨(some 8), .len (.t 7), none⟩,
    ⟨(some 9), .bin .lss (.t 6) (.t 8), none⟩] []) (.cond (.t 9) .skip (.exit 0))) (.seq (.blk 1 (.seq (.reg [⟨(some 12), .mv (.t 0), none⟩,
    ⟨(some 13), .mv (.t 5), none⟩,
    ⟨(some 14), .idx 1 (.t 12) (.t 13), none⟩,
    ⟨(some 15), .load 1 false (.t 14), none⟩,
    ⟨(some 16), .mv (.t 1), none⟩,
    ⟨(some 17), .call 24 [(.t 15), (.t 16)], none⟩,
    ⟨(some 1), .mv (.t 17), none⟩] []) (.seq (.reg [⟨(some 18), .mv (.t 1), none⟩,
    ⟨(some 19), .bin .lss (.t 18) (.c (.i 0)), none⟩] []) (.cond (.t 19) (.seq (.reg [⟨(some 4), .mv (.c (.i (-1))), none⟩] []) .ret) .skip)))) (.reg [⟨(some 10), .mv (.t 5), none⟩,
    ⟨(some 11), .bin .add (.t 10) (.c (.i 1)), none⟩,
    ⟨(some 5), .mv (.t 11), none⟩] [])))
def A48R2 : ACode := (.seq (.reg [⟨(some 20), .mv (.t 1), none⟩,
    ⟨(some 4), .mv (.t 20), none⟩] []) .ret)
def A48 : ACode := (.seq (.reg [⟨(some 4), .mv (.c (.i 0)), none⟩] []) (.seqa (.reg [⟨(some 5), .mv (.c (.i 0)), none⟩] []) (.blk 0 (.loop A48L1)) [1] [] A48R2))
def V48 : List RV := [.t 4]
theorem m48 : mtcF Try.prog 48 2 A48 V48 = true := by kernel_rfl
def A10R1 : ACode := (.cond (.t 68) (.seq (.reg [⟨(some 6), .mv (.c (.b false)), none⟩] []) .ret) .skip)
def A10R2 : ACode := (.cond (.t 103) (.seq (.reg [⟨(some 6), .mv (.c (.b false)), none⟩] []) .ret) .skip)
def A10R3 : ACode := (.cond (.t 147) (.seq (.reg [⟨(some 6), .mv (.c (.b false)), none⟩] []) .ret) .skip)
def A10 : ACode := (.seq (.reg [⟨(some 6), .mv (.c (.b false)), none⟩] []) (.seq (.reg [⟨(some 7), .mv (.c (.i 1048576)), none⟩] []) (.seq (.reg [⟨(some 22), .mv (.t 0), none⟩,
    ⟨(some 23), .mv (.t 7), none⟩,
    ⟨(some 24), .call 25 [(.t 22), (.t 23)], none⟩,
    ⟨(some 7), .mv (.t 24), none⟩] []) (.seq (.seq (.reg [⟨(some 25), .mv (.t 7), none⟩,
    ⟨(some 26), .bin .lss (.t 25) (.c (.i 0)), none⟩] []) (.cond (.t 26) (.seq (.reg [⟨(some 6), .mv (.c (.b true)), none⟩] []) .ret) .skip)) (.seq (.reg [⟨(some 27), .mv (.t 2), none⟩,
    ⟨(some 28), .mv (.t 7), none⟩,
    ⟨(some 29), .call 14 [(.t 27), (.t 28)], none⟩,
    ⟨(some 7), .mv (.t 29), none⟩] []) (.seq (.seq (.reg [⟨(some 30), .mv (.t 7), none⟩,
    ⟨(some 31), .bin .lss (.t 30) (.c (.i 0)), none⟩] []) (.cond (.t 31) (.seq (.reg [⟨(some 6), .mv (.c (.b true)), none⟩] []) .ret) .skip)) (.seq (.reg [⟨(some 33), .mv (.t 0), none⟩,
    ⟨(some 34), .call 27 [(.t 33)], none⟩,
    ⟨(some 35), .mv (.t 1), none⟩,
    ⟨(some 36), .mv (.t 2), none⟩,
    ⟨(some 37), .call 16 [(.t 36)], none⟩,
    ⟨(some 38), .call 46 [(.t 34), (.t 35), (.t 37)], none⟩,
    ⟨(some 32), .mv (.t 38), none⟩,
    ⟨(some 39), .ext (.t 32) 0, none⟩,
    ⟨(some 40), .ext (.t 32) 1, none⟩,
    ⟨(some 41), .ext (.t 32) 2, none⟩,
    ⟨(some 8), .mv (.t 39), none⟩,
    ⟨(some 9), .mv (.t 40), none⟩,
    ⟨(some 10), .mv (.t 41), none⟩] [8, 9]) (.seq (.reg [⟨(some 42), .mv (.t 0), none⟩,
    ⟨(some 43), .call 27 [(.t 42)], none⟩,
    ⟨(some 11), .mv (.t 43), none⟩] [11]) (.seq (.reg [⟨(some 44), .mv (.t 2), none⟩,
    ⟨(some 45), .call 16 [(.t 44)], none⟩,
    ⟨(some 12), .mv (.t 45), none⟩] [12]) (.seq (.reg [⟨(some 47), .mv (.t 11), none⟩,
    ⟨(some 48), .mv (.t 1), none⟩,
    ⟨(some 49), .mv (.t 12), none⟩,
    ⟨(some 50), .call 45 [(.t 47), (.t 48), (.t 49)], none⟩,
    ⟨(some 46), .mv (.t 50), none⟩,
    ⟨(some 51), .ext (.t 46) 0, none⟩,
    ⟨(some 52), .ext (.t 46) 1, none⟩,
    ⟨(some 53), .ext (.t 46) 2, none⟩,
    ⟨(some 13), .mv (.t 51), none⟩,
    ⟨(some 14), .mv (.t 52), none⟩,
    ⟨(some 15), .mv (.t 53), none⟩] [13, 14]) (.seq (.seqr (.reg [⟨(some 54), .mv (.t 13), none⟩,
    ⟨(some 55), .mv (.t 8), none⟩,
    ⟨(some 56), .call 40 [(.t 54), (.t 55)], none⟩,
    ⟨(some 57), .un .not (.t 56), none⟩,
    ⟨(some 58), .mv (.t 57), none⟩,
    ⟨(some 59), .mv (.t 14), (some (58, false))⟩,
    ⟨(some 60), .mv (.t 9), (some (58, false))⟩,
    ⟨(some 61), .call 22 [(.t 59), (.t 60)], (some (58, false))⟩,
    ⟨(some 62), .un .not (.t 61), (some (58, false))⟩,
    ⟨(some 63), .pick (.t 58) (.c (.b true)) (.t 62), none⟩,
    ⟨(some 64), .mv (.t 63), none⟩,
    ⟨(some 65), .mv (.t 15), (some (64, false))⟩,
    ⟨(some 66), .mv (.t 10), (some (64, false))⟩,
    ⟨(some 67), .beq true (.t 65) (.t 66), (some (64, false))⟩,
    ⟨(some 68), .pick (.t 64) (.c (.b true)) (.t 67), none⟩] []) [0, 1, 2, 8, 9, 10, 11, 12, 13, 14, 15, 68] [8, 9, 11, 12, 13, 14] A10R1) (.seq (.seq (.reg [⟨(some 69), .mv (.t 11), none⟩,
    ⟨(some 70), .mv (.t 0), none⟩,
    ⟨(some 71), .call 27 [(.t 70)], none⟩,
    ⟨(some 72), .call 30 [(.t 69), (.t 71)], none⟩,
    ⟨(some 73), .un .not (.t 72), none⟩] []) (.cond (.t 73) (.seq (.reg [⟨(some 6), .mv (.c (.b false)), none⟩] []) .ret) .skip)) (.seq (.seq (.reg [⟨(some 74), .mv (.t 12), none⟩,
    ⟨(some 75), .mv (.t 2), none⟩,
    ⟨(some 76), .call 16 [(.t 75)], none⟩,
    ⟨(some 77), .call 18 [(.t 74), (.t 76)], none⟩,
    ⟨(some 78), .un .not (.t 77), none⟩] []) (.cond (.t 78) (.seq (.reg [⟨(some 6), .mv (.c (.b false)), none⟩] []) .ret) .skip)) (.seq (.reg [⟨(some 16), .mv (.c (.i 1)), none⟩] []) (.seq (.reg [⟨(some 79), .mv (.t 11), none⟩,
    ⟨(some 80), .mv (.t 16), none⟩,
    ⟨(some 81), .callM 31 [(.t 79), (.t 80)] [11], none⟩,
    ⟨(some 16), .mv (.t 81), none⟩] []) (.seq (.reg [⟨(some 82), .mv (.t 12), none⟩,
    ⟨(some 83), .mv (.t 16), none⟩,
    ⟨(some 84), .callM 41 [(.t 82), (.t 83)] [12], none⟩,
    ⟨(some 16), .mv (.t 84), none⟩] []) (.seq (.seqr (.reg [⟨(some 85), .mv (.t 16), none⟩,
    ⟨(some 86), .bin .lss (.t 85) (.c (.i 0)), none⟩,
    ⟨(some 87), .mv (.t 86), none⟩,
    ⟨(some 88), .mv (.t 13), (some (87, false))⟩,
    ⟨(some 89), .mv (.t 8), (some (87, false))⟩,
    ⟨(some 90), .call 40 [(.t 88), (.t 89)], (some (87, false))⟩,
    ⟨(some 91), .un .not (.t 90), (some (87, false))⟩,
    ⟨(some 92), .pick (.t 87) (.c (.b true)) (.t 91), none⟩,
    ⟨(some 93), .mv (.t 92), none⟩,
    ⟨(some 94), .mv (.t 14), (some (93, false))⟩,
    ⟨(some 95), .mv (.t 9), (some (93, false))⟩,
    ⟨(some 96), .call 22 [(.t 94), (.t 95)], (some (93, false))⟩,
    ⟨(some 97), .un .not (.t 96), (some (93, false))⟩,
    ⟨(some 98), .pick (.t 93) (.c (.b true)) (.t 97), none⟩,
    ⟨(some 99), .mv (.t 98), none⟩,
    ⟨(some 100), .mv (.t 15), (some (99, false))⟩,
    ⟨(some 101), .mv (.t 10), (some (99, false))⟩,
    ⟨(some 102), .beq true (.t 100) (.t 101), (some (99, false))⟩,
    ⟨(some 103), .pick (.t 99) (.c (.b true)) (.t 102), none⟩] []) [0, 1, 2, 8, 9, 10, 13, 14, 103] [8, 9, 13, 14] A10R2) (.seq (.reg [⟨(some 17), .mv (.c (.i 1)), none⟩] []) (.seq (.regh [⟨(some 104), .mv (.t 13), none⟩,
    ⟨(some 105), .mv (.t 17), none⟩] (.har 106 42 [(.t 104), (.t 105)] [13]) [⟨(some 17), .mv (.t 106), none⟩] []) (.seq (.reg [⟨(some 107), .mv (.t 14), none⟩,
    ⟨(some 108), .mv (.t 17), none⟩,
    ⟨(some 109), .callM 23 [(.t 107), (.t 108)] [14], none⟩,
    ⟨(some 17), .mv (.t 109), none⟩] []) (.seq (.reg [⟨(some 18), .mv (.c (.i 1)), none⟩] []) (.seq (.reg [⟨(some 110), .mv (.t 13), none⟩,
    ⟨(some 111), .mv (.t 18), none⟩,
    ⟨(some 112), .call 48 [(.t 110), (.t 111)], none⟩,
    ⟨(some 18), .mv (.t 112), none⟩] []) (.seq (.seq (.reg [⟨(some 113), .mv (.t 18), none⟩,
    ⟨(some 114), .bin .lss (.t 113) (.c (.i 0)), none⟩] []) (.cond (.t 114) (.seq (.reg [⟨(some 6), .mv (.c (.b false)), none⟩] []) .ret) .skip)) (.seq (.reg [⟨(some 115), .mv (.t 14), none⟩,
    ⟨(some 116), .mv (.t 18), none⟩,
    ⟨(some 117), .call 24 [(.t 115), (.t 116)], none⟩,
    ⟨(some 18), .mv (.t 117), none⟩] []) (.seq (.seq (.reg [⟨(some 118), .mv (.t 18), none⟩,
    ⟨(some 119), .bin .lss (.t 118) (.c (.i 0)), none⟩] []) (.cond (.t 119) (.seq (.reg [⟨(some 6), .mv (.c (.b false)), none⟩] []) .ret) .skip)) (.seq (.seq (.reg [⟨(some 120), .mv (.t 18), none⟩,
    ⟨(some 121), .mv (.t 17), none⟩,
    ⟨(some 122), .bin .neq (.t 120) (.t 121), none⟩] []) (.cond (.t 122) (.seq (.reg [⟨(some 6), .mv (.c (.b false)), none⟩] []) .ret) .skip)) (.seq (.reg [⟨(some 124), .mv (.t 0), none⟩,
    ⟨(some 125), .call 27 [(.t 124)], none⟩,
    ⟨(some 126), .mv (.t 1), none⟩,
    ⟨(some 127), .mv (.t 2), none⟩,
    ⟨(some 128), .call 16 [(.t 127)], none⟩,
    ⟨(some 129), .call 45 [(.t 125), (.t 126), (.t 128)], none⟩,
    ⟨(some 123), .mv (.t 129), none⟩,
    ⟨(some 130), .ext (.t 123) 0, none⟩,
    ⟨(some 131), .ext (.t 123) 1, none⟩,
    ⟨(some 132), .ext (.t 123) 2, none⟩,
    ⟨(some 19), .mv (.t 130), none⟩,
    ⟨(some 20), .mv (.t 131), none⟩,
    ⟨(some 21), .mv (.t 132), none⟩] [19, 20]) (.seq (.seqr (.reg [⟨(some 133), .mv (.t 19), none⟩,
    ⟨(some 134), .mv (.t 8), none⟩,
    ⟨(some 135), .call 40 [(.t 133), (.t 134)], none⟩,
    ⟨(some 136), .un .not (.t 135), none⟩,
    ⟨(some 137), .mv (.t 136), none⟩,
    ⟨(some 138), .mv (.t 20), (some (137, false))⟩,
    ⟨(some 139), .mv (.t 9), (some (137, false))⟩,
    ⟨(some 140), .call 22 [(.t 138), (.t 139)], (some (137, false))⟩,
    ⟨(some 141), .un .not (.t 140), (some (137, false))⟩,
    ⟨(some 142), .pick (.t 137) (.c (.b true)) (.t 141), none⟩,
    ⟨(some 143), .mv (.t 142), none⟩,
    ⟨(some 144), .mv (.t 21), (some (143, false))⟩,
    ⟨(some 145), .mv (.t 10), (some (143, false))⟩,
    ⟨(some 146), .beq true (.t 144) (.t 145), (some (143, false))⟩,
    ⟨(some 147), .pick (.t 143) (.c (.b true)) (.t 146), none⟩] []) [13, 14, 17, 147] [13, 14] A10R3) (.seq (.reg [⟨(some 18), .mv (.c (.i 1)), none⟩] []) (.seq (.reg [⟨(some 148), .mv (.t 13), none⟩,
    ⟨(some 149), .mv (.t 18), none⟩,
    ⟨(some 150), .call 48 [(.t 148), (.t 149)], none⟩,
    ⟨(some 18), .mv (.t 150), none⟩] []) (.seq (.seq (.reg [⟨(some 151), .mv (.t 18), none⟩,
    ⟨(some 152), .bin .lss (.t 151) (.c (.i 0)), none⟩] []) (.cond (.t 152) (.seq (.reg [⟨(some 6), .mv (.c (.b false)), none⟩] []) .ret) .skip)) (.seq (.reg [⟨(some 153), .mv (.t 14), none⟩,
    ⟨(some 154), .mv (.t 18), none⟩,
    ⟨(some 155), .call 24 [(.t 153), (.t 154)], none⟩,
    ⟨(some 18), .mv (.t 155), none⟩] []) (.seq (.seq (.reg [⟨(some 156), .mv (.t 18), none⟩,
    ⟨(some 157), .bin .lss (.t 156) (.c (.i 0)), none⟩] []) (.cond (.t 157) (.seq (.reg [⟨(some 6), .mv (.c (.b false)), none⟩] []) .ret) .skip)) (.seq (.seq (.reg [⟨(some 158), .mv (.t 18), none⟩,
    ⟨(some 159), .mv (.t 17), none⟩,
    ⟨(some 160), .bin .neq (.t 158) (.t 159), none⟩] []) (.cond (.t 160) (.seq (.reg [⟨(some 6), .mv (.c (.b false)), none⟩] []) .ret) .skip)) (.seq (.reg [⟨(some 6), .mv (.c (.b true)), none⟩] []) .ret)))))))))))))))))))))))))))))))))))
def V10 : List RV := [.t 6]
theorem m10 : mtcF Try.prog 10 3 A10 V10 = true := by kernel_rfl
end Vs

