/-
  Part of the proof that the law FnExactGroomAll returns true at every input; no condition beside the row's own.
-/
import Derived.Test.YtgbifbhfdjdhbaaAc
import Derived.Test.YtgbifbhfdjdhbaaAb
import Derived.Test.YtgbifbhfdjdhbaaRows
import Derived.WalkKit
import Derived.ProofKit
import Derived.OpenShut
import Derived.JoinedCond
set_option linter.unusedSimpArgs false
set_option linter.unusedVariables false
namespace Vs
open Go Go.Proofs
theorem fl_LinkS {a : AV} (h : Fits (.sl true [.int .i64, .int .i64, .int .i64]) a) : ∃ xs : List TLink, a = .lst .o 3 (xs.map (e_TLink .o)) ∧ ok_LinkS xs := by
  obtain ⟨xs, rfl, hl, hx⟩ := h
  obtain ⟨ts, rfl, ht⟩ := exists_map ((e_TLink .o)) (fun _ => True) xs fun x hxm => by
    obtain ⟨cs, rfl, hc⟩ := (hx x hxm).1 rfl
    obtain ⟨_, _, rfl, f1, hc⟩ := FitsL_cons hc
    obtain ⟨_, _, rfl, f2, hc⟩ := FitsL_cons hc
    obtain ⟨_, _, rfl, f3, hc⟩ := FitsL_cons hc
    obtain rfl := FitsL_nil hc
    obtain ⟨n4, rfl, _⟩ := Fits_i64 f1
    obtain ⟨n5, rfl, _⟩ := Fits_i64 f2
    obtain ⟨n6, rfl, _⟩ := Fits_i64 f3
    exact ⟨⟨n4, n5, n6⟩, rfl, trivial⟩
  rw [List.length_map] at hl
  exact ⟨ts, rfl, by simpa [maxLen, ok_LinkS] using hl⟩
theorem fl_TributaryS {a : AV} (h : Fits (.sl true [.int .i64, .int .i64, .int .i64]) a) : ∃ xs : List TTributary, a = .lst .o 3 (xs.map (e_TTributary .o)) ∧ ok_TributaryS xs := by
  obtain ⟨xs, rfl, hl, hx⟩ := h
  obtain ⟨ts, rfl, ht⟩ := exists_map ((e_TTributary .o)) (fun _ => True) xs fun x hxm => by
    obtain ⟨cs, rfl, hc⟩ := (hx x hxm).1 rfl
    obtain ⟨_, _, rfl, f7, hc⟩ := FitsL_cons hc
    obtain ⟨_, _, rfl, f8, hc⟩ := FitsL_cons hc
    obtain ⟨_, _, rfl, f9, hc⟩ := FitsL_cons hc
    obtain rfl := FitsL_nil hc
    obtain ⟨n10, rfl, _⟩ := Fits_i64 f7
    obtain ⟨n11, rfl, _⟩ := Fits_i64 f8
    obtain ⟨n12, rfl, _⟩ := Fits_i64 f9
    exact ⟨⟨n10, n11, n12⟩, rfl, trivial⟩
  rw [List.length_map] at hl
  exact ⟨ts, rfl, by simpa [maxLen, ok_TributaryS] using hl⟩
theorem ok10 (ys : List AV) (h : FitsAll [(false, [.sl true [.int .i64, .int .i64, .int .i64]]), (false, [.int .i64]), (false, [.sl true [.int .i64, .int .i64, .int .i64]])] ys) : Ok Try.prog 10 ys (.b true) := by
  match ys, h with
  | [a1, a2, a3], ⟨h1, h2, h3, _⟩ =>
    obtain ⟨x1, rfl, o1⟩ := fl_LinkS (h1.2 rfl).1
    obtain ⟨x2, rfl⟩ := int1 h2
    obtain ⟨x3, rfl, o3⟩ := fl_TributaryS (h3.2 rfl).1
    exact w_laws_FnExactGroomAll x1 x2 x3 (p_FnExactGroomAll x1 x2 x3 o1 o3)
end Vs
namespace Go.Proofs.Ytgbifbhfdjdhbaa.fnExactGroomAll
open Go.ChangeShapes Go.WideShapes Go.ChangeAt Go.RowKit
theorem own : ownKnob Try.prog.godebug = none := by kernel_rfl
set_option maxRecDepth 100000 in
theorem lifted (os : Os) (started : os.Started) (H : Type) (enc : TypeId × Value → H) :
    ReturnsInHanded {} Try.checked os 10 .any (Rows.fnExactGroomAllSpec.pre6 enc Try.prog Try.f10 Rows.fnExactGroomAllRow.domain false) (Rows.fnExactGroomAllSpec.post enc Try.prog Try.f10 false true false false) := by
  refine returnsInHanded_of_change (C := Try.checked) own started (by kernel_rfl) Try.func10
    (ChangeSpec.witness6 (enc := enc) (C := Try.checked) false ⟨#[], #[.slice none 0 0, .int .i64 0, .slice none 0 0], []⟩ 8 (by kernel_rfl) (by kernel_rfl) (by kernel_rfl) (by kernel_rfl)) ?_
  intro W base args ds gs before hval hW _ _
  exact Vs.law_calls (k := 40) (ss := [(false, [.sl true [.int .i64, .int .i64, .int .i64]]), (false, [.int .i64]), (false, [.sl true [.int .i64, .int .i64, .int .i64]])]) rfl (fun ds h => by
    match ds, h with
    | [d1, d2, d3], _ => rfl) rfl (by kernel_rfl) (by kernel_rfl) Vs.ok10 hval hW
theorem over : Rows.fnExactGroomAllRow.holds Try.pinned (OpenSpec.ofChange Rows.fnExactGroomAllSpec) :=
  OpenClaim.holds_of_wide 10 Try.f10 rfl rfl rfl rfl rfl rfl rfl ⟨rfl, rfl, rfl, rfl, rfl⟩ rfl rfl rfl rfl rfl (by kernel_rfl) Try.func10 (by kernel_rfl)
    (of_decide_eq_true (by kernel_rfl)) (by unfold Func.isWrapper; first | (rw [if_pos (by decide +kernel)]; kernel_rfl) | (rw [if_neg (by decide +kernel)]; exact ⟨rfl, rfl⟩))
    (fun os started H enc _ => lifted os started H enc)
theorem proved : Rows.FnExactGroomAllSaid := over
end Go.Proofs.Ytgbifbhfdjdhbaa.fnExactGroomAll


