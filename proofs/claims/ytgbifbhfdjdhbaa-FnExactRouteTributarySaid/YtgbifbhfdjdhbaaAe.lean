/-
  Part of the proof that the law FnExactRouteTributary returns true at every input; no condition beside the row's own.
-/
import Derived.Test.YtgbifbhfdjdhbaaAd
import Derived.Test.YtgbifbhfdjdhbaaAc
import Derived.Test.YtgbifbhfdjdhbaaRows
import Derived.WalkKit
import Derived.ProofKit
import Derived.OpenShut
import Derived.JoinedCond
set_option linter.unusedSimpArgs false
set_option linter.unusedVariables false
namespace Vs
open Go Go.Proofs
theorem ok5 (ys : List AV) (h : FitsAll [(false, [.sl true [.int .i64, .int .i64, .int .i64]]), (false, [.sl false [.int .i64]]), (false, [.int .i64]), (true, [.int .i64, .int .i64, .int .i64])] ys) : Ok Try.prog 5 ys (.b true) := by
  match ys, h with
  | [a, b, c, d], ⟨h1, h2, h3, h4, _⟩ =>
    obtain ⟨ls, rfl, hl⟩ := rec3 (e_TLink .o) (fun a b c => ⟨a, b, c⟩) (fun _ _ _ => rfl) h1
    obtain ⟨fs, rfl, hf⟩ := ints h2
    obtain ⟨n, rfl⟩ := int1 h3
    obtain ⟨t, rfl⟩ := one3 (e_TTributary .o) (fun a b c => ⟨a, b, c⟩) (fun _ _ _ => rfl) h4
    exact w_laws_FnExactRouteTributary ls fs n t (p_FnExactRouteTributary ls fs n t (by simpa [maxLen] using hl) (by simpa [maxLen] using hf))
end Vs
namespace Go.Proofs.Ytgbifbhfdjdhbaa.fnExactRouteTributary
open Go.ChangeShapes Go.WideShapes Go.ChangeAt Go.RowKit
theorem own : ownKnob Try.prog.godebug = none := by kernel_rfl
set_option maxRecDepth 100000 in
theorem lifted (os : Os) (started : os.Started) (H : Type) (enc : TypeId × Value → H) :
    ReturnsInHanded {} Try.checked os 5 .any (Rows.fnExactRouteTributarySpec.pre6 enc Try.prog Try.f5 Rows.fnExactRouteTributaryRow.domain false) (Rows.fnExactRouteTributarySpec.post enc Try.prog Try.f5 false true false false) := by
  refine returnsInHanded_of_change (C := Try.checked) own started (by kernel_rfl) Try.func5
    (ChangeSpec.witness6 (enc := enc) (C := Try.checked) false ⟨#[], #[.slice none 0 0, .slice none 0 0, .int .i64 0, .agg #[.int .i64 0, .int .i64 0, .int .i64 0]], []⟩ 8 (by kernel_rfl) (by kernel_rfl) (by kernel_rfl) (by kernel_rfl)) ?_
  intro W base args ds gs before hval hW _ _
  exact Vs.law_calls (k := 8) (ss := [(false, [.sl true [.int .i64, .int .i64, .int .i64]]), (false, [.sl false [.int .i64]]), (false, [.int .i64]), (true, [.int .i64, .int .i64, .int .i64])]) rfl (fun ds h => by
    match ds, h with
    | [d1, d2, d3, d4], _ => rfl) rfl (by kernel_rfl) (by kernel_rfl) Vs.ok5 hval hW
theorem over : Rows.fnExactRouteTributaryRow.holds Try.pinned (OpenSpec.ofChange Rows.fnExactRouteTributarySpec) :=
  OpenClaim.holds_of_wide 5 Try.f5 rfl rfl rfl rfl rfl rfl rfl ⟨rfl, rfl, rfl, rfl, rfl⟩ rfl rfl rfl rfl rfl (by kernel_rfl) Try.func5 (by kernel_rfl)
    (of_decide_eq_true (by kernel_rfl)) (by unfold Func.isWrapper; first | (rw [if_pos (by decide +kernel)]; kernel_rfl) | (rw [if_neg (by decide +kernel)]; exact ⟨rfl, rfl⟩))
    (fun os started H enc _ => lifted os started H enc)
theorem proved : Rows.FnExactRouteTributarySaid := over
end Go.Proofs.Ytgbifbhfdjdhbaa.fnExactRouteTributary


