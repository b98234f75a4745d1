/-
  Part of the proof that the law FnExactPackInOrder returns true at every input; no condition beside the row's own.
-/
import Derived.Test.YtgbifbhfdjdhbaaAc
import Derived.Test.YtgbifbhfdjdhbaaAb
import Derived.Test.YtgbifbhfdjdhbaaRows
import Derived.WalkKit
import Derived.ProofKit
import Derived.OpenShut
import Derived.JoinedCond
set_option linter.unusedSimpArgs false
set_option linter.unusedVariables false
namespace Vs
open Go Go.Proofs
theorem ok4 (ys : List AV) (h : FitsAll [(false, [.sl false [.int .i64]]), (false, [.int .i64])] ys) : Ok Try.prog 4 ys (.b true) := by
  match ys, h with
  | [a, b], ⟨h1, h2, _⟩ =>
    obtain ⟨xs, rfl, hl⟩ := ints h1
    obtain ⟨n, rfl⟩ := int1 h2
    exact w_laws_FnExactPackInOrder xs n (p_FnExactPackInOrder xs n (by simpa [maxLen] using hl))
end Vs
namespace Go.Proofs.Ytgbifbhfdjdhbaa.fnExactPackInOrder
open Go.ChangeShapes Go.WideShapes Go.ChangeAt Go.RowKit
theorem own : ownKnob Try.prog.godebug = none := by kernel_rfl
set_option maxRecDepth 100000 in
theorem lifted (os : Os) (started : os.Started) (H : Type) (enc : TypeId × Value → H) :
    ReturnsInHanded {} Try.checked os 4 .any (Rows.fnExactPackInOrderSpec.pre6 enc Try.prog Try.f4 Rows.fnExactPackInOrderRow.domain false) (Rows.fnExactPackInOrderSpec.post enc Try.prog Try.f4 false true false false) := by
  refine returnsInHanded_of_change (C := Try.checked) own started (by kernel_rfl) Try.func4
    (ChangeSpec.witness6 (enc := enc) (C := Try.checked) false ⟨#[], #[.slice none 0 0, .int .i64 0], []⟩ 8 (by kernel_rfl) (by kernel_rfl) (by kernel_rfl) (by kernel_rfl)) ?_
  intro W base args ds gs before hval hW _ _
  exact Vs.law_calls (k := 8) (ss := [(false, [.sl false [.int .i64]]), (false, [.int .i64])]) rfl (fun ds h => by
    match ds, h with
    | [d1, d2], _ => rfl) rfl (by kernel_rfl) (by kernel_rfl) Vs.ok4 hval hW
theorem over : Rows.fnExactPackInOrderRow.holds Try.pinned (OpenSpec.ofChange Rows.fnExactPackInOrderSpec) :=
  OpenClaim.holds_of_wide 4 Try.f4 rfl rfl rfl rfl rfl rfl rfl ⟨rfl, rfl, rfl, rfl, rfl⟩ rfl rfl rfl rfl rfl (by kernel_rfl) Try.func4 (by kernel_rfl)
    (of_decide_eq_true (by kernel_rfl)) (by unfold Func.isWrapper; first | (rw [if_pos (by decide +kernel)]; kernel_rfl) | (rw [if_neg (by decide +kernel)]; exact ⟨rfl, rfl⟩))
    (fun os started H enc _ => lifted os started H enc)
theorem proved : Rows.FnExactPackInOrderSaid := over
end Go.Proofs.Ytgbifbhfdjdhbaa.fnExactPackInOrder


