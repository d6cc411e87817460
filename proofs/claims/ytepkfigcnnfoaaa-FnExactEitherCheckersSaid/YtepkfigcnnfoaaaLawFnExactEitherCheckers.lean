/- Machine side of the laws of this seat: for each Go function that they reach, a Lean function and the proof that a call comes to just its answer. Written by a program of this session. -/
import Derived.Test.YtepkfigcnnfoaaaOe5
namespace Go.Proofs.Ytepkfigcnnfoaaa.fnExactEitherCheckers
open Go.ChangeShapes Go.WideShapes Go.ChangeAt Go.RowKit Go.Proofs.YtepkfigcnnfoaaaW.PrintWords Go.Proofs.YtepkfigcnnfoaaaW.PrintLast Go.Proofs.Ytepkfigcnnfoaaa.P
open Go.ChangeMaps (open_string shut_string)
set_option linter.unusedVariables false
theorem over : Rows.fnExactEitherCheckersRow.holds Try.pinned (OpenSpec.ofChange Rows.fnExactEitherCheckersSpec) :=
  OpenClaim.holds_of_wide 9 Try.f9 rfl rfl rfl rfl rfl rfl rfl ⟨rfl, rfl, rfl, rfl, rfl⟩ rfl rfl rfl rfl rfl (by kernel_rfl) Try.func9 (by kernel_rfl)
    (of_decide_eq_true (by kernel_rfl)) (by unfold Func.isWrapper; first | (rw [if_pos (by decide +kernel)]; kernel_rfl) | (rw [if_neg (by decide +kernel)]; exact ⟨rfl, rfl⟩))
    (fun os started H enc _ => lifted os started H enc)
theorem proved : Rows.FnExactEitherCheckersSaid := over
#print axioms proved
end Go.Proofs.Ytepkfigcnnfoaaa.fnExactEitherCheckers
namespace Go.Proofs.Ytepkfigcnnfoaaa
/-- The row, under a short name, for the claim. -/
theorem fnExactEitherCheckers_holds : Rows.FnExactEitherCheckersSaid := fnExactEitherCheckers.proved
end Go.Proofs.Ytepkfigcnnfoaaa
