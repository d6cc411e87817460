/- Machine side of the laws of this seat: for each Go function that they reach, a Lean function and the proof that a call comes to just its answer. Written by a program of this session. -/
import Derived.Test.YtgfilbgjnloopaaGe6
namespace Go.Proofs.Ytgfilbgjnloopaa.fnExactAlgebraTakes
open Go.ChangeShapes Go.WideShapes Go.ChangeAt Go.RowKit Go.Proofs.YtgfilbgjnloopaaW.PrintWords Go.Proofs.YtgfilbgjnloopaaW.PrintLast Go.Proofs.Ytgfilbgjnloopaa.P
open Go.ChangeMaps (open_string shut_string)
set_option linter.unusedVariables false
theorem over : Rows.fnExactAlgebraTakesRow.holds Try.pinned (OpenSpec.ofChange Rows.fnExactAlgebraTakesSpec) :=
  OpenClaim.holds_of_wide 6 Try.f6 rfl rfl rfl rfl rfl rfl rfl ⟨rfl, rfl, rfl, rfl, rfl⟩ rfl rfl rfl rfl rfl (by kernel_rfl) Try.func6 (by kernel_rfl)
    (of_decide_eq_true (by kernel_rfl)) (by unfold Func.isWrapper; first | (rw [if_pos (by decide +kernel)]; kernel_rfl) | (rw [if_neg (by decide +kernel)]; exact ⟨rfl, rfl⟩))
    (fun os started H enc _ => lifted os started H enc)
theorem proved : Rows.FnExactAlgebraTakesSaid := over
#print axioms proved
end Go.Proofs.Ytgfilbgjnloopaa.fnExactAlgebraTakes
namespace Go.Proofs.Ytgfilbgjnloopaa
/-- The row, under a short name, for the claim. -/
theorem fnExactAlgebraTakes_holds : Rows.FnExactAlgebraTakesSaid := fnExactAlgebraTakes.proved
end Go.Proofs.Ytgfilbgjnloopaa
