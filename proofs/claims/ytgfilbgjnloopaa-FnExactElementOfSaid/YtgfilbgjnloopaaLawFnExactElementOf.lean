/- Machine side of the laws of this seat: for each Go function that they reach, a Lean function and the proof that a call comes to just its answer. Written by a program of this session. -/
import Derived.Test.YtgfilbgjnloopaaGd6
namespace Go.Proofs.Ytgfilbgjnloopaa.fnExactElementOf
open Go.ChangeShapes Go.WideShapes Go.ChangeAt Go.RowKit Go.Proofs.YtgfilbgjnloopaaW.PrintWords Go.Proofs.YtgfilbgjnloopaaW.PrintLast Go.Proofs.Ytgfilbgjnloopaa.P
open Go.ChangeMaps (open_string shut_string)
set_option linter.unusedVariables false
theorem over : Rows.fnExactElementOfRow.holds Try.pinned (OpenSpec.ofChange Rows.fnExactElementOfSpec) :=
  OpenClaim.holds_of_wide 5 Try.f5 rfl rfl rfl rfl rfl rfl rfl ⟨rfl, rfl, rfl, rfl, rfl⟩ rfl rfl rfl rfl rfl (by kernel_rfl) Try.func5 (by kernel_rfl)
    (of_decide_eq_true (by kernel_rfl)) (by unfold Func.isWrapper; first | (rw [if_pos (by decide +kernel)]; kernel_rfl) | (rw [if_neg (by decide +kernel)]; exact ⟨rfl, rfl⟩))
    (fun os started H enc _ => lifted os started H enc)
theorem proved : Rows.FnExactElementOfSaid := over
#print axioms proved
end Go.Proofs.Ytgfilbgjnloopaa.fnExactElementOf
namespace Go.Proofs.Ytgfilbgjnloopaa
/-- The row, under a short name, for the claim. -/
theorem fnExactElementOf_holds : Rows.FnExactElementOfSaid := fnExactElementOf.proved
end Go.Proofs.Ytgfilbgjnloopaa
