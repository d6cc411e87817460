/- Machine side of the laws of this seat: for each Go function that they reach, a Lean function and the proof that a call comes to just its answer. Written by a program of this session. -/
import Derived.Test.YtcoaplkoilhhbaaOa5
namespace Go.Proofs.Ytcoaplkoilhhbaa.fnExactValidChoices
open Go.ChangeShapes Go.WideShapes Go.ChangeAt Go.RowKit Go.Proofs.YtcoaplkoilhhbaaW.PrintWords Go.Proofs.YtcoaplkoilhhbaaW.PrintLast Go.Proofs.Ytcoaplkoilhhbaa.P
open Go.ChangeMaps (open_string shut_string)
set_option linter.unusedVariables false
theorem over : Rows.fnExactValidChoicesRow.holds Try.pinned (OpenSpec.ofChange Rows.fnExactValidChoicesSpec) :=
  OpenClaim.holds_of_wide 3 Try.f3 rfl rfl rfl rfl rfl rfl rfl ⟨rfl, rfl, rfl, rfl, rfl⟩ rfl rfl rfl rfl rfl (by kernel_rfl) Try.func3 (by kernel_rfl)
    (of_decide_eq_true (by kernel_rfl)) (by unfold Func.isWrapper; first | (rw [if_pos (by decide +kernel)]; kernel_rfl) | (rw [if_neg (by decide +kernel)]; exact ⟨rfl, rfl⟩))
    (fun os started H enc _ => lifted os started H enc)
theorem proved : Rows.FnExactValidChoicesSaid := over
#print axioms proved
end Go.Proofs.Ytcoaplkoilhhbaa.fnExactValidChoices
namespace Go.Proofs.Ytcoaplkoilhhbaa
/-- The row, under a short name, for the claim. -/
theorem fnExactValidChoices_holds : Rows.FnExactValidChoicesSaid := fnExactValidChoices.proved
end Go.Proofs.Ytcoaplkoilhhbaa
