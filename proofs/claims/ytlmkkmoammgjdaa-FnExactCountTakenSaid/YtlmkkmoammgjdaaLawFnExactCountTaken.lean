/- Machine side of the laws of this seat: for each Go function that they reach, a Lean function and the proof that a call comes to just its answer. Written by a program of this session. -/
import Derived.Test.YtlmkkmoammgjdaaHa4
namespace Go.Proofs.Ytlmkkmoammgjdaa.fnExactCountTaken
open Go.ChangeShapes Go.WideShapes Go.ChangeAt Go.RowKit Go.Proofs.YtlmkkmoammgjdaaW.PrintWords Go.Proofs.YtlmkkmoammgjdaaW.PrintLast Go.Proofs.Ytlmkkmoammgjdaa.P
open Go.ChangeMaps (open_string shut_string)
set_option linter.unusedVariables false
theorem over : Rows.fnExactCountTakenRow.holds Try.pinned (OpenSpec.ofChange Rows.fnExactCountTakenSpec) :=
  OpenClaim.holds_of_wide 4 Try.f4 rfl rfl rfl rfl rfl rfl rfl ⟨rfl, rfl, rfl, rfl, rfl⟩ rfl rfl rfl rfl rfl (by kernel_rfl) Try.func4 (by kernel_rfl)
    (of_decide_eq_true (by kernel_rfl)) (by unfold Func.isWrapper; first | (rw [if_pos (by decide +kernel)]; kernel_rfl) | (rw [if_neg (by decide +kernel)]; exact ⟨rfl, rfl⟩))
    (fun os started H enc _ => lifted os started H enc)
theorem proved : Rows.FnExactCountTakenSaid := over
#print axioms proved
end Go.Proofs.Ytlmkkmoammgjdaa.fnExactCountTaken
namespace Go.Proofs.Ytlmkkmoammgjdaa
/-- The row, under a short name, for the claim. -/
theorem fnExactCountTaken_holds : Rows.FnExactCountTakenSaid := fnExactCountTaken.proved
end Go.Proofs.Ytlmkkmoammgjdaa
