/- Machine side of the laws of this seat: for each Go function that they reach, a Lean function and the proof that a call comes to just its answer. Written by a program of this session. -/
import Derived.Test.YteeplponconnjaaGb3
namespace Go.Proofs.Yteeplponconnjaa.fnExactAnswersOf
open Go.ChangeShapes Go.WideShapes Go.ChangeAt Go.RowKit Go.Proofs.YteeplponconnjaaW.PrintWords Go.Proofs.YteeplponconnjaaW.PrintLast Go.Proofs.Yteeplponconnjaa.P
open Go.ChangeMaps (open_string shut_string)
set_option linter.unusedVariables false
theorem over : Rows.fnExactAnswersOfRow.holds Try.pinned (OpenSpec.ofChange Rows.fnExactAnswersOfSpec) :=
  OpenClaim.holds_of_wide 4 Try.f4 rfl rfl rfl rfl rfl rfl rfl ⟨rfl, rfl, rfl, rfl, rfl⟩ rfl rfl rfl rfl rfl (by kernel_rfl) Try.func4 (by kernel_rfl)
    (of_decide_eq_true (by kernel_rfl)) (by unfold Func.isWrapper; first | (rw [if_pos (by decide +kernel)]; kernel_rfl) | (rw [if_neg (by decide +kernel)]; exact ⟨rfl, rfl⟩))
    (fun os started H enc _ => lifted os started H enc)
theorem proved : Rows.FnExactAnswersOfSaid := over
#print axioms proved
end Go.Proofs.Yteeplponconnjaa.fnExactAnswersOf
namespace Go.Proofs.Yteeplponconnjaa
/-- The row, under a short name, for the claim. -/
theorem fnExactAnswersOf_holds : Rows.FnExactAnswersOfSaid := fnExactAnswersOf.proved
end Go.Proofs.Yteeplponconnjaa
