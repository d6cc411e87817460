/- Machine side of the laws of this seat: for each Go function that they reach, a Lean function and the proof that a call comes to just its answer. Written by a program of this session. -/
import Derived.Test.YtepkfigcnnfoaaaOa6
namespace Go.Proofs.Ytepkfigcnnfoaaa.fnExactOppositeChecker
open Go.ChangeShapes Go.WideShapes Go.ChangeAt Go.RowKit Go.Proofs.YtepkfigcnnfoaaaW.PrintWords Go.Proofs.YtepkfigcnnfoaaaW.PrintLast Go.Proofs.Ytepkfigcnnfoaaa.P
open Go.ChangeMaps (open_string shut_string)
set_option linter.unusedVariables false
theorem over : Rows.fnExactOppositeCheckerRow.holds Try.pinned (OpenSpec.ofChange Rows.fnExactOppositeCheckerSpec) :=
  OpenClaim.holds_of_wide 7 Try.f7 rfl rfl rfl rfl rfl rfl rfl ⟨rfl, rfl, rfl, rfl, rfl⟩ rfl rfl rfl rfl rfl (by kernel_rfl) Try.func7 (by kernel_rfl)
    (of_decide_eq_true (by kernel_rfl)) (by unfold Func.isWrapper; first | (rw [if_pos (by decide +kernel)]; kernel_rfl) | (rw [if_neg (by decide +kernel)]; exact ⟨rfl, rfl⟩))
    (fun os started H enc _ => lifted os started H enc)
theorem proved : Rows.FnExactOppositeCheckerSaid := over
#print axioms proved
end Go.Proofs.Ytepkfigcnnfoaaa.fnExactOppositeChecker
namespace Go.Proofs.Ytepkfigcnnfoaaa
/-- The row, under a short name, for the claim. -/
theorem fnExactOppositeChecker_holds : Rows.FnExactOppositeCheckerSaid := fnExactOppositeChecker.proved
end Go.Proofs.Ytepkfigcnnfoaaa
