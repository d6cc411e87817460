/- Machine side of the laws of this seat: for each Go function that they reach, a Lean function and the proof that a call comes to just its answer. Written by a program of this session. -/
import Derived.Test.YtabgjkefbdoefaaLiftFnExactValidWatcher
namespace Go.Proofs.Ytabgjkefbdoefaa.fnExactValidWatcher
open Go.ChangeShapes Go.WideShapes Go.ChangeAt Go.RowKit Go.Proofs.YtabgjkefbdoefaaW.PrintWords Go.Proofs.YtabgjkefbdoefaaW.PrintLast Go.Proofs.Ytabgjkefbdoefaa.P
open Go.ChangeMaps (open_string shut_string)
set_option linter.unusedVariables false
theorem over : Rows.fnExactValidWatcherRow.holds Try.pinned (OpenSpec.ofChange Rows.fnExactValidWatcherSpec) :=
  OpenClaim.holds_of_wide 4 Try.f4 rfl rfl rfl rfl rfl rfl rfl ⟨rfl, rfl, rfl, rfl, rfl⟩ rfl rfl rfl rfl rfl (by kernel_rfl) Try.func4 (by kernel_rfl)
    (of_decide_eq_true (by kernel_rfl)) (by unfold Func.isWrapper; first | (rw [if_pos (by decide +kernel)]; kernel_rfl) | (rw [if_neg (by decide +kernel)]; exact ⟨rfl, rfl⟩))
    (fun os started H enc _ => lifted os started H enc)
theorem proved : Rows.FnExactValidWatcherSaid := over
#print axioms proved
end Go.Proofs.Ytabgjkefbdoefaa.fnExactValidWatcher
namespace Go.Proofs.Ytabgjkefbdoefaa
/-- The row, under a short name, for the claim. -/
theorem fnExactValidWatcher_holds : Rows.FnExactValidWatcherSaid := fnExactValidWatcher.proved
end Go.Proofs.Ytabgjkefbdoefaa
