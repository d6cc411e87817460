/- Machine side of the laws of this seat: for each Go function that they reach, a Lean function and the proof that a call comes to just its answer. Written by a program of this session. -/
import Derived.Test.YtcaijfndmkdboaaLiftFnExactCheckPath
namespace Go.Proofs.Ytcaijfndmkdboaa.fnExactCheckPath
open Go.ChangeShapes Go.WideShapes Go.ChangeAt Go.RowKit Go.Proofs.YtcaijfndmkdboaaW.PrintWords Go.Proofs.YtcaijfndmkdboaaW.PrintLast Go.Proofs.Ytcaijfndmkdboaa.K
open Go.ChangeMaps (open_string shut_string)
set_option linter.unusedVariables false
theorem over : Rows.fnExactCheckPathRow.holds Try.pinned (OpenSpec.ofChange Rows.fnExactCheckPathSpec) :=
  OpenClaim.holds_of_wide 13 Try.f13 rfl rfl rfl rfl rfl rfl rfl ⟨rfl, rfl, rfl, rfl, rfl⟩ rfl rfl rfl rfl rfl (by kernel_rfl) Try.func13 (by kernel_rfl)
    (of_decide_eq_true (by kernel_rfl)) (by unfold Func.isWrapper; first | (rw [if_pos (by decide +kernel)]; kernel_rfl) | (rw [if_neg (by decide +kernel)]; exact ⟨rfl, rfl⟩))
    (fun os started H enc _ => lifted os started H enc)
theorem proved : Rows.FnExactCheckPathSaid := over
#print axioms proved
end Go.Proofs.Ytcaijfndmkdboaa.fnExactCheckPath
namespace Go.Proofs.Ytcaijfndmkdboaa
/-- The row, under a short name, for the claim. -/
theorem fnExactCheckPath_holds : Rows.FnExactCheckPathSaid := fnExactCheckPath.proved
end Go.Proofs.Ytcaijfndmkdboaa
