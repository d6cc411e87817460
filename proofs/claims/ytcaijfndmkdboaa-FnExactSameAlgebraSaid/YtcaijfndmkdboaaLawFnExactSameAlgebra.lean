/- Machine side of the laws of this seat: for each Go function that they reach, a Lean function and the proof that a call comes to just its answer. Written by a program of this session. -/
import Derived.Test.YtcaijfndmkdboaaLiftFnExactSameAlgebra
namespace Go.Proofs.Ytcaijfndmkdboaa.fnExactSameAlgebra
open Go.ChangeShapes Go.WideShapes Go.ChangeAt Go.RowKit Go.Proofs.YtcaijfndmkdboaaW.PrintWords Go.Proofs.YtcaijfndmkdboaaW.PrintLast Go.Proofs.Ytcaijfndmkdboaa.P
open Go.ChangeMaps (open_string shut_string)
set_option linter.unusedVariables false
theorem over : Rows.fnExactSameAlgebraRow.holds Try.pinned (OpenSpec.ofChange Rows.fnExactSameAlgebraSpec) :=
  OpenClaim.holds_of_wide 8 Try.f8 rfl rfl rfl rfl rfl rfl rfl ⟨rfl, rfl, rfl, rfl, rfl⟩ rfl rfl rfl rfl rfl (by kernel_rfl) Try.func8 (by kernel_rfl)
    (of_decide_eq_true (by kernel_rfl)) (by unfold Func.isWrapper; first | (rw [if_pos (by decide +kernel)]; kernel_rfl) | (rw [if_neg (by decide +kernel)]; exact ⟨rfl, rfl⟩))
    (fun os started H enc _ => lifted os started H enc)
theorem proved : Rows.FnExactSameAlgebraSaid := over
#print axioms proved
end Go.Proofs.Ytcaijfndmkdboaa.fnExactSameAlgebra
namespace Go.Proofs.Ytcaijfndmkdboaa
/-- The row, under a short name, for the claim. -/
theorem fnExactSameAlgebra_holds : Rows.FnExactSameAlgebraSaid := fnExactSameAlgebra.proved
end Go.Proofs.Ytcaijfndmkdboaa
