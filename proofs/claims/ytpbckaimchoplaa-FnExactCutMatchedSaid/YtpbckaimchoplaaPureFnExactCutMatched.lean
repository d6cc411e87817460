/- The program's CutMatched and the reference's tell the same of all arguments: for all arguments, the law's function answers true. -/
import Derived.Test.YtpbckaimchoplaaPx8
import Derived.Test.YtpbckaimchoplaaBrFnExactCutMatched
namespace Go.Proofs.Ytpbckaimchoplaa.Pure
open Go.RowKit Go.Proofs.Ytpbckaimchoplaa.P Go.Proofs.YtpbckaimchoplaaW.PrintWords Go.Proofs.YtpbckaimchoplaaW.PrintLast Go.Proofs.Ytpbckaimchoplaa.Br
set_option linter.unusedSimpArgs false
theorem FnExactCutMatched : laws_FnExactCutMatched.Pure := by
  intro a x ha hx
  apply Ev.rounds
  unfold laws_FnExactCutMatched.f
  by_cases c0 : (a.size : Int) > 1048576
  · simp only [if_pos c0]; exact Ev.now _
  simp only [if_neg c0]
  have na : a.size ≤ 1048576 := by omega
  refine Ev.bind (sCut_ev a x na hx) (Ev.bind (iCut_ev a x na hx) ?_)
  simp only [if_true, bne_self_eq_false, Bool.false_eq_true, if_false]
  exact Ev.now _
end Go.Proofs.Ytpbckaimchoplaa.Pure
