/- The program's BodyOf and the reference's tell the same of all arguments: for all arguments, the law's function answers true. -/
import Derived.Test.YtpbckaimchoplaaPx7
import Derived.Test.YtpbckaimchoplaaBrFnExactBodyOf
namespace Go.Proofs.Ytpbckaimchoplaa.Pure
open Go.RowKit Go.Proofs.Ytpbckaimchoplaa.P Go.Proofs.YtpbckaimchoplaaW.PrintWords Go.Proofs.YtpbckaimchoplaaW.PrintLast Go.Proofs.Ytpbckaimchoplaa.Br
set_option linter.unusedSimpArgs false
theorem FnExactBodyOf : laws_FnExactBodyOf.Pure := by
  intro a x ha hx
  apply Ev.rounds
  unfold laws_FnExactBodyOf.f
  by_cases c0 : (a.size : Int) > 1048576
  · simp only [if_pos c0]; exact Ev.now _
  simp only [if_neg c0]
  have na : a.size ≤ 1048576 := by omega
  refine Ev.bind (sBody_ev a x na hx) (Ev.bind (iBody_ev a x na hx) ?_)
  simp only [if_true, bne_self_eq_false, Bool.false_eq_true, if_false]
  exact Ev.now _
end Go.Proofs.Ytpbckaimchoplaa.Pure
