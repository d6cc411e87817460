/- The program's PassesTest and the reference's tell the same of all arguments: for all arguments, the law's function answers true. -/
import Derived.Test.YtpbckaimchoplaaPx14
import Derived.Test.YtpbckaimchoplaaBrFnExactPassesTest
namespace Go.Proofs.Ytpbckaimchoplaa.Pure
open Go.RowKit Go.Proofs.Ytpbckaimchoplaa.P Go.Proofs.YtpbckaimchoplaaW.PrintWords Go.Proofs.YtpbckaimchoplaaW.PrintLast Go.Proofs.Ytpbckaimchoplaa.Br
set_option linter.unusedSimpArgs false
theorem FnExactPassesTest : laws_FnExactPassesTest.Pure := by
  intro a b ha hb
  apply Ev.rounds
  unfold laws_FnExactPassesTest.f
  by_cases c0 : (a.size : Int) > 1048576
  · simp only [if_pos c0]; exact Ev.now _
  by_cases c1 : (b.size : Int) > 1048576
  · simp only [if_neg c0, if_pos c1]; exact Ev.now _
  simp only [if_neg c0, if_neg c1]
  have na : a.size ≤ 1048576 := by omega
  have nb : b.size ≤ 1048576 := by omega
  refine Ev.bind (sPassesTest_ev a b na nb) (Ev.bind (iPassesTest_ev a b na nb) ?_)
  simp only [if_true, bne_self_eq_false, Bool.false_eq_true, if_false]
  exact Ev.now _
end Go.Proofs.Ytpbckaimchoplaa.Pure
