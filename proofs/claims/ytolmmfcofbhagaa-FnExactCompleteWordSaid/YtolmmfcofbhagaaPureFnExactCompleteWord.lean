/- The program's CompleteWord and the reference's tell the same of all texts: for all texts, the law's function answers true. -/
import Derived.Test.YtolmmfcofbhagaaPr5
import Derived.Test.YtolmmfcofbhagaaBrFnExactCompleteWord
namespace Go.Proofs.Ytolmmfcofbhagaa.Pure
open Go.RowKit Go.Proofs.Ytolmmfcofbhagaa.R Go.Proofs.YtolmmfcofbhagaaW.PrintWords Go.Proofs.YtolmmfcofbhagaaW.PrintLast Go.Proofs.Ytolmmfcofbhagaa.Br
set_option linter.unusedSimpArgs false
theorem FnExactCompleteWord : laws_FnExactCompleteWord.Pure := by
  intro a _
  apply Ev.rounds
  unfold laws_FnExactCompleteWord.f
  by_cases h : (a.size : Int) > 1048576
  · simp only [if_pos h]; exact Ev.now _
  simp only [if_neg h]
  have hn : a.size ≤ 1048576 := by omega
  refine Ev.bind (sComplete_ev a hn) (Ev.bind (iComplete_ev a hn) ?_)
  simp only [if_true]
  exact Ev.now _
end Go.Proofs.Ytolmmfcofbhagaa.Pure
