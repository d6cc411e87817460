/- The program's DepthOf and the reference's tell the same of every text: for each text, the law's function answers true. -/
import Derived.Test.YtdiahgdjeacolaaPx12
import Derived.Test.YtdiahgdjeacolaaTh
import Derived.Test.YtdiahgdjeacolaaBrE
namespace Go.Proofs.Ytdiahgdjeacolaa.Pure
open Go.RowKit Go.Proofs.Ytdiahgdjeacolaa.P Go.Proofs.YtdiahgdjeacolaaW.PrintWords Go.Proofs.YtdiahgdjeacolaaW.PrintLast Go.Proofs.Ytdiahgdjeacolaa.Br
theorem FnExactDepthOf : laws_FnExactDepthOf.Pure := by
  intro a _
  apply Ev.rounds
  unfold laws_FnExactDepthOf.f
  by_cases h : (a.size : Int) > 1048576
  · simp only [if_pos h]; exact Ev.now _
  simp only [if_neg h]
  have hn : a.size ≤ 1048576 := by omega
  refine Ev.bind (sDepth_ev a hn) (Ev.bind (iDepth_ev a hn) ?_)
  simp only [if_true]
  exact Ev.now _
end Go.Proofs.Ytdiahgdjeacolaa.Pure
