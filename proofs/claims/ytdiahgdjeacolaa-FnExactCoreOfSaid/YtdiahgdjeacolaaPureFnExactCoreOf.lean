/- The program's CoreOf and the reference's tell the same of every text: for each text, the law's function answers true. -/
import Derived.Test.YtdiahgdjeacolaaPx11
import Derived.Test.YtdiahgdjeacolaaTh
import Derived.Test.YtdiahgdjeacolaaBrE
namespace Go.Proofs.Ytdiahgdjeacolaa.Pure
open Go.RowKit Go.Proofs.Ytdiahgdjeacolaa.P Go.Proofs.YtdiahgdjeacolaaW.PrintWords Go.Proofs.YtdiahgdjeacolaaW.PrintLast Go.Proofs.Ytdiahgdjeacolaa.Br
theorem FnExactCoreOf : laws_FnExactCoreOf.Pure := by
  intro a _
  apply Ev.rounds
  unfold laws_FnExactCoreOf.f
  by_cases h : (a.size : Int) > 1048576
  · simp only [if_pos h]; exact Ev.now _
  simp only [if_neg h]
  have hn : a.size ≤ 1048576 := by omega
  refine Ev.bind (sCore_ev a hn) (Ev.bind (iCore_ev a hn) ?_)
  simp only [if_true]
  exact Ev.now _
end Go.Proofs.Ytdiahgdjeacolaa.Pure
