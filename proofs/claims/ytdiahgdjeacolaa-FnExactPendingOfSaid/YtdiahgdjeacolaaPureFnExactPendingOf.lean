/- The program's PendingOf and the reference's tell the same of every text: for each text, the law's function answers true. -/
import Derived.Test.YtdiahgdjeacolaaPx13
import Derived.Test.YtdiahgdjeacolaaPx44
import Derived.Test.YtdiahgdjeacolaaTh
import Derived.Test.YtdiahgdjeacolaaBrD
namespace Go.Proofs.Ytdiahgdjeacolaa.Pure
open Go.RowKit Go.Proofs.Ytdiahgdjeacolaa.P Go.Proofs.YtdiahgdjeacolaaW.PrintWords Go.Proofs.YtdiahgdjeacolaaW.PrintLast Go.Proofs.Ytdiahgdjeacolaa.Br
theorem FnExactPendingOf : laws_FnExactPendingOf.Pure := by
  intro a _
  apply Ev.rounds
  unfold laws_FnExactPendingOf.f
  by_cases h : (a.size : Int) > 1048576
  · simp only [if_pos h]; exact Ev.now _
  simp only [if_neg h]
  have hn : a.size ≤ 1048576 := by omega
  suffices ∃ r, Ev (fun k => spec_PendingOf.f k a) r ∧ Ev (fun k => impl_PendingOf.f k a) r by
    obtain ⟨r, h3, h4⟩ := this
    refine Ev.bind h3 (Ev.bind h4 ?_)
    simp only [if_true]
    exact Ev.now _
  unfold spec_PendingOf.f impl_PendingOf.f
  cases ha : okw a with
  | false =>
    refine ⟨(0, 0, 1), Ev.bind (specOk_ev a hn) ?_, Ev.bind (valid_ev a hn) ?_⟩ <;> rw [ha] <;> exact Ev.now _
  | true =>
    refine ⟨(((Th.st (bt a) a.size).r.length : Int), ((Th.st (bt a) a.size).c.length : Int), 0), Ev.bind (specOk_ev a hn) ?_, Ev.bind (valid_ev a hn) ?_⟩
    · rw [ha]
      simp only [if_true]
      exact Ev.bind (pending_ev a hn) (Ev.now _)
    · rw [ha]
      simp only [if_true]
      exact Ev.bind (match_ev a hn) (Ev.now _)
end Go.Proofs.Ytdiahgdjeacolaa.Pure
