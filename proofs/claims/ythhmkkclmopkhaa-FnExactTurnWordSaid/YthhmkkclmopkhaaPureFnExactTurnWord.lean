/- The program's TurnWord and the reference's tell the same of every text: for all texts, the law's function answers true. -/
import Derived.Test.YthhmkkclmopkhaaPx4
import Derived.Test.YthhmkkclmopkhaaBrFnExactTurnWord
namespace Go.Proofs.Ythhmkkclmopkhaa.Pure
open Go.RowKit Go.Proofs.Ythhmkkclmopkhaa.P Go.Proofs.YthhmkkclmopkhaaW.PrintWords Go.Proofs.YthhmkkclmopkhaaW.PrintLast Go.Proofs.Ythhmkkclmopkhaa.Br
theorem FnExactTurnWord : laws_FnExactTurnWord.Pure := by
  intro a _
  apply Ev.rounds
  unfold laws_FnExactTurnWord.f
  by_cases h : (a.size : Int) > 1048576
  · simp only [if_pos h]; exact Ev.now _
  simp only [if_neg h]
  have hn : a.size ≤ 1048576 := by omega
  refine Ev.bind (sTurn_ev a hn) (Ev.bind (iTurn_ev a hn) ?_)
  simp only [if_true]
  exact Ev.now _
end Go.Proofs.Ythhmkkclmopkhaa.Pure
