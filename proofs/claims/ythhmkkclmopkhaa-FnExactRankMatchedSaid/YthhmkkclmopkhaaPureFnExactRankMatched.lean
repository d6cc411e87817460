/- The program's RankMatched and the reference's tell the same of every text: for all texts, the law's function answers true. -/
import Derived.Test.YthhmkkclmopkhaaPx7
import Derived.Test.YthhmkkclmopkhaaBrFnExactRankMatched
namespace Go.Proofs.Ythhmkkclmopkhaa.Pure
open Go.RowKit Go.Proofs.Ythhmkkclmopkhaa.P Go.Proofs.YthhmkkclmopkhaaW.PrintWords Go.Proofs.YthhmkkclmopkhaaW.PrintLast Go.Proofs.Ythhmkkclmopkhaa.Br
theorem FnExactRankMatched : laws_FnExactRankMatched.Pure := by
  intro a _
  apply Ev.rounds
  unfold laws_FnExactRankMatched.f
  by_cases h : (a.size : Int) > 1048576
  · simp only [if_pos h]; exact Ev.now _
  simp only [if_neg h]
  obtain ⟨R, h1, h2⟩ := rankMatched_both a (by omega)
  refine Ev.bind h1 (Ev.bind h2 ?_)
  simp only [if_true]
  exact Ev.now _
end Go.Proofs.Ythhmkkclmopkhaa.Pure
