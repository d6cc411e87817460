/- The program's MatchedAt and the reference's tell the same of all numbers: for all numbers, the law's function answers true. -/
import Derived.Test.YthhmkkclmopkhaaPx5
import Derived.Test.YthhmkkclmopkhaaBrFnExactMatchedAt
namespace Go.Proofs.Ythhmkkclmopkhaa.Pure
open Go.RowKit Go.Proofs.Ythhmkkclmopkhaa.P Go.Proofs.YthhmkkclmopkhaaW.PrintWords Go.Proofs.YthhmkkclmopkhaaW.PrintLast Go.Proofs.Ythhmkkclmopkhaa.Br
theorem FnExactMatchedAt : laws_FnExactMatchedAt.Pure := by
  intro a q _ _
  apply Ev.rounds
  unfold laws_FnExactMatchedAt.f
  obtain ⟨R, h1, h2⟩ := matchedAt_both a q
  refine Ev.bind h1 (Ev.bind h2 ?_)
  simp only [if_true]
  exact Ev.now _
end Go.Proofs.Ythhmkkclmopkhaa.Pure
