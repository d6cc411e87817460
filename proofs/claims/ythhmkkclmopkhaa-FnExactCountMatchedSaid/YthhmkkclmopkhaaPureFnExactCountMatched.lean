/- The program's CountMatched and the reference's tell the same of every number: for all numbers, the law's function answers true. -/
import Derived.Test.YthhmkkclmopkhaaPx3
import Derived.Test.YthhmkkclmopkhaaBrFnExactCountMatched
namespace Go.Proofs.Ythhmkkclmopkhaa.Pure
open Go.RowKit Go.Proofs.Ythhmkkclmopkhaa.P Go.Proofs.YthhmkkclmopkhaaW.PrintWords Go.Proofs.YthhmkkclmopkhaaW.PrintLast Go.Proofs.Ythhmkkclmopkhaa.Br
theorem FnExactCountMatched : laws_FnExactCountMatched.Pure := by
  intro a _
  apply Ev.rounds
  unfold laws_FnExactCountMatched.f
  refine Ev.bind (sCount_ev a) ?_
  simp only [iCount_eq, Option.bind_some, if_true]
  exact Ev.now _
end Go.Proofs.Ythhmkkclmopkhaa.Pure
