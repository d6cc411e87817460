/- The program's ParentsOf and the reference's tell the same of all arguments, and what is handed back is new memory each time: for all arguments, the law's function answers true. -/
import Derived.Test.YtpbckaimchoplaaPx10
import Derived.Test.YtpbckaimchoplaaPx39
import Derived.Test.YtpbckaimchoplaaBrFnExactParentsOf
namespace Go.Proofs.Ytpbckaimchoplaa.Pure
open Go.RowKit Go.Proofs.Ytpbckaimchoplaa.P Go.Proofs.YtpbckaimchoplaaW.PrintWords Go.Proofs.YtpbckaimchoplaaW.PrintLast Go.Proofs.Ytpbckaimchoplaa.Br
set_option linter.unusedSimpArgs false
theorem FnExactParentsOf_same (a : ByteArray) (R : List Int × Int) (hR : R.1.length ≤ 4194304) (hs : Ev (fun k => spec_ParentsOf.f k a) R) (hi : Ev (fun k => impl_ParentsOf.f k a) R) (hn : ¬ (a.size : Int) > 1048576) : Ev (fun k => laws_FnExactParentsOf.f k a) true := by
  unfold laws_FnExactParentsOf.f
  simp only [if_neg hn]
  refine Ev.bind hs (Ev.bind hi (Ev.bind (eqInts_ev R.1 hR) ?_))
  simp only [if_true, bne_self_eq_false]
  refine Ev.succ ?_
  simp only [laws_FnExactParentsOf.j0, Bool.false_eq_true, if_false]
  refine Ev.bind (markInts_ev R.1 hR 1 (by decide) (by decide)) ?_
  refine Ev.bind (heldInts_ev R.1.length hR 1 (by decide) (by decide)) ?_
  simp only [if_neg (show ¬ (1 : Int) + (R.1.length : Int) < 0 by omega), if_true]
  refine Ev.bind hi (Ev.bind (eqInts_ev R.1 hR) ?_)
  simp only [if_true, bne_self_eq_false]
  refine Ev.succ ?_
  simp only [laws_FnExactParentsOf.j1, Bool.false_eq_true, if_false]
  refine Ev.bind (heldInts_ev R.1.length hR 1 (by decide) (by decide)) ?_
  simp only [if_neg (show ¬ (1 : Int) + (R.1.length : Int) < 0 by omega), if_true]
  exact Ev.now _
theorem FnExactParentsOf : laws_FnExactParentsOf.Pure := by
  intro a _
  apply Ev.rounds
  by_cases h : (a.size : Int) > 1048576
  · unfold laws_FnExactParentsOf.f
    simp only [if_pos h]; exact Ev.now _
  have hn : a.size ≤ 1048576 := by omega
  refine FnExactParentsOf_same a _ ?_ (sParents_ev a hn) (iParents_ev a hn) h
  have B := Th.basic (bt a) a.size
  have h1 := B.lp; have h2 := B.lq; have h3 := B.ld
  split
  · simp; omega
  · simp
end Go.Proofs.Ytpbckaimchoplaa.Pure
