/- The program's ChildrenOf and the reference's tell the same of all arguments, and what is handed back is new memory each time: for all arguments, the law's function answers true. -/
import Derived.Test.YtpbckaimchoplaaPx13
import Derived.Test.YtpbckaimchoplaaPx46
import Derived.Test.YtpbckaimchoplaaPx47
import Derived.Test.YtpbckaimchoplaaBrFnExactChildrenOf
namespace Go.Proofs.Ytpbckaimchoplaa.Pure
open Go.RowKit Go.Proofs.Ytpbckaimchoplaa.P Go.Proofs.YtpbckaimchoplaaW.PrintWords Go.Proofs.YtpbckaimchoplaaW.PrintLast Go.Proofs.Ytpbckaimchoplaa.Br
set_option linter.unusedSimpArgs false
theorem FnExactChildrenOf_same (a : ByteArray) (x : Int) (R : List Int × Int) (hR : R.1.length ≤ 4194304) (hs : Ev (fun k => spec_ChildrenOf.f k a x) R) (hi : Ev (fun k => impl_ChildrenOf.f k a x) R) (hn : ¬ (a.size : Int) > 1048576) : Ev (fun k => laws_FnExactChildrenOf.f k a x) true := by
  unfold laws_FnExactChildrenOf.f
  simp only [if_neg hn]
  refine Ev.bind hs (Ev.bind hi (Ev.bind (eqInts_ev R.1 hR) ?_))
  simp only [if_true, bne_self_eq_false]
  refine Ev.succ ?_
  simp only [laws_FnExactChildrenOf.j0, Bool.false_eq_true, if_false]
  refine Ev.bind (markInts_ev R.1 hR 1 (by decide) (by decide)) ?_
  refine Ev.bind (heldInts_ev R.1.length hR 1 (by decide) (by decide)) ?_
  simp only [if_neg (show ¬ (1 : Int) + (R.1.length : Int) < 0 by omega), if_true]
  refine Ev.bind hi (Ev.bind (eqInts_ev R.1 hR) ?_)
  simp only [if_true, bne_self_eq_false]
  refine Ev.succ ?_
  simp only [laws_FnExactChildrenOf.j1, Bool.false_eq_true, if_false]
  refine Ev.bind (heldInts_ev R.1.length hR 1 (by decide) (by decide)) ?_
  simp only [if_neg (show ¬ (1 : Int) + (R.1.length : Int) < 0 by omega), if_true]
  exact Ev.now _
theorem FnExactChildrenOf : laws_FnExactChildrenOf.Pure := by
  intro a x _ _
  apply Ev.rounds
  by_cases h : (a.size : Int) > 1048576
  · unfold laws_FnExactChildrenOf.f
    simp only [if_pos h]; exact Ev.now _
  have hn : a.size ≤ 1048576 := by omega
  refine FnExactChildrenOf_same a x _ ?_ (sChildren_ev a x hn) (iChildren_ev a x hn) h
  unfold childR
  have hl := Th.sel_len (f := fun j => Th.g (Th.st (bt a) a.size).q j == x) a.size
  split
  · split <;> simp <;> omega
  · simp
end Go.Proofs.Ytpbckaimchoplaa.Pure
