/- The program's ReadQuery and the reference's tell the same of all texts, and what is handed back is new memory each time: for all texts, the law's function answers true. -/
import Derived.Test.YtcaijfndmkdboaaPq11
import Derived.Test.YtcaijfndmkdboaaBrFnExactReadQuery
namespace Go.Proofs.Ytcaijfndmkdboaa.Pure
open Go.RowKit Go.Proofs.Ytcaijfndmkdboaa.Y Go.Proofs.YtcaijfndmkdboaaW.PrintWords Go.Proofs.YtcaijfndmkdboaaW.PrintLast Go.Proofs.YtcaijfndmkdboaaW.PrintMore Go.Proofs.Ytcaijfndmkdboaa.Br Go.Proofs.Ytcaijfndmkdboaa.Th
set_option linter.unusedVariables false
set_option linter.unusedSimpArgs false
theorem FnExactReadQuery : laws_FnExactReadQuery.Pure := by
  intro a _
  apply Ev.rounds
  unfold laws_FnExactReadQuery.f
  by_cases h : (a.size : Int) > 1048576
  · simp only [if_pos h]; exact Ev.now _
  obtain ⟨R, hs, pR⟩ := specRead_ev a
  obtain ⟨R', hi, pR'⟩ := implRead_ev a (by omega)
  obtain rfl := isRead_eq pR pR'
  obtain ⟨F, hF⟩ := markText_all
  have hR : R.1.length ≤ 1048576 := by
    rcases pR.1 with h1 | ⟨l, h1, _, h3⟩
    · rw [h1]; simp
    · rw [h3]; have := okQ_len h1; show l.length ≤ _; omega
  have e := eqQuery_ev R.1 hR
  have c1 : ¬ (1 + 2 * (R.1.length : Int)) < 0 := by omega
  simp only [if_neg h]
  refine Ev.bind hs (Ev.bind hi (Ev.bind e ?_))
  simp only [if_true, bne_self_eq_false]
  refine Ev.succ ?_
  simp only [laws_FnExactReadQuery.j0, Bool.false_eq_true, if_false]
  refine Ev.bind (markQ_ev F hF R.1 (by omega)) ?_
  refine Ev.bind (heldQ_ev F hF R.1.length (by omega)) ?_
  simp only [if_neg c1, if_true]
  refine Ev.bind hi (Ev.bind e ?_)
  simp only [if_true, bne_self_eq_false]
  refine Ev.succ ?_
  simp only [laws_FnExactReadQuery.j1, Bool.false_eq_true, if_false]
  refine Ev.bind (heldQ_ev F hF R.1.length (by omega)) ?_
  simp only [if_neg c1, if_true]
  exact Ev.now _
end Go.Proofs.Ytcaijfndmkdboaa.Pure
