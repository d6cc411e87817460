/- The program's FactorsOf and the reference's tell the same of all texts, and what is handed back is new memory each time: for all texts, the law's function answers true. -/
import Derived.Test.YtndlepcfbbfegaaPx5
import Derived.Test.YtndlepcfbbfegaaBrFnExactFactorsOf
namespace Go.Proofs.Ytndlepcfbbfegaa.Pure
open Go.RowKit Go.Proofs.Ytndlepcfbbfegaa.P Go.Proofs.YtndlepcfbbfegaaW.PrintWords Go.Proofs.YtndlepcfbbfegaaW.PrintLast Go.Proofs.Ytndlepcfbbfegaa.Br
set_option linter.unusedSimpArgs false
theorem FnExactFactorsOf : laws_FnExactFactorsOf.Pure := by
  intro a _
  apply Ev.rounds
  unfold laws_FnExactFactorsOf.f
  by_cases h : (a.size : Int) > 1048576
  · simp only [if_pos h]; exact Ev.now _
  have hn : a.size ≤ 1048576 := by omega
  obtain ⟨R, hs, hi, hl⟩ := factors_both a hn
  obtain ⟨F, hF⟩ := markText_all
  have hR : R.1.length ≤ 4194304 := by omega
  simp only [if_neg h]
  refine Ev.bind hs (Ev.bind hi (Ev.bind (eqStrs_ev R.1 hR) ?_))
  simp only [if_true, bne_self_eq_false]
  refine Ev.succ ?_
  simp only [laws_FnExactFactorsOf.j0, Bool.false_eq_true, if_false]
  refine Ev.bind (markStrs_ev F hF R.1 hR 1 (by decide) (by decide)) ?_
  refine Ev.bind (heldStrs_ev F hF R.1.length hR 1 (by decide) (by decide)) ?_
  simp only [if_neg (show ¬ (1 : Int) + (R.1.length : Int) < 0 by omega), if_true]
  refine Ev.bind hi (Ev.bind (eqStrs_ev R.1 hR) ?_)
  simp only [if_true, bne_self_eq_false]
  refine Ev.succ ?_
  simp only [laws_FnExactFactorsOf.j1, Bool.false_eq_true, if_false]
  refine Ev.bind (heldStrs_ev F hF R.1.length hR 1 (by decide) (by decide)) ?_
  simp only [if_neg (show ¬ (1 : Int) + (R.1.length : Int) < 0 by omega), if_true]
  exact Ev.now _
end Go.Proofs.Ytndlepcfbbfegaa.Pure
