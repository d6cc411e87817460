/- The program's ValidWatcher answers as the reference's and changes nothing: for all watchers whose rows' and texts' lengths are at most the greatest whole number, the law's function answers true. -/
import Derived.Test.YtabgjkefbdoefaaPx4
import Derived.Test.YtabgjkefbdoefaaBrFnExactValidWatcher
namespace Go.Proofs.Ytabgjkefbdoefaa.Pure
open Go.RowKit Go.Proofs.Ytabgjkefbdoefaa.P Go.Proofs.YtabgjkefbdoefaaW.PrintWords Go.Proofs.YtabgjkefbdoefaaW.PrintLast Go.Proofs.YtabgjkefbdoefaaW.PrintMore Go.Proofs.Ytabgjkefbdoefaa.Br Go.Proofs.Ytabgjkefbdoefaa.Th
set_option linter.unusedVariables false
set_option linter.unusedSimpArgs false

theorem FnExactValidWatcher : laws_FnExactValidWatcher.Pure := by
  intro l0 a l2 l3 h0 _ h2 h3
  refine Ev.rounds ?_
  unfold laws_FnExactValidWatcher.f
  obtain ⟨r, hr, hr2⟩ := laws_szWatcher_ev l0 a l2 l3 1048576 (by omega) (by omega) h0.1 (fun x hx => (h0.2 x hx).2) h2.1 ⟨h3.1, fun x hx => (h3.2 x hx).1⟩
  refine Ev.bind hr ?_
  by_cases n0 : r < 0
  · simp only [if_pos n0]; exact Ev.now _
  simp only [if_neg n0]
  rcases hr2 with hr2 | hr2
  · exact absurd hr2 n0
  obtain ⟨_, _, s0, s2, s3⟩ := hr2
  have t := laws_toWatcher_ev l0 a l2 l3 s0 s2 s3
  have k0 : (toQ l0).length ≤ 1048576 := by rw [toQ_length]; exact s0
  refine Ev.bind t (Ev.bind (sValidW_ev _ a l2 l3 k0 s2 s3) (Ev.bind t (Ev.bind (iValidW_ev _ a l2 l3 k0 s2 s3) ?_)))
  simp only [bne_self_eq_false, Bool.false_eq_true, if_false]
  refine Ev.bind t (Ev.bind (laws_eqWatcher_ev _ a l2 l3 k0 s2 s3) ?_)
  simp only [if_true]
  exact Ev.now _
end Go.Proofs.Ytabgjkefbdoefaa.Pure
