/- The program's SameWatcher answers as the reference's and changes nothing: for all watchers whose rows' and texts' lengths are at most the greatest whole number, the law's function answers true. -/
import Derived.Test.YtolmmfcofbhagaaPw4
import Derived.Test.YtolmmfcofbhagaaBrFnExactSameWatcher
namespace Go.Proofs.Ytolmmfcofbhagaa.Pure
open Go.RowKit Go.Proofs.Ytolmmfcofbhagaa.W Go.Proofs.YtolmmfcofbhagaaW.PrintWords Go.Proofs.YtolmmfcofbhagaaW.PrintLast Go.Proofs.YtolmmfcofbhagaaW.PrintMore Go.Proofs.Ytolmmfcofbhagaa.Br Go.Proofs.Ytolmmfcofbhagaa.Th
set_option linter.unusedVariables false
set_option linter.unusedSimpArgs false

theorem FnExactSameWatcher : laws_FnExactSameWatcher.Pure := by
  intro l0 a l2 l3 m0 b m2 m3 h0 _ h2 h3 g0 _ g2 g3
  refine Ev.rounds ?_
  unfold laws_FnExactSameWatcher.f
  obtain ⟨r, hr, hr2⟩ := laws_szWatcher_ev l0 a l2 l3 1048576 (by omega) (by omega) h0.1 (fun x hx => (h0.2 x hx).2) h2.1 ⟨h3.1, fun x hx => (h3.2 x hx).1⟩
  refine Ev.bind hr (Ev.succ ?_)
  simp only [laws_FnExactSameWatcher.j0]
  by_cases n0 : r < 0
  · simp only [if_pos n0]; exact Ev.now _
  simp only [if_neg n0]
  rcases hr2 with hr2 | hr2
  · exact absurd hr2 n0
  obtain ⟨q, hq, hq2⟩ := laws_szWatcher_ev m0 b m2 m3 r (by omega) (by omega) g0.1 (fun x hx => (g0.2 x hx).2) g2.1 ⟨g3.1, fun x hx => (g3.2 x hx).1⟩
  refine Ev.bind hq (Ev.succ ?_)
  simp only [laws_FnExactSameWatcher.j1]
  by_cases n1 : q < 0
  · simp only [if_pos n1]; exact Ev.now _
  simp only [if_neg n1]
  rcases hq2 with hq2 | hq2
  · exact absurd hq2 n1
  obtain ⟨_, _, s0, s2, s3⟩ := hr2
  obtain ⟨_, _, u0, u2, u3⟩ := hq2
  have t := laws_toWatcher_ev l0 a l2 l3 s0 s2 s3
  have v := laws_toWatcher_ev m0 b m2 m3 u0 u2 u3
  have k0 : (toQ l0).length ≤ 1048576 := by rw [toQ_length]; exact s0
  have k1 : (toQ m0).length ≤ 1048576 := by rw [toQ_length]; exact u0
  refine Ev.bind t (Ev.bind v (Ev.bind (specSameW_ev _ a l2 l3 _ b m2 m3 k0 s2 s3) (Ev.succ ?_)))
  simp only [laws_FnExactSameWatcher.j2]
  refine Ev.bind t (Ev.bind v (Ev.bind (implSameW_ev _ a l2 l3 _ b m2 m3 k0 s2 s3) (Ev.succ ?_)))
  simp only [laws_FnExactSameWatcher.j3, bne_self_eq_false, Bool.false_eq_true, if_false]
  refine Ev.bind t (Ev.bind (laws_eqWatcher_ev _ a l2 l3 k0 s2 s3) (Ev.succ ?_))
  simp only [laws_FnExactSameWatcher.j4, Bool.not_true, Bool.false_eq_true, if_false]
  refine Ev.bind v (Ev.bind (laws_eqWatcher_ev _ b m2 m3 k1 u2 u3) ?_)
  simp only [if_true]
  exact Ev.now _
end Go.Proofs.Ytolmmfcofbhagaa.Pure
