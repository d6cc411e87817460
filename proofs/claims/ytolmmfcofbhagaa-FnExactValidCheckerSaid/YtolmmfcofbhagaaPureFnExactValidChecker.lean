/- The program's ValidChecker answers as the reference's and changes nothing: for all checkers whose rows' lengths are at most the greatest whole number, the law's function answers true. -/
import Derived.Test.YtolmmfcofbhagaaPv6
import Derived.Test.YtolmmfcofbhagaaPv27
import Derived.Test.YtolmmfcofbhagaaBrFnExactValidChecker
namespace Go.Proofs.Ytolmmfcofbhagaa.Pure
open Go.RowKit Go.Proofs.Ytolmmfcofbhagaa.V Go.Proofs.YtolmmfcofbhagaaW.PrintWords Go.Proofs.YtolmmfcofbhagaaW.PrintLast Go.Proofs.YtolmmfcofbhagaaW.PrintMore Go.Proofs.Ytolmmfcofbhagaa.Br Go.Proofs.Ytolmmfcofbhagaa.Th
set_option linter.unusedVariables false
set_option linter.unusedSimpArgs false

theorem sm1_map {α β : Type} (f : α → β) (l : List (List α)) (h : sm1 l) : sm1 (l.map (List.map f)) := by
  refine ⟨by simpa using h.1, fun x hx => ?_⟩
  obtain ⟨y, hy, rfl⟩ := List.mem_map.1 hx
  have := h.2 y hy
  unfold sm0 at this ⊢
  simpa using this
theorem FnExactValidChecker : laws_FnExactValidChecker.Pure := by
  intro a b l2 l3 l4 l5 wa wb h2 h3 h4 h5
  refine Ev.rounds ?_
  unfold laws_FnExactValidChecker.f
  obtain ⟨r, hr, hr2⟩ := laws_szChecker_ev a b l2 l3 l4 l5 1048576 (by omega) (by omega) h2.1 ⟨h3.1, fun x hx => (h3.2 x hx).1⟩ ⟨h4.1, fun x hx => ⟨(h4.2 x hx).1, fun y hy => ((h4.2 x hx).2 y hy).1⟩⟩ ⟨h5.1, fun x hx => (h5.2 x hx).1⟩
  refine Ev.bind hr ?_
  by_cases n0 : r < 0
  · simp only [if_pos n0]; exact Ev.now _
  simp only [if_neg n0]
  rcases hr2 with hr2 | hr2
  · exact absurd hr2 n0
  obtain ⟨_, _, s2, s3, s4, s5⟩ := hr2
  have t := laws_toChecker_ev a b l2 l3 l4 l5 s2 s3 s4 s5
  have s3' := sm1_map cPush l3 s3
  refine Ev.bind t (Ev.bind (a := okC a b l2 (l3.map (List.map cPush)) l4 l5) ?_ (Ev.bind t (Ev.bind (implOkC_ev a b l2 _ l4 l5 s2 s4 s5) ?_)))
  · unfold spec_ValidChecker.f
    exact Ev.bind (specOkC_ev a b l2 _ l4 l5 s4 s5) (Ev.now _)
  simp only [bne_self_eq_false, Bool.false_eq_true, if_false]
  refine Ev.bind t (Ev.bind (laws_eqChecker_ev a b l2 _ l4 l5 s2 s3' s4 s5) ?_)
  simp only [if_true]
  exact Ev.now _
end Go.Proofs.Ytolmmfcofbhagaa.Pure
