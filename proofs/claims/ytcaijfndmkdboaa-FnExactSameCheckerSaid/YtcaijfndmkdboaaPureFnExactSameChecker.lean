/- The program's SameChecker answers as the reference's and changes nothing: for all checkers whose rows' lengths are at most the greatest whole number, the law's function answers true. -/
import Derived.Test.YtcaijfndmkdboaaPz12
import Derived.Test.YtcaijfndmkdboaaBrFnExactSameChecker
namespace Go.Proofs.Ytcaijfndmkdboaa.Pure
open Go.RowKit Go.Proofs.Ytcaijfndmkdboaa.Z Go.Proofs.YtcaijfndmkdboaaW.PrintWords Go.Proofs.YtcaijfndmkdboaaW.PrintLast Go.Proofs.YtcaijfndmkdboaaW.PrintMore Go.Proofs.Ytcaijfndmkdboaa.Br Go.Proofs.Ytcaijfndmkdboaa.Th
set_option linter.unusedVariables false
set_option linter.unusedSimpArgs false

theorem sm1_map {α β : Type} (f : α → β) (l : List (List α)) (h : sm1 l) : sm1 (l.map (List.map f)) := by
  refine ⟨by simpa using h.1, fun x hx => ?_⟩
  obtain ⟨y, hy, rfl⟩ := List.mem_map.1 hx
  have := h.2 y hy
  unfold sm0 at this ⊢
  simpa using this
theorem FnExactSameChecker : laws_FnExactSameChecker.Pure := by
  intro a b l2 l3 l4 l5 a' b' m2 m3 m4 m5 wa wb h2 h3 h4 h5 wa' wb' g2 g3 g4 g5
  refine Ev.rounds ?_
  unfold laws_FnExactSameChecker.f
  obtain ⟨r, hr, hr2⟩ := laws_szChecker_ev a b l2 l3 l4 l5 1048576 (by omega) (by omega) h2.1 ⟨h3.1, fun x hx => (h3.2 x hx).1⟩ ⟨h4.1, fun x hx => ⟨(h4.2 x hx).1, fun y hy => ((h4.2 x hx).2 y hy).1⟩⟩ ⟨h5.1, fun x hx => (h5.2 x hx).1⟩
  refine Ev.bind hr (Ev.succ ?_)
  simp only [laws_FnExactSameChecker.j0]
  by_cases n0 : r < 0
  · simp only [if_pos n0]; exact Ev.now _
  simp only [if_neg n0]
  rcases hr2 with hr2 | hr2
  · exact absurd hr2 n0
  obtain ⟨q, hq, hq2⟩ := laws_szChecker_ev a' b' m2 m3 m4 m5 r (by omega) (by omega) g2.1 ⟨g3.1, fun x hx => (g3.2 x hx).1⟩ ⟨g4.1, fun x hx => ⟨(g4.2 x hx).1, fun y hy => ((g4.2 x hx).2 y hy).1⟩⟩ ⟨g5.1, fun x hx => (g5.2 x hx).1⟩
  refine Ev.bind hq (Ev.succ ?_)
  simp only [laws_FnExactSameChecker.j1]
  by_cases n1 : q < 0
  · simp only [if_pos n1]; exact Ev.now _
  simp only [if_neg n1]
  rcases hq2 with hq2 | hq2
  · exact absurd hq2 n1
  obtain ⟨_, _, s2, s3, s4, s5⟩ := hr2
  obtain ⟨_, _, u2, u3, u4, u5⟩ := hq2
  have t := laws_toChecker_ev a b l2 l3 l4 l5 s2 s3 s4 s5
  have v := laws_toChecker_ev a' b' m2 m3 m4 m5 u2 u3 u4 u5
  have s3' := sm1_map cPush l3 s3
  have u3' := sm1_map cPush m3 u3
  refine Ev.bind t (Ev.bind v (Ev.bind (specSameC_ev a b l2 _ l4 l5 a' b' m2 _ m4 m5 s2 s3' s4 s5) (Ev.succ ?_)))
  simp only [laws_FnExactSameChecker.j2]
  refine Ev.bind t (Ev.bind v (Ev.bind (implSameC_ev a b l2 _ l4 l5 a' b' m2 _ m4 m5 s2 s3' s4 s5) (Ev.succ ?_)))
  simp only [laws_FnExactSameChecker.j3, bne_self_eq_false, Bool.false_eq_true, if_false]
  refine Ev.bind t (Ev.bind (laws_eqChecker_ev a b l2 _ l4 l5 s2 s3' s4 s5) (Ev.succ ?_))
  simp only [laws_FnExactSameChecker.j4, Bool.not_true, Bool.false_eq_true, if_false]
  refine Ev.bind v (Ev.bind (laws_eqChecker_ev a' b' m2 _ m4 m5 u2 u3' u4 u5) ?_)
  simp only [if_true]
  exact Ev.now _
end Go.Proofs.Ytcaijfndmkdboaa.Pure
