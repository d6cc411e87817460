/- The program's SameChoices answers as the reference's and changes nothing: for all choices whose rows' lengths are at most the greatest whole number, the law's function answers true. -/
import Derived.Test.YtolmmfcofbhagaaPc8
import Derived.Test.YtolmmfcofbhagaaBrFnExactSameChoices
namespace Go.Proofs.Ytolmmfcofbhagaa.Pure
open Go.RowKit Go.Proofs.Ytolmmfcofbhagaa.C Go.Proofs.YtolmmfcofbhagaaW.PrintWords Go.Proofs.YtolmmfcofbhagaaW.PrintLast Go.Proofs.YtolmmfcofbhagaaW.PrintMore Go.Proofs.Ytolmmfcofbhagaa.Br Go.Proofs.Ytolmmfcofbhagaa.Th
set_option linter.unusedVariables false
set_option linter.unusedSimpArgs false

theorem sm2_map {α β : Type} (f : α → β) (l : List (List (List α))) (h : sm2 l) : sm2 (l.map (List.map (List.map f))) := by
  refine ⟨by simpa using h.1, fun x hx => ?_⟩
  obtain ⟨y, hy, rfl⟩ := List.mem_map.1 hx
  have h2 := h.2 y hy
  refine ⟨by simpa using h2.1, fun x hx => ?_⟩
  obtain ⟨u, hu, rfl⟩ := List.mem_map.1 hx
  have := h2.2 u hu
  unfold sm0 at this ⊢
  simpa using this
theorem FnExactSameChoices : laws_FnExactSameChoices.Pure := by
  intro a l1 l2 l3 l4 l5 b m1 m2 m3 m4 m5 _ h1 h2 h3 h4 h5 _ g1 g2 g3 g4 g5
  refine Ev.rounds ?_
  unfold laws_FnExactSameChoices.f
  obtain ⟨r, hr, hr2⟩ := laws_szChoices_ev a l1 l2 l3 l4 l5 1048576 (by omega) (by omega) h1.1 h2.1 ⟨h3.1, fun x hx => ⟨(h3.2 x hx).1, fun y hy => ((h3.2 x hx).2 y hy).1⟩⟩ ⟨h4.1, fun x hx => ⟨(h4.2 x hx).1, fun y hy => ⟨((h4.2 x hx).2 y hy).1, fun z hz => (((h4.2 x hx).2 y hy).2 z hz).1⟩⟩⟩ ⟨h5.1, fun x hx => ⟨(h5.2 x hx).1, fun y hy => ((h5.2 x hx).2 y hy).1⟩⟩
  refine Ev.bind hr (Ev.succ ?_)
  simp only [laws_FnExactSameChoices.j0]
  by_cases n0 : r < 0
  · simp only [if_pos n0]; exact Ev.now _
  simp only [if_neg n0]
  rcases hr2 with hr2 | hr2
  · exact absurd hr2 n0
  obtain ⟨q, hq, hq2⟩ := laws_szChoices_ev b m1 m2 m3 m4 m5 r (by omega) (by omega) g1.1 g2.1 ⟨g3.1, fun x hx => ⟨(g3.2 x hx).1, fun y hy => ((g3.2 x hx).2 y hy).1⟩⟩ ⟨g4.1, fun x hx => ⟨(g4.2 x hx).1, fun y hy => ⟨((g4.2 x hx).2 y hy).1, fun z hz => (((g4.2 x hx).2 y hy).2 z hz).1⟩⟩⟩ ⟨g5.1, fun x hx => ⟨(g5.2 x hx).1, fun y hy => ((g5.2 x hx).2 y hy).1⟩⟩
  refine Ev.bind hq (Ev.succ ?_)
  simp only [laws_FnExactSameChoices.j1]
  by_cases n1 : q < 0
  · simp only [if_pos n1]; exact Ev.now _
  simp only [if_neg n1]
  rcases hq2 with hq2 | hq2
  · exact absurd hq2 n1
  obtain ⟨_, _, s1, s2, s3, s4, s5⟩ := hr2
  obtain ⟨_, _, u1, u2, u3, u4, u5⟩ := hq2
  have t := laws_toChoices_ev a l1 l2 l3 l4 l5 s1 s2 s3 s4 s5
  have v := laws_toChoices_ev b m1 m2 m3 m4 m5 u1 u2 u3 u4 u5
  have s3' := sm2_map cPush l3 s3
  have u3' := sm2_map cPush m3 u3
  refine Ev.bind t (Ev.bind v (Ev.bind (specSameM_ev a b l1 l2 _ l4 l5 m1 m2 _ m4 m5 s1 s2 s3' s4 s5) (Ev.succ ?_)))
  simp only [laws_FnExactSameChoices.j2]
  refine Ev.bind t (Ev.bind v (Ev.bind (implSameM_ev a l1 l2 _ l4 l5 b m1 m2 _ m4 m5 s1 s2 s3' s4 s5) (Ev.succ ?_)))
  simp only [laws_FnExactSameChoices.j3, bne_self_eq_false, Bool.false_eq_true, if_false]
  refine Ev.bind t (Ev.bind (laws_eqChoices_ev a l1 l2 _ l4 l5 s1 s2 s3' s4 s5) (Ev.succ ?_))
  simp only [laws_FnExactSameChoices.j4, Bool.not_true, Bool.false_eq_true, if_false]
  refine Ev.bind v (Ev.bind (laws_eqChoices_ev b m1 m2 _ m4 m5 u1 u2 u3' u4 u5) ?_)
  simp only [if_true]
  exact Ev.now _
end Go.Proofs.Ytolmmfcofbhagaa.Pure
