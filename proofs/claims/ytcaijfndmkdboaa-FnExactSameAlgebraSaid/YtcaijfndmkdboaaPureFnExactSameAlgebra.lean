/- The program's SameAlgebra answers as the reference's and changes nothing: for all algebras whose rows' lengths are at most the greatest whole number, the law's function answers true. -/
import Derived.Test.YtcaijfndmkdboaaPx8
import Derived.Test.YtcaijfndmkdboaaBrFnExactSameAlgebra
namespace Go.Proofs.Ytcaijfndmkdboaa.Pure
open Go.RowKit Go.Proofs.Ytcaijfndmkdboaa.P Go.Proofs.YtcaijfndmkdboaaW.PrintWords Go.Proofs.YtcaijfndmkdboaaW.PrintLast Go.Proofs.YtcaijfndmkdboaaW.PrintMore Go.Proofs.Ytcaijfndmkdboaa.Br Go.Proofs.Ytcaijfndmkdboaa.Th
set_option linter.unusedVariables false
set_option linter.unusedSimpArgs false

theorem FnExactSameAlgebra : laws_FnExactSameAlgebra.Pure := by
  intro l0 l1 l2 l3 m0 m1 m2 m3 h0 h1 h2 h3 g0 g1 g2 g3
  refine Ev.rounds ?_
  unfold laws_FnExactSameAlgebra.f
  obtain ⟨r, hr, hr2⟩ := laws_szAlgebra_ev l0 l1 l2 l3 1048576 (by omega) (by omega) ⟨h0.1, fun x hx => (h0.2 x hx).1⟩ ⟨h1.1, fun x hx => (h1.2 x hx).1⟩ h2.1 h3.1
  refine Ev.bind hr (Ev.succ ?_)
  simp only [laws_FnExactSameAlgebra.j0]
  by_cases n0 : r < 0
  · simp only [if_pos n0]; exact Ev.now _
  simp only [if_neg n0]
  rcases hr2 with hr2 | hr2
  · exact absurd hr2 n0
  obtain ⟨q, hq, hq2⟩ := laws_szAlgebra_ev m0 m1 m2 m3 r (by omega) (by omega) ⟨g0.1, fun x hx => (g0.2 x hx).1⟩ ⟨g1.1, fun x hx => (g1.2 x hx).1⟩ g2.1 g3.1
  refine Ev.bind hq (Ev.succ ?_)
  simp only [laws_FnExactSameAlgebra.j1]
  by_cases n1 : q < 0
  · simp only [if_pos n1]; exact Ev.now _
  simp only [if_neg n1]
  rcases hq2 with hq2 | hq2
  · exact absurd hq2 n1
  obtain ⟨_, _, s0, s1, s2, s3⟩ := hr2
  obtain ⟨_, _, u0, u1, u2, u3⟩ := hq2
  have t := laws_toAlgebra_ev l0 l1 l2 l3 s0 s1 s2 s3
  have v := laws_toAlgebra_ev m0 m1 m2 m3 u0 u1 u2 u3
  refine Ev.bind t (Ev.bind v (Ev.bind (specSameAl_ev l0 l1 l2 l3 m0 m1 m2 m3 s0 s1 s2 s3) (Ev.succ ?_)))
  simp only [laws_FnExactSameAlgebra.j2]
  refine Ev.bind t (Ev.bind v (Ev.bind (implSameAl_ev l0 l1 l2 l3 m0 m1 m2 m3 s0 s1 s2 s3) (Ev.succ ?_)))
  simp only [laws_FnExactSameAlgebra.j3, bne_self_eq_false, Bool.false_eq_true, if_false]
  refine Ev.bind t (Ev.bind (laws_eqAlgebra_ev l0 l1 l2 l3 s0 s1 s2 s3) (Ev.succ ?_))
  simp only [laws_FnExactSameAlgebra.j4, Bool.not_true, Bool.false_eq_true, if_false]
  refine Ev.bind v (Ev.bind (laws_eqAlgebra_ev m0 m1 m2 m3 u0 u1 u2 u3) ?_)
  simp only [if_true]
  exact Ev.now _
end Go.Proofs.Ytcaijfndmkdboaa.Pure
