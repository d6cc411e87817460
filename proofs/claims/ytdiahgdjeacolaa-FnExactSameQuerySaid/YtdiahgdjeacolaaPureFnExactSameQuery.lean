/- The program's SameQuery answers as the reference's and changes nothing: for all queries whose rows' and texts' lengths are at most the greatest whole number, the law's function answers true. -/
import Derived.Test.YtdiahgdjeacolaaPx10
import Derived.Test.YtdiahgdjeacolaaPx36
import Derived.Test.YtdiahgdjeacolaaBrFnExactSameQuery
namespace Go.Proofs.Ytdiahgdjeacolaa.Pure
open Go.RowKit Go.Proofs.Ytdiahgdjeacolaa.P Go.Proofs.YtdiahgdjeacolaaW.PrintWords Go.Proofs.YtdiahgdjeacolaaW.PrintLast Go.Proofs.YtdiahgdjeacolaaW.PrintMore Go.Proofs.Ytdiahgdjeacolaa.Br Go.Proofs.Ytdiahgdjeacolaa.Th
set_option linter.unusedVariables false
set_option linter.unusedSimpArgs false

theorem FnExactSameQuery : laws_FnExactSameQuery.Pure := by
  intro l0 l1 h0 h1
  have s0 : ∀ x ∈ l0, x.f1.size ≤ 9223372036854775807 := fun x hx => (h0.2 x hx).2
  have s1 : ∀ x ∈ l1, x.f1.size ≤ 9223372036854775807 := fun x hx => (h1.2 x hx).2
  refine Ev.rounds ?_
  unfold laws_FnExactSameQuery.f
  obtain ⟨r, hr, hr2⟩ := szQuery_ev l0 1048576 (by omega) (by omega) h0.1 s0
  refine Ev.bind hr ?_
  by_cases n0 : r < 0
  · simp only [if_pos n0]; exact Ev.now _
  simp only [if_neg n0]
  obtain ⟨q, hq, hq2⟩ := szQuery_ev l1 r (by omega) (by omega) h1.1 s1
  refine Ev.bind hq ?_
  by_cases n1 : q < 0
  · simp only [if_pos n1]; exact Ev.now _
  simp only [if_neg n1]
  have t0 := toQuery_ev l0 (by omega)
  have t1 := toQuery_ev l1 (by omega)
  have len0 := toQ_length l0
  have len1 := toQ_length l1
  refine Ev.bind t0 (Ev.bind t1 (Ev.bind (a := sameSteps (toQ l0) (toQ l1)) ?_ (Ev.bind t0 (Ev.bind t1 (Ev.bind (implSame_ev _ _ (by omega)) ?_)))))
  · unfold spec_SameQuery.f
    exact Ev.bind (specSame_ev _ _ (by omega)) (Ev.now _)
  · simp only [bne_self_eq_false, Bool.false_eq_true, if_false]
    refine Ev.bind t0 (Ev.bind (eqQuery_ev _ (by omega)) ?_)
    simp only [if_true]
    refine Ev.bind t1 (Ev.bind (eqQuery_ev _ (by omega)) ?_)
    simp only [if_true]
    exact Ev.now _
end Go.Proofs.Ytdiahgdjeacolaa.Pure
