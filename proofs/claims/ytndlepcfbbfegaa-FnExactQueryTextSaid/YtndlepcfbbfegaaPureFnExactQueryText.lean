/- The program's QueryText answers as the reference's and changes nothing: for all queries whose rows' and texts' lengths are at most the greatest whole number, the law's function answers true. -/
import Derived.Test.YtndlepcfbbfegaaPx9
import Derived.Test.YtndlepcfbbfegaaBrFnExactQueryText
namespace Go.Proofs.Ytndlepcfbbfegaa.Pure
open Go.RowKit Go.Proofs.Ytndlepcfbbfegaa.P Go.Proofs.YtndlepcfbbfegaaW.PrintWords Go.Proofs.YtndlepcfbbfegaaW.PrintLast Go.Proofs.YtndlepcfbbfegaaW.PrintMore Go.Proofs.Ytndlepcfbbfegaa.Br Go.Proofs.Ytndlepcfbbfegaa.Th
set_option linter.unusedVariables false
set_option linter.unusedSimpArgs false

theorem FnExactQueryText : laws_FnExactQueryText.Pure := by
  intro l0 h0
  have s0 : ∀ x ∈ l0, x.f1.size ≤ 9223372036854775807 := fun x hx => (h0.2 x hx).2
  refine Ev.rounds ?_
  unfold laws_FnExactQueryText.f
  obtain ⟨r, hr, hr2⟩ := szQuery_ev l0 1048576 (by omega) (by omega) h0.1 s0
  refine Ev.bind hr ?_
  by_cases n0 : r < 0
  · simp only [if_pos n0]; exact Ev.now _
  simp only [if_neg n0]
  have t0 := toQuery_ev l0 (by omega)
  have len0 := toQ_length l0
  have hz := toQ_sizes l0 (by rcases hr2 with h_ | h_; exact absurd h_ n0; exact h_.2.2.2)
  refine Ev.bind t0 (Ev.bind (specQText_ev _ (by omega) hz) (Ev.bind t0 (Ev.bind (implQText_ev _ (by omega) hz) ?_)))
  simp only [eq_self, if_true]
  refine Ev.bind t0 (Ev.bind (eqQuery_ev _ (by omega)) ?_)
  simp only [if_true]
  exact Ev.now _
end Go.Proofs.Ytndlepcfbbfegaa.Pure
