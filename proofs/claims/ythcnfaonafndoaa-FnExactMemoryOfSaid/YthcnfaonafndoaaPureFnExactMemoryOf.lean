/- The program's MemoryOf answers as the reference's and changes nothing: for all queries and texts whose lengths are at most the greatest whole number, the law's function answers true. -/
import Derived.Test.YthcnfaonafndoaaPm3
import Derived.Test.YthcnfaonafndoaaBrFnExactMemoryOf
namespace Go.Proofs.Ythcnfaonafndoaa.Pure
open Go.RowKit Go.Proofs.Ythcnfaonafndoaa.M Go.Proofs.YthcnfaonafndoaaW.PrintWords Go.Proofs.YthcnfaonafndoaaW.PrintLast Go.Proofs.YthcnfaonafndoaaW.PrintMore Go.Proofs.Ythcnfaonafndoaa.Br Go.Proofs.Ythcnfaonafndoaa.Th
set_option linter.unusedVariables false
set_option linter.unusedSimpArgs false

theorem FnExactMemoryOf : laws_FnExactMemoryOf.Pure := by
  intro l0 a h0 _
  have s0 : ∀ x ∈ l0, x.f1.size ≤ 9223372036854775807 := fun x hx => (h0.2 x hx).2
  refine Ev.rounds ?_
  unfold laws_FnExactMemoryOf.f
  by_cases n1 : (a.size : Int) > 1048576
  · simp only [if_pos n1]; exact Ev.now _
  simp only [if_neg n1]
  obtain ⟨r, hr, hr2⟩ := szQuery_ev l0 1048576 (by omega) (by omega) h0.1 s0
  refine Ev.bind hr ?_
  by_cases n0 : r < 0
  · simp only [if_pos n0]; exact Ev.now _
  simp only [if_neg n0]
  have t0 := toQuery_ev l0 (by omega)
  have len0 := toQ_length l0
  have hn : a.size ≤ 1048576 := by omega
  have hl : (toQ l0).length ≤ 1048576 := by omega
  refine Ev.bind t0 (Ev.bind (sMemory_ev _ a hl hn) (Ev.bind t0 (Ev.bind (iMemory_ev _ a hl hn) ?_)))
  simp only [bne_self_eq_false, if_true]
  refine Ev.succ ?_
  simp only [laws_FnExactMemoryOf.j0, Bool.false_eq_true, if_false]
  refine Ev.bind t0 (Ev.bind (eqQuery_ev _ hl) ?_)
  simp only [if_true]
  exact Ev.now _
end Go.Proofs.Ythcnfaonafndoaa.Pure
