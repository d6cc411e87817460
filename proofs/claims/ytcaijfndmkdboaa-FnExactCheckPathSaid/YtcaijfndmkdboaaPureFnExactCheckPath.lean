/- The program's CheckPath answers as the reference's and changes nothing: for all queries, texts and lists of places whose lengths are at most the greatest whole number, the law's function answers true. -/
import Derived.Test.YtcaijfndmkdboaaPk13
import Derived.Test.YtcaijfndmkdboaaBrFnExactCheckPath
namespace Go.Proofs.Ytcaijfndmkdboaa.Pure
open Go.RowKit Go.Proofs.Ytcaijfndmkdboaa.K Go.Proofs.YtcaijfndmkdboaaW.PrintWords Go.Proofs.YtcaijfndmkdboaaW.PrintLast Go.Proofs.YtcaijfndmkdboaaW.PrintMore Go.Proofs.Ytcaijfndmkdboaa.Br Go.Proofs.Ytcaijfndmkdboaa.Th
set_option linter.unusedVariables false
set_option linter.unusedSimpArgs false

theorem FnExactCheckPath : laws_FnExactCheckPath.Pure := by
  intro l0 a path h0 _ _
  have s0 : ∀ x ∈ l0, x.f1.size ≤ 9223372036854775807 := fun x hx => (h0.2 x hx).2
  refine Ev.rounds ?_
  unfold laws_FnExactCheckPath.f
  by_cases n1 : (a.size : Int) > 1048576
  · simp only [if_pos n1]; exact Ev.now _
  by_cases n2 : (path.length : Int) > 1048576
  · simp only [if_neg n1, if_pos n2]; exact Ev.now _
  simp only [if_neg n1, if_neg n2]
  obtain ⟨r, hr, hr2⟩ := szQuery_ev l0 1048576 (by omega) (by omega) h0.1 s0
  refine Ev.bind hr ?_
  by_cases n0 : r < 0
  · simp only [if_pos n0]; exact Ev.now _
  simp only [if_neg n0]
  have t0 := toQuery_ev l0 (by omega)
  have len0 := toQ_length l0
  have tp := laws_toInt64S_ev path (show path.length ≤ 1048576 by omega)
  have hn : a.size ≤ 1048576 := by omega
  have hp : path.length ≤ 1048576 := by omega
  have hl : (toQ l0).length ≤ 1048576 := by omega
  refine Ev.bind t0 (Ev.bind tp (Ev.bind (specCheck_ev _ a path hn hl hp) (Ev.bind t0 (Ev.bind tp (Ev.bind (implCheck_ev _ a path hn hl hp) ?_)))))
  simp only [bne_self_eq_false, Bool.false_eq_true, if_false]
  refine Ev.succ ?_
  simp only [laws_FnExactCheckPath.j0, Bool.false_eq_true, if_false]
  refine Ev.bind t0 (Ev.bind (eqQuery_ev _ hl) ?_)
  simp only [if_true]
  refine Ev.bind tp (Ev.bind (eqInts_ev path (by omega)) ?_)
  simp only [if_true]
  exact Ev.now _
end Go.Proofs.Ytcaijfndmkdboaa.Pure
