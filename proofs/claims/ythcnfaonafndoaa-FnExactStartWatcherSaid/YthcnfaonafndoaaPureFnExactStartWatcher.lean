/- The program's StartWatcher answers as the reference's, hands back new memory and changes nothing: for all queries whose rows' and texts' lengths are at most the greatest whole number, the law's function answers true. -/
import Derived.Test.YthcnfaonafndoaaPs0
import Derived.Test.YthcnfaonafndoaaPs4
import Derived.Test.YthcnfaonafndoaaPs11
import Derived.Test.YthcnfaonafndoaaPs12
import Derived.Test.YthcnfaonafndoaaPs15
import Derived.Test.YthcnfaonafndoaaPs25
import Derived.Test.YthcnfaonafndoaaPs31
import Derived.Test.YthcnfaonafndoaaPs32
import Derived.Test.YthcnfaonafndoaaPs7000001
import Derived.Test.YthcnfaonafndoaaBrFnExactStartWatcher
namespace Go.Proofs.Ythcnfaonafndoaa.Pure
open Go.RowKit Go.Proofs.Ythcnfaonafndoaa.S Go.Proofs.YthcnfaonafndoaaW.PrintWords Go.Proofs.YthcnfaonafndoaaW.PrintLast Go.Proofs.YthcnfaonafndoaaW.PrintMore Go.Proofs.Ythcnfaonafndoaa.Br Go.Proofs.Ythcnfaonafndoaa.Th
set_option linter.unusedVariables false
set_option linter.unusedSimpArgs false

/-- What StartWatcher tells. -/
def startR (l : List S66) : List S66 × Int × List Int × List (List Int) × Int := if okQ l = true then (l, 0, [0], [], 0) else ([], 0, [], [], 1)
theorem sStart_ev (l : List S66) (hl : l.length ≤ 1048576) : Ev (fun k => spec_StartWatcher.f k l) (startR l) := by
  unfold spec_StartWatcher.f startR spec_l05Query.f
  refine Ev.bind (specOkQ_ev l hl) ?_
  by_cases h : okQ l = true
  · simp only [h, if_true, Option.bind_some, List.length_nil, Nat.zero_add, if_pos (show l.length < 5864062014805 by omega), List.nil_append]
    exact Ev.now _
  · simp only [h, if_false]
    exact Ev.now _
theorem iStart_ev (l : List S66) (hl : l.length ≤ 1048576) : Ev (fun k => impl_StartWatcher.f k l) (startR l) := by
  unfold impl_StartWatcher.f startR impl_newWatcher.f slices_Clone_Limpl_QueryStep_impl_QueryStep.f
  refine Ev.bind (implValidQ_ev l hl) ?_
  by_cases h : okQ l = true
  · simp only [h, if_true, if_pos (show l.length < 5864062014805 by omega), Option.bind_some]
    exact Ev.now _
  · simp only [h, if_false]
    exact Ev.now _
theorem markW_ev (F : Int → ByteArray) (hF : ∀ x : Int, x ≤ 1099511627776 → Ev (fun k => laws_markText.f k x) (F x)) (l : List S66) (hl : l.length ≤ 1048576) (a : Int) (m : List Int) (hm : m.length ≤ 1) :
    Ev (fun k => laws_markWatcher.f k l a m [] 1) (1 + 2 * (l.length : Int) + m.length, mqs F 1 l.length, up (1 + 2 * (l.length : Int)) m.length) := by
  unfold laws_markWatcher.f laws_markInt64SS.f
  refine Ev.bind (markQ_ev F hF l (by omega)) (Ev.bind (markInts_ev m (by omega) _ (by omega) (by omega)) ?_)
  simp only [List.length_nil, if_true, Option.bind_some]
  exact Ev.now _
theorem heldW_ev (F : Int → ByteArray) (hF : ∀ x : Int, x ≤ 1099511627776 → Ev (fun k => laws_markText.f k x) (F x)) (n : Nat) (hn : n ≤ 1048576) (a : Int) (m : Nat) (hm : m ≤ 1) :
    Ev (fun k => laws_heldWatcher.f k (mqs F 1 n) a (up (1 + 2 * (n : Int)) m) [] 1) (1 + 2 * (n : Int) + m) := by
  have c1 : ¬ (1 + 2 * (n : Int)) < 0 := by omega
  have c2 : ¬ (1 + 2 * (n : Int) + m) < 0 := by omega
  have e3 : Ev (fun k => laws_heldInt64SS.f k [] (1 + 2 * (n : Int) + m)) (1 + 2 * (n : Int) + m) := by
    unfold laws_heldInt64SS.f
    refine Ev.succ ?_
    simp only [laws_heldInt64SS.l0, List.length_nil, Int.natCast_zero, Int.lt_irrefl, if_false]
    exact Ev.now _
  unfold laws_heldWatcher.f
  refine Ev.bind (heldQ_ev F hF n (by omega)) ?_
  simp only [if_neg c1]
  refine Ev.bind (heldInts_ev m (by omega) _ (by omega) (by omega)) ?_
  simp only [if_neg c2]
  refine Ev.bind e3 ?_
  simp only [if_neg c2]
  exact Ev.now _

theorem FnExactStartWatcher : laws_FnExactStartWatcher.Pure := by
  intro l0 h0
  have s0 : ∀ x ∈ l0, x.f1.size ≤ 9223372036854775807 := fun x hx => (h0.2 x hx).2
  refine Ev.rounds ?_
  unfold laws_FnExactStartWatcher.f
  obtain ⟨r, hr, hr2⟩ := szQuery_ev l0 1048576 (by omega) (by omega) h0.1 s0
  refine Ev.bind hr ?_
  by_cases n0 : r < 0
  · simp only [if_pos n0]; exact Ev.now _
  simp only [if_neg n0]
  have t0 := toQuery_ev l0 (by omega)
  have len0 := toQ_length l0
  have hl : (toQ l0).length ≤ 1048576 := by omega
  obtain ⟨F, hF⟩ := markText_all
  obtain ⟨q, m, c, hR, hq, hm⟩ : ∃ q m c, startR (toQ l0) = (q, 0, m, [], c) ∧ q.length ≤ 1048576 ∧ m.length ≤ 1 := by
    unfold startR
    split
    · exact ⟨_, _, _, rfl, hl, by decide⟩
    · exact ⟨_, _, _, rfl, by decide, by decide⟩
  have hs := sStart_ev (toQ l0) hl
  have hi := iStart_ev (toQ l0) hl
  rw [hR] at hs hi
  have eW := laws_eqWatcher_ev q 0 m [] hq (by unfold sm0; omega) ⟨by decide, fun x hx => by simp at hx⟩
  have c1 : ¬ (1 + 2 * (q.length : Int) + m.length) < 0 := by omega
  have c2 : ¬ (1 + 2 * ((toQ l0).length : Int)) < 0 := by omega
  refine Ev.bind t0 (Ev.bind hs (Ev.bind t0 (Ev.bind hi (Ev.bind eW ?_))))
  simp only [if_true, bne_self_eq_false]
  refine Ev.succ ?_
  simp only [laws_FnExactStartWatcher.j0, Bool.false_eq_true, if_false]
  refine Ev.bind t0 (Ev.bind (eqQuery_ev _ hl) ?_)
  simp only [if_true]
  refine Ev.bind (markQ_ev F hF _ (by omega)) ?_
  simp only [if_neg c2]
  refine Ev.bind eW ?_
  simp only [if_true, bne_self_eq_false]
  refine Ev.succ ?_
  simp only [laws_FnExactStartWatcher.j1, Bool.false_eq_true, if_false]
  refine Ev.bind (markW_ev F hF q hq 0 m hm) (Ev.bind (heldW_ev F hF q.length hq 0 m.length hm) ?_)
  simp only [if_neg c1, if_true]
  refine Ev.bind t0 (Ev.bind hi (Ev.bind eW ?_))
  simp only [if_true, bne_self_eq_false]
  refine Ev.succ ?_
  simp only [laws_FnExactStartWatcher.j2, Bool.false_eq_true, if_false]
  refine Ev.bind (heldW_ev F hF q.length hq 0 m.length hm) ?_
  simp only [if_neg c1, if_true]
  exact Ev.now _
end Go.Proofs.Ythcnfaonafndoaa.Pure
