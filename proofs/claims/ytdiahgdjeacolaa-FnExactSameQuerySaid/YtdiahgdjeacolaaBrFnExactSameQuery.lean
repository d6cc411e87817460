/- What the law FnExactSameQuery leans on: plain facts, and what the printed functions that it reaches come to; for all arguments that the facts name. -/
import Derived.Test.YtdiahgdjeacolaaPx0
import Derived.Test.YtdiahgdjeacolaaPx35
import Derived.Test.YtdiahgdjeacolaaPx37
import Derived.Test.YtdiahgdjeacolaaPx38
import Derived.Test.YtdiahgdjeacolaaPx39
import Derived.Test.YtdiahgdjeacolaaPx67
import Derived.Test.YtdiahgdjeacolaaPx68
import Derived.Test.YtdiahgdjeacolaaPx69
import Derived.Test.YtdiahgdjeacolaaPx70
import Derived.Test.YtdiahgdjeacolaaPx71
import Derived.Test.YtdiahgdjeacolaaPx91
import Derived.Test.YtdiahgdjeacolaaPx92
import Derived.Test.YtdiahgdjeacolaaPx93
namespace Go.Proofs.Ytdiahgdjeacolaa.Th

def g (l : List Int) (j : Nat) : Int := l.getD j 0

end Go.Proofs.Ytdiahgdjeacolaa.Th
namespace Go.Proofs.Ytdiahgdjeacolaa.Br
open Go.RowKit Go.Proofs.Ytdiahgdjeacolaa.P Go.Proofs.YtdiahgdjeacolaaW.PrintWords Go.Proofs.YtdiahgdjeacolaaW.PrintLast Go.Proofs.YtdiahgdjeacolaaW.PrintMore Go.Proofs.Ytdiahgdjeacolaa.Th
set_option linter.unusedVariables false
set_option linter.unusedSimpArgs false
theorem Ev.succ {α : Type} {g : Nat → Option α} {r : α} (h : Ev (fun k => g (k + 1)) r) : Ev g r := by
  obtain ⟨K, hK⟩ := h
  refine ⟨K + 1, fun k hk => ?_⟩
  obtain ⟨m, rfl⟩ : ∃ m, k = m + 1 := ⟨k - 1, by omega⟩
  exact hK m (by omega)
theorem Ev.done {α : Type} {r s : α} (h : r = s) : Ev (fun _ : Nat => some r) s := h ▸ Ev.now r
theorem w64 {x : Int} (h0 : -9223372036854775808 ≤ x) (h1 : x ≤ 9223372036854775807) : wrap64 x = x := by unfold wrap64; omega

end Go.Proofs.Ytdiahgdjeacolaa.Br
namespace Go.Proofs.Ytdiahgdjeacolaa.Br
open Go.RowKit Go.Proofs.Ytdiahgdjeacolaa.P Go.Proofs.YtdiahgdjeacolaaW.PrintWords Go.Proofs.YtdiahgdjeacolaaW.PrintLast Go.Proofs.YtdiahgdjeacolaaW.PrintMore Go.Proofs.Ytdiahgdjeacolaa.Th
set_option linter.unusedVariables false
set_option linter.unusedSimpArgs false
theorem down {P : Nat → Prop} (n : Nat) (h0 : P n) (h1 : ∀ i, i < n → P (i + 1) → P i) : ∀ i, i ≤ n → P i := by
  have key : ∀ d i, i + d = n → P i := by
    intro d
    induction d with
    | zero => intro i hi; obtain rfl : i = n := by omega
              exact h0
    | succ d ih => intro i hi; exact h1 i (by omega) (ih (i + 1) (by omega))
  intro i hi
  exact key (n - i) i (by omega)
theorem up1 (i : Nat) (h : i < 9223372036854775807) : wrap64 ((i : Int) + 1) = ((i + 1 : Nat) : Int) := by
  rw [w64 (by omega) (by omega)]; rfl
theorem ilt {i n : Nat} (h : i < n) : (i : Int) < (n : Int) := by omega
theorem inlt {n : Nat} : ¬ ((n : Int) < (n : Int)) := by omega
theorem i0 (i : Nat) : 0 ≤ (i : Int) := by omega
theorem getD_mem {α : Type} (l : List α) (i : Nat) (d : α) (h : i < l.length) : l.getD i d ∈ l := by
  rw [List.getD_eq_getElem?_getD, List.getElem?_eq_getElem h]
  exact List.getElem_mem h
theorem take1 (a : Int) (n : Nat) (h0 : 0 ≤ a) (h1 : a ≤ 1048576) (hn : n ≤ 9223372036854775807) : wrap64 (a - (n : Int)) = a - (n : Int) := w64 (by omega) (by omega)

/-! ### laws' queries -/
theorem szQueryStep_ev (b : Bool) (s : ByteArray) (a : Int) (h0 : 0 ≤ a) (h1 : a ≤ 1048576) (hs : s.size ≤ 9223372036854775807) :
    ∃ r, laws_szQueryStep.f b s a = some r ∧ (r < 0 ∨ (0 ≤ r ∧ r ≤ a ∧ (s.size : Int) ≤ 1048576)) := by
  unfold laws_szQueryStep.f
  rw [take1 a _ h0 h1 hs]
  by_cases h : a - (s.size : Int) < 0
  · exact ⟨-1, by rw [if_pos h], .inl (by omega)⟩
  · exact ⟨_, by rw [if_neg h], .inr (by omega)⟩
theorem szQuery_ev (l : List S99) (a : Int) (h0 : 0 ≤ a) (h1 : a ≤ 1048576) (hl : l.length ≤ 9223372036854775807) (hs : ∀ x ∈ l, x.f1.size ≤ 9223372036854775807) :
    ∃ r, Ev (fun k => laws_szQuery.f k l a) r ∧ (r < 0 ∨ (0 ≤ r ∧ r ≤ a ∧ (l.length : Int) ≤ 1048576 ∧ ∀ x ∈ l, (x.f1.size : Int) ≤ 1048576)) := by
  have loop : ∀ i, i ≤ l.length → ∀ c, 0 ≤ c → c ≤ 1048576 → ∃ r, Ev (fun k => laws_szQueryStepS.l0 k l c i) r ∧ (r < 0 ∨ (0 ≤ r ∧ r ≤ c ∧ ∀ j, i ≤ j → j < l.length → ((l.getD j z99).f1.size : Int) ≤ 1048576)) := by
    refine down l.length ?_ ?_
    · intro c hc _
      refine ⟨c, Ev.succ ?_, .inr ⟨hc, by omega, fun j h1 h2 => by omega⟩⟩
      simp only [laws_szQueryStepS.l0, if_neg inlt]
      exact Ev.now _
    · intro i hi ih c hc hc2
      have hm := getD_mem l i z99 hi
      obtain ⟨r, hr, hr2⟩ := szQueryStep_ev (l.getD i z99).f0 (l.getD i z99).f1 c hc hc2 (hs _ hm)
      by_cases hneg : r < 0
      · refine ⟨-1, Ev.succ ?_, .inl (by omega)⟩
        simp only [laws_szQueryStepS.l0, if_pos (ilt hi), if_pos (i0 i), rd_T99, Int.toNat_natCast, hr, Option.bind_some, if_pos hneg]
        exact Ev.now _
      · obtain ⟨q, hq, hq2⟩ := ih r (by omega) (by omega)
        refine ⟨q, Ev.succ ?_, ?_⟩
        · simp only [laws_szQueryStepS.l0, if_pos (ilt hi), if_pos (i0 i), rd_T99, Int.toNat_natCast, hr, Option.bind_some, if_neg hneg, up1 i (by omega)]
          exact hq
        · rcases hq2 with hq2 | ⟨q0, q1, q2⟩
          · exact .inl hq2
          · refine .inr ⟨q0, by omega, fun j hj1 hj2 => ?_⟩
            by_cases e : j = i
            · subst e; omega
            · exact q2 j (by omega) hj2
  unfold laws_szQuery.f laws_szQueryStepS.f
  rw [take1 a _ h0 h1 hl]
  by_cases h : a - (l.length : Int) < 0
  · exact ⟨-1, by simp only [if_pos h, Option.bind_some, show ((-1 : Int) < 0) = True from eq_true (by decide), if_true]; exact Ev.now _, .inl (by omega)⟩
  · obtain ⟨r, hr, hr2⟩ := loop 0 (by omega) (a - (l.length : Int)) (by omega) (by omega)
    by_cases hneg : r < 0
    · exact ⟨-1, by simp only [if_neg h]; exact hr.bind (by simp only [if_pos hneg]; exact Ev.now _), .inl (by omega)⟩
    · refine ⟨r, by simp only [if_neg h]; exact hr.bind (by simp only [if_neg hneg]; exact Ev.now _), .inr ⟨by omega, by omega, by omega, fun x hx => ?_⟩⟩
      obtain ⟨j, hj⟩ := List.getElem?_of_mem hx
      rcases hr2 with h2 | ⟨_, _, h2⟩
      · omega
      · have hlt := (List.getElem?_eq_some_iff.1 hj).1
        have := h2 j (by omega) hlt
        rwa [List.getD_eq_getElem?_getD, hj] at this
/-- A law's query as the program's. -/
def toQ (l : List S99) : List S86 := l.map fun x => ⟨x.f0, x.f1⟩
theorem toQuery_ev (l : List S99) (hl : l.length ≤ 1048576) : Ev (fun k => laws_toQuery.f k l) (toQ l) := by
  have loop : ∀ i, i ≤ l.length → ∀ o : List S86, o.length = l.length → o.take i = (toQ l).take i → Ev (fun k => laws_toQueryStepS.l0 k l o i) (toQ l) := by
    refine down l.length ?_ ?_
    · intro o ho ht
      have : o = toQ l := by rw [← List.take_length (l := o), ho, ht, List.take_of_length_le (by simp [toQ])]
      refine Ev.succ ?_
      simp only [laws_toQueryStepS.l0, if_neg inlt]
      exact Ev.done (by rw [this])
    · intro i hi ih o ho ht
      refine Ev.succ ?_
      simp only [laws_toQueryStepS.l0, if_pos (ilt hi), if_pos (i0 i), rd_T99, Int.toNat_natCast, laws_toQueryStep.f, Option.bind_some, if_pos (ilt (show i < o.length by omega)), up1 i (by omega)]
      refine ih _ (by simpa using ho) ?_
      rw [List.take_add_one, List.take_add_one, List.take_set_of_le (by omega), ht]
      have e1 : (o.set i (⟨(l.getD i z99).f0, (l.getD i z99).f1⟩ : S86))[i]? = some ⟨(l.getD i z99).f0, (l.getD i z99).f1⟩ := by
        rw [List.getElem?_set_self (by omega)]
      have e2 : (toQ l)[i]? = some ⟨(l.getD i z99).f0, (l.getD i z99).f1⟩ := by
        unfold toQ
        rw [List.getElem?_map, List.getElem?_eq_getElem hi, List.getD_eq_getElem?_getD, List.getElem?_eq_getElem hi]
        rfl
      rw [e1, e2]
  unfold laws_toQuery.f laws_toQueryStepS.f
  simp only [if_pos (i0 l.length), Int.toNat_natCast, if_pos (show l.length ≤ 11728124029610 by omega)]
  refine Ev.bind (loop 0 (by omega) _ (by simp) (by simp)) (Ev.now _)
theorem eqQuery_ev (l : List S86) (hl : l.length ≤ 1048576) : Ev (fun k => laws_eqQuery.f k l l) true := by
  have loop : ∀ i, i ≤ l.length → Ev (fun k => laws_eqQueryStepS.l0 k l l i) true := by
    refine down l.length ?_ ?_
    · refine Ev.succ ?_
      simp only [laws_eqQueryStepS.l0, if_neg inlt]
      exact Ev.now _
    · intro i hi ih
      refine Ev.succ ?_
      simp only [laws_eqQueryStepS.l0, if_pos (ilt hi), if_pos (i0 i), laws_eqQueryStep.f, bne_self_eq_false, Bool.false_eq_true, if_false, if_true, Option.bind_some, up1 i (by omega)]
      exact ih
  unfold laws_eqQuery.f laws_eqQueryStepS.f
  simp only [if_true]
  exact Ev.bind (loop 0 (by omega)) (by simp only [if_true]; exact Ev.now _)
/-- Are two steps unlike. -/
def neStep (x y : S86) : Bool := !(x.f0 == y.f0) || !(x.f1.toList == y.f1.toList)
def allSteps (x y : List S86) (i : Nat) : Bool := (List.range x.length).all fun j => decide (j < i) || !(neStep (x.getD j z86) (y.getD j z86))
theorem allSteps_end (x y : List S86) : allSteps x y x.length = true := by
  unfold allSteps
  rw [List.all_eq_true]
  intro j hj
  simp [List.mem_range.1 hj]
theorem allSteps_no (x y : List S86) (i : Nat) (hi : i < x.length) (h : neStep (x.getD i z86) (y.getD i z86) = true) : allSteps x y i = false := by
  unfold allSteps
  rw [List.all_eq_false]
  exact ⟨i, List.mem_range.2 hi, by simp only [h]; simp⟩
theorem allSteps_yes (x y : List S86) (i : Nat) (hi : i < x.length) (h : neStep (x.getD i z86) (y.getD i z86) = false) : allSteps x y i = allSteps x y (i + 1) := by
  unfold allSteps
  apply Bool.eq_iff_iff.2
  rw [List.all_eq_true, List.all_eq_true]
  constructor
  · intro H j hj
    have := H j hj
    simp only [Bool.or_eq_true, decide_eq_true_eq] at this ⊢
    rcases this with h1 | h1
    · exact .inl (by omega)
    · exact .inr h1
  · intro H j hj
    have := H j hj
    simp only [Bool.or_eq_true, decide_eq_true_eq] at this ⊢
    by_cases e : j = i
    · subst e; exact .inr (by rw [h]; rfl)
    · rcases this with h1 | h1
      · exact .inl (by omega)
      · exact .inr h1
def sameSteps (x y : List S86) : Bool := decide (x.length = y.length) && allSteps x y 0
theorem implSame_ev (x y : List S86) (hx : x.length ≤ 1048576) : Ev (fun k => impl_SameQuery.f k x y) (sameSteps x y) := by
  unfold impl_SameQuery.f slices_Equal_Limpl_QueryStep_impl_QueryStep.f sameSteps
  by_cases h : x.length = y.length
  · have loop : ∀ i, i ≤ x.length → Ev (fun k => slices_Equal_Limpl_QueryStep_impl_QueryStep.l0 k x y (x.length : Int) i) (allSteps x y i) := by
      refine down x.length ?_ ?_
      · refine Ev.succ ?_
        simp only [slices_Equal_Limpl_QueryStep_impl_QueryStep.l0, if_neg inlt]
        exact Ev.done (allSteps_end x y).symm
      · intro i hi ih
        refine Ev.succ ?_
        simp only [slices_Equal_Limpl_QueryStep_impl_QueryStep.l0, if_pos (ilt hi), if_pos (i0 i), if_pos (ilt (show i < y.length by omega)), rd_T86, Int.toNat_natCast, up1 i (by omega)]
        by_cases e : neStep (x.getD i z86) (y.getD i z86) = true
        · rw [allSteps_no x y i hi e]
          unfold neStep at e
          simp only [if_pos e]
          exact Ev.now _
        · rw [allSteps_yes x y i hi (by simpa using e)]
          unfold neStep at e
          simp only [if_neg e]
          exact ih
    simp only [if_pos (show (x.length : Int) = (y.length : Int) by omega), decide_eq_true h, Bool.true_and]
    exact Ev.bind (loop 0 (by omega)) (Ev.now _)
  · simp only [if_neg (show ¬ (x.length : Int) = (y.length : Int) by omega), decide_eq_false h, Bool.false_and, Option.bind_some]
    exact Ev.now _
theorem specSame_ev (x y : List S86) (hx : x.length ≤ 1048576) : Ev (fun k => spec_l05Same.f k x y) (sameSteps x y) := by
  unfold spec_l05Same.f sameSteps
  by_cases h : x.length = y.length
  · have loop : ∀ i, i ≤ x.length → Ev (fun k => spec_l05Same.l0 k i x y) (allSteps x y i) := by
      refine down x.length ?_ ?_
      · refine Ev.succ ?_
        simp only [spec_l05Same.l0, if_neg inlt]
        exact Ev.done (allSteps_end x y).symm
      · intro i hi ih
        refine Ev.succ ?_
        simp only [spec_l05Same.l0, if_pos (ilt hi), if_pos (i0 i), if_pos (ilt (show i < y.length by omega)), rd_T86, Int.toNat_natCast, up1 i (by omega)]
        by_cases e : neStep (x.getD i z86) (y.getD i z86) = true
        · rw [allSteps_no x y i hi e]
          unfold neStep at e
          simp only [if_pos e]
          exact Ev.now _
        · rw [allSteps_yes x y i hi (by simpa using e)]
          unfold neStep at e
          simp only [if_neg e]
          exact ih
    simp only [if_pos (show (x.length : Int) = (y.length : Int) by omega), decide_eq_true h, Bool.true_and]
    exact loop 0 (by omega)
  · simp only [if_neg (show ¬ (x.length : Int) = (y.length : Int) by omega), decide_eq_false h, Bool.false_and]
    exact Ev.now _
theorem toQ_length (l : List S99) : (toQ l).length = l.length := by simp [toQ]
end Go.Proofs.Ytdiahgdjeacolaa.Br
