/- What the law FnExactSameWatcher leans on: plain facts, and what the printed functions that it reaches come to; for all arguments that the facts name. -/
import Derived.Test.YtolmmfcofbhagaaPw0
import Derived.Test.YtolmmfcofbhagaaPw21
import Derived.Test.YtolmmfcofbhagaaPw22
import Derived.Test.YtolmmfcofbhagaaPw23
import Derived.Test.YtolmmfcofbhagaaPw24
import Derived.Test.YtolmmfcofbhagaaPw52
import Derived.Test.YtolmmfcofbhagaaPw54
import Derived.Test.YtolmmfcofbhagaaPw55
import Derived.Test.YtolmmfcofbhagaaPw57
import Derived.Test.YtolmmfcofbhagaaPw60
import Derived.Test.YtolmmfcofbhagaaPw62
import Derived.Test.YtolmmfcofbhagaaPw64
import Derived.Test.YtolmmfcofbhagaaPw133
import Derived.Test.YtolmmfcofbhagaaPw157
import Derived.Test.YtolmmfcofbhagaaPw7000000
import Derived.Test.YtolmmfcofbhagaaPw7000001
namespace Go.Proofs.Ytolmmfcofbhagaa.Th

def g (l : List Int) (j : Nat) : Int := l.getD j 0

end Go.Proofs.Ytolmmfcofbhagaa.Th
namespace Go.Proofs.Ytolmmfcofbhagaa.Br
open Go.RowKit Go.Proofs.Ytolmmfcofbhagaa.W Go.Proofs.YtolmmfcofbhagaaW.PrintWords Go.Proofs.YtolmmfcofbhagaaW.PrintLast Go.Proofs.YtolmmfcofbhagaaW.PrintMore Go.Proofs.Ytolmmfcofbhagaa.Th
set_option linter.unusedVariables false
set_option linter.unusedSimpArgs false
theorem Ev.succ {α : Type} {g : Nat → Option α} {r : α} (h : Ev (fun k => g (k + 1)) r) : Ev g r := by
  obtain ⟨K, hK⟩ := h
  refine ⟨K + 1, fun k hk => ?_⟩
  obtain ⟨m, rfl⟩ : ∃ m, k = m + 1 := ⟨k - 1, by omega⟩
  exact hK m (by omega)
theorem Ev.done {α : Type} {r s : α} (h : r = s) : Ev (fun _ : Nat => some r) s := h ▸ Ev.now r
theorem w64 {x : Int} (h0 : -9223372036854775808 ≤ x) (h1 : x ≤ 9223372036854775807) : wrap64 x = x := by unfold wrap64; omega

end Go.Proofs.Ytolmmfcofbhagaa.Br
namespace Go.Proofs.Ytolmmfcofbhagaa.Br
open Go.RowKit Go.Proofs.Ytolmmfcofbhagaa.W Go.Proofs.YtolmmfcofbhagaaW.PrintWords Go.Proofs.YtolmmfcofbhagaaW.PrintLast Go.Proofs.YtolmmfcofbhagaaW.PrintMore Go.Proofs.Ytolmmfcofbhagaa.Th
set_option linter.unusedVariables false
set_option linter.unusedSimpArgs false
theorem down {P : Nat → Prop} (n : Nat) (h0 : P n) (h1 : ∀ i, i < n → P (i + 1) → P i) : ∀ i, i ≤ n → P i := by
  have key : ∀ d i, i + d = n → P i := by
    intro d
    induction d with
    | zero => intro i hi; obtain rfl : i = n := by omega
              exact h0
    | succ d ih => intro i hi; exact h1 i (by omega) (ih (i + 1) (by omega))
  intro i hi
  exact key (n - i) i (by omega)
theorem up1 (i : Nat) (h : i < 9223372036854775807) : wrap64 ((i : Int) + 1) = ((i + 1 : Nat) : Int) := by
  rw [w64 (by omega) (by omega)]; rfl
theorem ilt {i n : Nat} (h : i < n) : (i : Int) < (n : Int) := by omega
theorem inlt {n : Nat} : ¬ ((n : Int) < (n : Int)) := by omega
theorem i0 (i : Nat) : 0 ≤ (i : Int) := by omega
theorem getD_mem {α : Type} (l : List α) (i : Nat) (d : α) (h : i < l.length) : l.getD i d ∈ l := by
  rw [List.getD_eq_getElem?_getD, List.getElem?_eq_getElem h]
  exact List.getElem_mem h
theorem take1 (a : Int) (n : Nat) (h0 : 0 ≤ a) (h1 : a ≤ 1048576) (hn : n ≤ 9223372036854775807) : wrap64 (a - (n : Int)) = a - (n : Int) := w64 (by omega) (by omega)

/-! ### loops, plainly -/
def allN (n : Nat) (e : Nat → Bool) : Bool := (List.range n).all e
def eqv {α : Type} (e : α → α → Bool) (d : α) (x y : List α) : Bool := decide (x.length = y.length) && allN x.length (fun i => e (x.getD i d) (y.getD i d))
theorem allN_true {n : Nat} {e : Nat → Bool} (h : ∀ i, i < n → e i = true) : allN n e = true := by
  unfold allN
  rw [List.all_eq_true]
  intro i hi
  exact h i (List.mem_range.1 hi)
theorem eqv_self {α : Type} (e : α → α → Bool) (d : α) (x : List α) (h : ∀ a ∈ x, e a a = true) : eqv e d x x = true := by
  unfold eqv
  rw [decide_eq_true rfl, Bool.true_and]
  exact allN_true (fun i hi => h _ (getD_mem x i d hi))
def allFromN (n : Nat) (e : Nat → Bool) : Nat → Bool
  | i => (List.range n).all fun j => decide (j < i) || e j
theorem allFromN_zero (n : Nat) (e : Nat → Bool) : allFromN n e 0 = allN n e := by
  unfold allFromN allN
  simp
theorem allFromN_end (n : Nat) (e : Nat → Bool) : allFromN n e n = true := by
  unfold allFromN
  rw [List.all_eq_true]
  intro j hj
  simp [List.mem_range.1 hj]
theorem allFromN_step (n : Nat) (e : Nat → Bool) (i : Nat) (hi : i < n) : allFromN n e i = (e i && allFromN n e (i + 1)) := by
  unfold allFromN
  apply Bool.eq_iff_iff.2
  rw [Bool.and_eq_true, List.all_eq_true, List.all_eq_true]
  constructor
  · intro H
    refine ⟨by simpa using H i (List.mem_range.2 hi), fun j hj => ?_⟩
    have := H j hj
    simp only [Bool.or_eq_true, decide_eq_true_eq] at this ⊢
    rcases this with h1 | h1
    · exact .inl (by omega)
    · exact .inr h1
  · rintro ⟨H0, H⟩ j hj
    have := H j hj
    simp only [Bool.or_eq_true, decide_eq_true_eq] at this ⊢
    by_cases h : j = i
    · subst h; exact .inr H0
    · rcases this with h1 | h1
      · exact .inl (by omega)
      · exact .inr h1
theorem allLoop (n : Nat) (L : Nat → Nat → Option Bool) (e : Nat → Bool) (hend : Ev (L n) true) (hs : ∀ i, i < n → ∀ r, Ev (L (i + 1)) r → Ev (L i) (e i && r)) : Ev (L 0) (allN n e) := by
  rw [← allFromN_zero]
  refine down (P := fun i => Ev (L i) (allFromN n e i)) n ?_ ?_ 0 (by omega)
  · show Ev (L n) (allFromN n e n)
    rw [allFromN_end]; exact hend
  · intro i hi ih
    show Ev (L i) (allFromN n e i)
    rw [allFromN_step n e i hi]
    exact hs i hi _ ih
theorem andEv {g : Nat → Option Bool} {a r : Bool} {f : Nat → Option Bool} (h : Ev g a) (k : Ev f r) : Ev (fun n => (g n).bind fun t => if t = true then f n else some false) (a && r) := by
  refine Ev.bind h ?_
  cases a with
  | true => simp only [if_true, Bool.true_and]; exact k
  | false => simp only [Bool.false_eq_true, if_false, Bool.false_and]; exact Ev.now _
theorem eqEv {a b : Int} {r : Bool} {f : Nat → Option Bool} (k : Ev f r) : Ev (fun n => if a = b then f n else some false) (a == b && r) := by
  by_cases h : a = b
  · subst h; simp only [if_true, beq_self_eq_true, Bool.true_and]; exact k
  · simp only [if_neg h, beq_false_of_ne h, Bool.false_and]; exact Ev.now _
theorem lenEv {m n : Nat} {r : Bool} {f : Nat → Option Bool} (k : m = n → Ev f r) : Ev (fun q => if (m : Int) = (n : Int) then f q else some false) (decide (m = n) && r) := by
  by_cases h : m = n
  · simp only [if_pos (show (m : Int) = (n : Int) by omega), decide_eq_true h, Bool.true_and]; exact k h
  · simp only [if_neg (show ¬ (m : Int) = (n : Int) by omega), decide_eq_false h, Bool.false_and]; exact Ev.now _
theorem toLoop {β : Type} (n : Nat) (L : Nat → List β → Nat → Option (List β)) (v : List β) (d : β) (hv : v.length = n) (hend : ∀ o, Ev (L n o) o)
    (hs : ∀ i o, i < n → o.length = n → Ev (L (i + 1) (o.set i (v.getD i d))) v → Ev (L i o) v) : ∀ o, o.length = n → Ev (L 0 o) v := by
  have key : ∀ i, i ≤ n → ∀ o, o.length = n → o.take i = v.take i → Ev (L i o) v := by
    refine down n ?_ ?_
    · intro o ho ht
      have : o = v := by rw [← List.take_length (l := o), ho, ht, List.take_of_length_le (by omega)]
      subst this
      exact hend o
    · intro i hi ih o ho ht
      refine hs i o hi ho (ih _ (by simpa using ho) ?_)
      rw [List.take_add_one, List.take_add_one, List.take_set_of_le (by omega), ht, List.getElem?_set_self (by omega), List.getElem?_eq_getElem (show i < v.length by omega), List.getD_eq_getElem?_getD, List.getElem?_eq_getElem (show i < v.length by omega)]
      rfl
  intro o ho
  exact key 0 (by omega) o ho (by simp)
theorem szLoop {α : Type} (l : List α) (d : α) (ok : α → Prop) (L : Nat → Int → Nat → Option Int) (hend : ∀ a, Ev (L l.length a) a)
    (hs : ∀ i, i < l.length → ∀ a, 0 ≤ a → a ≤ 1048576 → Ev (L i a) (-1) ∨ (ok (l.getD i d) ∧ ∃ b, 0 ≤ b ∧ b ≤ a ∧ ∀ r, Ev (L (i + 1) b) r → Ev (L i a) r)) :
    ∀ a, 0 ≤ a → a ≤ 1048576 → ∃ r, Ev (L 0 a) r ∧ (r < 0 ∨ (0 ≤ r ∧ r ≤ a ∧ ∀ x ∈ l, ok x)) := by
  have key : ∀ i, i ≤ l.length → ∀ a, 0 ≤ a → a ≤ 1048576 → ∃ r, Ev (L i a) r ∧ (r < 0 ∨ (0 ≤ r ∧ r ≤ a ∧ ∀ j, i ≤ j → j < l.length → ok (l.getD j d))) := by
    refine down l.length ?_ ?_
    · intro a h0 h1
      exact ⟨a, hend a, .inr ⟨h0, by omega, fun j _ _ => by omega⟩⟩
    · intro i hi ih a h0 h1
      rcases hs i hi a h0 h1 with h | ⟨ho, b, b0, b1, h⟩
      · exact ⟨-1, h, .inl (by omega)⟩
      · obtain ⟨r, hr, hr2⟩ := ih b b0 (by omega)
        refine ⟨r, h r hr, ?_⟩
        rcases hr2 with h2 | ⟨q0, q1, q2⟩
        · exact .inl h2
        · refine .inr ⟨q0, by omega, fun j hj hj2 => ?_⟩
          by_cases e : j = i
          · subst e; exact ho
          · exact q2 j (by omega) hj2
  intro a h0 h1
  obtain ⟨r, hr, hr2⟩ := key 0 (by omega) a h0 h1
  refine ⟨r, hr, ?_⟩
  rcases hr2 with h2 | ⟨q0, q1, q2⟩
  · exact .inl h2
  · refine .inr ⟨q0, q1, fun x hx => ?_⟩
    obtain ⟨j, hj⟩ := List.getElem?_of_mem hx
    have := q2 j (by omega) (List.getElem?_eq_some_iff.1 hj).1
    rwa [List.getD_eq_getElem?_getD, hj] at this
end Go.Proofs.Ytolmmfcofbhagaa.Br
namespace Go.Proofs.Ytolmmfcofbhagaa.Br
open Go.RowKit Go.Proofs.Ytolmmfcofbhagaa.W Go.Proofs.YtolmmfcofbhagaaW.PrintWords Go.Proofs.YtolmmfcofbhagaaW.PrintLast Go.Proofs.YtolmmfcofbhagaaW.PrintMore Go.Proofs.Ytolmmfcofbhagaa.Th
set_option linter.unusedVariables false
set_option linter.unusedSimpArgs false
def eint (a b : Int) : Bool := a == b
/-- How long a row is, and those inside. -/
def sm0 {α : Type} (l : List α) : Prop := l.length ≤ 1048576
def sm1 {α : Type} (l : List (List α)) : Prop := l.length ≤ 1048576 ∧ ∀ x ∈ l, sm0 x
theorem laws_eqInt64S_ev (x y : List Int) (hx : sm0 x) : Ev (fun k => laws_eqInt64S.f k x y) (eqv eint 0 x y) := by
  have hl : x.length ≤ 1048576 := hx
  unfold laws_eqInt64S.f eqv
  refine lenEv (fun h => allLoop x.length (fun i k => laws_eqInt64S.l0 k x y (i : Int)) _ ?_ ?_)
  · refine Ev.succ ?_
    simp only [laws_eqInt64S.l0, if_neg inlt]
    exact Ev.now _
  · intro i hi r hr
    refine Ev.succ ?_
    simp only [laws_eqInt64S.l0, if_pos (ilt hi), if_pos (i0 i), if_pos (ilt (show i < y.length by omega)), up1 i (by omega)]
    exact eqEv hr

theorem spec_l00Same_ev (x y : List Int) (hx : sm0 x) : Ev (fun k => spec_l00Same.f k x y) (eqv eint 0 x y) := by
  have hl : x.length ≤ 1048576 := hx
  unfold spec_l00Same.f eqv
  refine lenEv (fun h => allLoop x.length (fun i k => spec_l00Same.l0 k x y (i : Int)) _ ?_ ?_)
  · refine Ev.succ ?_
    simp only [spec_l00Same.l0, if_neg inlt]
    exact Ev.now _
  · intro i hi r hr
    refine Ev.succ ?_
    simp only [spec_l00Same.l0, if_pos (ilt hi), if_pos (i0 i), if_pos (ilt (show i < y.length by omega)), up1 i (by omega)]
    exact eqEv hr

theorem slices_Equal_Lint64_int64_ev (x y : List Int) (hx : sm0 x) : Ev (fun k => slices_Equal_Lint64_int64.f k x y) (eqv eint 0 x y) := by
  have hl : x.length ≤ 1048576 := hx
  unfold slices_Equal_Lint64_int64.f eqv
  refine lenEv (fun h => allLoop x.length (fun i k => slices_Equal_Lint64_int64.l0 k x y (x.length : Int) (i : Int)) _ ?_ ?_)
  · refine Ev.succ ?_
    simp only [slices_Equal_Lint64_int64.l0, if_neg inlt]
    exact Ev.now _
  · intro i hi r hr
    refine Ev.succ ?_
    simp only [slices_Equal_Lint64_int64.l0, if_pos (ilt hi), if_pos (i0 i), if_pos (ilt (show i < y.length by omega)), up1 i (by omega)]
    exact eqEv hr

theorem laws_eqInt64SS_ev (x y : List (List Int)) (hx : sm1 x) : Ev (fun k => laws_eqInt64SS.f k x y) (eqv (eqv eint 0) ([] : (List Int)) x y) := by
  have hl : x.length ≤ 1048576 := hx.1
  unfold laws_eqInt64SS.f eqv
  refine lenEv (fun h => allLoop x.length (fun i k => laws_eqInt64SS.l0 k x y (i : Int)) _ ?_ ?_)
  · refine Ev.succ ?_
    simp only [laws_eqInt64SS.l0, if_neg inlt]
    exact Ev.now _
  · intro i hi r hr
    refine Ev.succ ?_
    simp only [laws_eqInt64SS.l0, if_pos (ilt hi), if_pos (i0 i), if_pos (ilt (show i < y.length by omega)), up1 i (by omega)]
    exact andEv (laws_eqInt64S_ev _ _ (hx.2 _ (getD_mem x i _ hi))) hr

theorem spec_l02Lists_ev (x y : List (List Int)) (hx : sm1 x) : Ev (fun k => spec_l02Lists.f k x y) (eqv (eqv eint 0) ([] : (List Int)) x y) := by
  have hl : x.length ≤ 1048576 := hx.1
  unfold spec_l02Lists.f eqv
  refine lenEv (fun h => allLoop x.length (fun i k => spec_l02Lists.l0 k x y (i : Int)) _ ?_ ?_)
  · refine Ev.succ ?_
    simp only [spec_l02Lists.l0, if_neg inlt]
    exact Ev.now _
  · intro i hi r hr
    refine Ev.succ ?_
    simp only [spec_l02Lists.l0, if_pos (ilt hi), if_pos (i0 i), if_pos (ilt (show i < y.length by omega)), up1 i (by omega)]
    exact andEv (spec_l00Same_ev _ _ (hx.2 _ (getD_mem x i _ hi))) hr

theorem slices_EqualFunc_LLint64_LLint64_Lint64_Lint64_at_slices_Equal_Lint64_int64_ev (x y : List (List Int)) (hx : sm1 x) : Ev (fun k => slices_EqualFunc_LLint64_LLint64_Lint64_Lint64_at_slices_Equal_Lint64_int64.f k x y) (eqv (eqv eint 0) ([] : (List Int)) x y) := by
  have hl : x.length ≤ 1048576 := hx.1
  unfold slices_EqualFunc_LLint64_LLint64_Lint64_Lint64_at_slices_Equal_Lint64_int64.f eqv
  refine lenEv (fun h => allLoop x.length (fun i k => slices_EqualFunc_LLint64_LLint64_Lint64_Lint64_at_slices_Equal_Lint64_int64.l0 k y x (x.length : Int) (i : Int)) _ ?_ ?_)
  · refine Ev.succ ?_
    simp only [slices_EqualFunc_LLint64_LLint64_Lint64_Lint64_at_slices_Equal_Lint64_int64.l0, if_neg inlt]
    exact Ev.now _
  · intro i hi r hr
    refine Ev.succ ?_
    simp only [slices_EqualFunc_LLint64_LLint64_Lint64_Lint64_at_slices_Equal_Lint64_int64.l0, if_pos (ilt hi), if_pos (i0 i), if_pos (ilt (show i < y.length by omega)), up1 i (by omega)]
    exact andEv (slices_Equal_Lint64_int64_ev _ _ (hx.2 _ (getD_mem x i _ hi))) hr

theorem impl_sameTable_ev (x y : List (List Int)) (hx : sm1 x) : Ev (fun k => impl_sameTable.f k x y) (eqv (eqv eint 0) ([] : List Int) x y) := by
  unfold impl_sameTable.f
  exact Ev.bind (slices_EqualFunc_LLint64_LLint64_Lint64_Lint64_at_slices_Equal_Lint64_int64_ev x y hx) (Ev.now _)

end Go.Proofs.Ytolmmfcofbhagaa.Br
namespace Go.Proofs.Ytolmmfcofbhagaa.Br
open Go.RowKit Go.Proofs.Ytolmmfcofbhagaa.W Go.Proofs.YtolmmfcofbhagaaW.PrintWords Go.Proofs.YtolmmfcofbhagaaW.PrintLast Go.Proofs.YtolmmfcofbhagaaW.PrintMore Go.Proofs.Ytolmmfcofbhagaa.Th
set_option linter.unusedVariables false
set_option linter.unusedSimpArgs false
theorem laws_toInt64S_ev (l : List Int) (hl : sm0 l) : Ev (fun k => laws_toInt64S.f k l) l := by
  have hl' : l.length ≤ 1048576 := hl
  unfold laws_toInt64S.f
  simp only [if_pos (i0 l.length), Int.toNat_natCast, if_pos (show l.length ≤ 35184372088832 by omega)]
  refine toLoop l.length (fun i o k => laws_toInt64S.l0 k l o i) l 0 rfl ?_ ?_ _ (by simp)
  · intro o
    refine Ev.succ ?_
    simp only [laws_toInt64S.l0, if_neg inlt]
    exact Ev.now _
  · intro i o hi ho h
    refine Ev.succ ?_
    simp only [laws_toInt64S.l0, if_pos (ilt hi), if_pos (i0 i), if_pos (ilt (show i < o.length by omega)), up1 i (by omega), Int.toNat_natCast]
    exact h
theorem laws_toInt64SS_ev (l : List (List Int)) (hl : sm1 l) : Ev (fun k => laws_toInt64SS.f k l) l := by
  have hl' : l.length ≤ 1048576 := hl.1
  unfold laws_toInt64SS.f
  simp only [if_pos (i0 l.length), Int.toNat_natCast, if_pos (show l.length ≤ 11728124029610 by omega)]
  refine toLoop l.length (fun i o k => laws_toInt64SS.l0 k l o i) l [] rfl ?_ ?_ _ (by simp)
  · intro o
    refine Ev.succ ?_
    simp only [laws_toInt64SS.l0, if_neg inlt]
    exact Ev.now _
  · intro i o hi ho h
    refine Ev.succ ?_
    simp only [laws_toInt64SS.l0, if_pos (ilt hi), if_pos (i0 i), if_pos (ilt (show i < o.length by omega)), up1 i (by omega), Int.toNat_natCast]
    exact Ev.bind (laws_toInt64S_ev (l.getD i []) (hl.2 _ (getD_mem l i _ hi))) h
theorem eint_self (a : Int) : eint a a = true := by simp [eint]
theorem laws_szInt64S_ev (l : List Int) (a : Int) (h0 : 0 ≤ a) (h1 : a ≤ 1048576) (hl : l.length ≤ 9223372036854775807) : ∃ r, laws_szInt64S.f l a = some r ∧ (r < 0 ∨ (0 ≤ r ∧ r ≤ a ∧ sm0 l)) := by
  unfold laws_szInt64S.f
  rw [take1 a _ h0 h1 hl]
  by_cases h : a - (l.length : Int) < 0
  · exact ⟨-1, by rw [if_pos h], .inl (by omega)⟩
  · exact ⟨_, by rw [if_neg h], .inr ⟨by omega, by omega, by show l.length ≤ 1048576; omega⟩⟩
theorem laws_szInt64SS_ev (l : List (List Int)) (a : Int) (h0 : 0 ≤ a) (h1 : a ≤ 1048576) (hl : l.length ≤ 9223372036854775807) (hi : ∀ x ∈ l, x.length ≤ 9223372036854775807) :
    ∃ r, Ev (fun k => laws_szInt64SS.f k l a) r ∧ (r < 0 ∨ (0 ≤ r ∧ r ≤ a ∧ sm1 l)) := by
  unfold laws_szInt64SS.f
  rw [take1 a _ h0 h1 hl]
  by_cases h : a - (l.length : Int) < 0
  · exact ⟨-1, by simp only [if_pos h]; exact Ev.now _, .inl (by omega)⟩
  · obtain ⟨r, hr, hr2⟩ := szLoop l [] sm0 (fun i c k => laws_szInt64SS.l0 k l c i) (fun c => by
        refine Ev.succ ?_
        simp only [laws_szInt64SS.l0, if_neg inlt]
        exact Ev.now _) (fun i hi' c c0 c1 => by
        have hm := getD_mem l i [] hi'
        obtain ⟨r, hr, hr2⟩ := laws_szInt64S_ev (l.getD i []) c c0 c1 (hi _ hm)
        by_cases hn : r < 0
        · refine .inl (Ev.succ ?_)
          simp only [laws_szInt64SS.l0, if_pos (ilt hi'), if_pos (i0 i)]
          exact Ev.bind ⟨0, fun _ _ => hr⟩ (by simp only [if_pos hn]; exact Ev.now _)
        · rcases hr2 with h2 | ⟨q0, q1, q2⟩
          · exact absurd h2 hn
          · refine .inr ⟨q2, r, q0, q1, fun s hs => Ev.succ ?_⟩
            simp only [laws_szInt64SS.l0, if_pos (ilt hi'), if_pos (i0 i), up1 i (by omega)]
            exact Ev.bind ⟨0, fun _ _ => hr⟩ (by simp only [if_neg hn]; exact hs)) (a - (l.length : Int)) (by omega) (by omega)
    refine ⟨r, by simp only [if_neg h]; exact hr, ?_⟩
    rcases hr2 with h2 | ⟨q0, q1, q2⟩
    · exact .inl h2
    · exact .inr ⟨q0, by omega, ⟨by omega, q2⟩⟩
end Go.Proofs.Ytolmmfcofbhagaa.Br
namespace Go.Proofs.Ytolmmfcofbhagaa.Br
open Go.RowKit Go.Proofs.Ytolmmfcofbhagaa.W Go.Proofs.YtolmmfcofbhagaaW.PrintWords Go.Proofs.YtolmmfcofbhagaaW.PrintLast Go.Proofs.YtolmmfcofbhagaaW.PrintMore Go.Proofs.Ytolmmfcofbhagaa.Th
set_option linter.unusedVariables false
set_option linter.unusedSimpArgs false

/-! ### laws' queries -/
theorem szQueryStep_ev (b : Bool) (s : ByteArray) (a : Int) (h0 : 0 ≤ a) (h1 : a ≤ 1048576) (hs : s.size ≤ 9223372036854775807) :
    ∃ r, laws_szQueryStep.f b s a = some r ∧ (r < 0 ∨ (0 ≤ r ∧ r ≤ a ∧ (s.size : Int) ≤ 1048576)) := by
  unfold laws_szQueryStep.f
  rw [take1 a _ h0 h1 hs]
  by_cases h : a - (s.size : Int) < 0
  · exact ⟨-1, by rw [if_pos h], .inl (by omega)⟩
  · exact ⟨_, by rw [if_neg h], .inr (by omega)⟩
theorem szQuery_ev (l : List S192) (a : Int) (h0 : 0 ≤ a) (h1 : a ≤ 1048576) (hl : l.length ≤ 9223372036854775807) (hs : ∀ x ∈ l, x.f1.size ≤ 9223372036854775807) :
    ∃ r, Ev (fun k => laws_szQuery.f k l a) r ∧ (r < 0 ∨ (0 ≤ r ∧ r ≤ a ∧ (l.length : Int) ≤ 1048576 ∧ ∀ x ∈ l, (x.f1.size : Int) ≤ 1048576)) := by
  have loop : ∀ i, i ≤ l.length → ∀ c, 0 ≤ c → c ≤ 1048576 → ∃ r, Ev (fun k => laws_szQueryStepS.l0 k l c i) r ∧ (r < 0 ∨ (0 ≤ r ∧ r ≤ c ∧ ∀ j, i ≤ j → j < l.length → ((l.getD j z192).f1.size : Int) ≤ 1048576)) := by
    refine down l.length ?_ ?_
    · intro c hc _
      refine ⟨c, Ev.succ ?_, .inr ⟨hc, by omega, fun j h1 h2 => by omega⟩⟩
      simp only [laws_szQueryStepS.l0, if_neg inlt]
      exact Ev.now _
    · intro i hi ih c hc hc2
      have hm := getD_mem l i z192 hi
      obtain ⟨r, hr, hr2⟩ := szQueryStep_ev (l.getD i z192).f0 (l.getD i z192).f1 c hc hc2 (hs _ hm)
      by_cases hneg : r < 0
      · refine ⟨-1, Ev.succ ?_, .inl (by omega)⟩
        simp only [laws_szQueryStepS.l0, if_pos (ilt hi), if_pos (i0 i), rd_T192, Int.toNat_natCast, hr, Option.bind_some, if_pos hneg]
        exact Ev.now _
      · obtain ⟨q, hq, hq2⟩ := ih r (by omega) (by omega)
        refine ⟨q, Ev.succ ?_, ?_⟩
        · simp only [laws_szQueryStepS.l0, if_pos (ilt hi), if_pos (i0 i), rd_T192, Int.toNat_natCast, hr, Option.bind_some, if_neg hneg, up1 i (by omega)]
          exact hq
        · rcases hq2 with hq2 | ⟨q0, q1, q2⟩
          · exact .inl hq2
          · refine .inr ⟨q0, by omega, fun j hj1 hj2 => ?_⟩
            by_cases e : j = i
            · subst e; omega
            · exact q2 j (by omega) hj2
  unfold laws_szQuery.f laws_szQueryStepS.f
  rw [take1 a _ h0 h1 hl]
  by_cases h : a - (l.length : Int) < 0
  · exact ⟨-1, by simp only [if_pos h, Option.bind_some, show ((-1 : Int) < 0) = True from eq_true (by decide), if_true]; exact Ev.now _, .inl (by omega)⟩
  · obtain ⟨r, hr, hr2⟩ := loop 0 (by omega) (a - (l.length : Int)) (by omega) (by omega)
    by_cases hneg : r < 0
    · exact ⟨-1, by simp only [if_neg h]; exact hr.bind (by simp only [if_pos hneg]; exact Ev.now _), .inl (by omega)⟩
    · refine ⟨r, by simp only [if_neg h]; exact hr.bind (by simp only [if_neg hneg]; exact Ev.now _), .inr ⟨by omega, by omega, by omega, fun x hx => ?_⟩⟩
      obtain ⟨j, hj⟩ := List.getElem?_of_mem hx
      rcases hr2 with h2 | ⟨_, _, h2⟩
      · omega
      · have hlt := (List.getElem?_eq_some_iff.1 hj).1
        have := h2 j (by omega) hlt
        rwa [List.getD_eq_getElem?_getD, hj] at this
/-- A law's query as the program's. -/
def toQ (l : List S192) : List S168 := l.map fun x => ⟨x.f0, x.f1⟩
theorem toQuery_ev (l : List S192) (hl : l.length ≤ 1048576) : Ev (fun k => laws_toQuery.f k l) (toQ l) := by
  have loop : ∀ i, i ≤ l.length → ∀ o : List S168, o.length = l.length → o.take i = (toQ l).take i → Ev (fun k => laws_toQueryStepS.l0 k l o i) (toQ l) := by
    refine down l.length ?_ ?_
    · intro o ho ht
      have : o = toQ l := by rw [← List.take_length (l := o), ho, ht, List.take_of_length_le (by simp [toQ])]
      refine Ev.succ ?_
      simp only [laws_toQueryStepS.l0, if_neg inlt]
      exact Ev.done (by rw [this])
    · intro i hi ih o ho ht
      refine Ev.succ ?_
      simp only [laws_toQueryStepS.l0, if_pos (ilt hi), if_pos (i0 i), rd_T192, Int.toNat_natCast, laws_toQueryStep.f, Option.bind_some, if_pos (ilt (show i < o.length by omega)), up1 i (by omega)]
      refine ih _ (by simpa using ho) ?_
      rw [List.take_add_one, List.take_add_one, List.take_set_of_le (by omega), ht]
      have e1 : (o.set i (⟨(l.getD i z192).f0, (l.getD i z192).f1⟩ : S168))[i]? = some ⟨(l.getD i z192).f0, (l.getD i z192).f1⟩ := by
        rw [List.getElem?_set_self (by omega)]
      have e2 : (toQ l)[i]? = some ⟨(l.getD i z192).f0, (l.getD i z192).f1⟩ := by
        unfold toQ
        rw [List.getElem?_map, List.getElem?_eq_getElem hi, List.getD_eq_getElem?_getD, List.getElem?_eq_getElem hi]
        rfl
      rw [e1, e2]
  unfold laws_toQuery.f laws_toQueryStepS.f
  simp only [if_pos (i0 l.length), Int.toNat_natCast, if_pos (show l.length ≤ 11728124029610 by omega)]
  refine Ev.bind (loop 0 (by omega) _ (by simp) (by simp)) (Ev.now _)
theorem eqQuery_ev (l : List S168) (hl : l.length ≤ 1048576) : Ev (fun k => laws_eqQuery.f k l l) true := by
  have loop : ∀ i, i ≤ l.length → Ev (fun k => laws_eqQueryStepS.l0 k l l i) true := by
    refine down l.length ?_ ?_
    · refine Ev.succ ?_
      simp only [laws_eqQueryStepS.l0, if_neg inlt]
      exact Ev.now _
    · intro i hi ih
      refine Ev.succ ?_
      simp only [laws_eqQueryStepS.l0, if_pos (ilt hi), if_pos (i0 i), laws_eqQueryStep.f, bne_self_eq_false, Bool.false_eq_true, if_false, if_true, Option.bind_some, up1 i (by omega)]
      exact ih
  unfold laws_eqQuery.f laws_eqQueryStepS.f
  simp only [if_true]
  exact Ev.bind (loop 0 (by omega)) (by simp only [if_true]; exact Ev.now _)
/-- Are two steps unlike. -/
def neStep (x y : S168) : Bool := !(x.f0 == y.f0) || !(x.f1.toList == y.f1.toList)
def allSteps (x y : List S168) (i : Nat) : Bool := (List.range x.length).all fun j => decide (j < i) || !(neStep (x.getD j z168) (y.getD j z168))
theorem allSteps_end (x y : List S168) : allSteps x y x.length = true := by
  unfold allSteps
  rw [List.all_eq_true]
  intro j hj
  simp [List.mem_range.1 hj]
theorem allSteps_no (x y : List S168) (i : Nat) (hi : i < x.length) (h : neStep (x.getD i z168) (y.getD i z168) = true) : allSteps x y i = false := by
  unfold allSteps
  rw [List.all_eq_false]
  exact ⟨i, List.mem_range.2 hi, by simp only [h]; simp⟩
theorem allSteps_yes (x y : List S168) (i : Nat) (hi : i < x.length) (h : neStep (x.getD i z168) (y.getD i z168) = false) : allSteps x y i = allSteps x y (i + 1) := by
  unfold allSteps
  apply Bool.eq_iff_iff.2
  rw [List.all_eq_true, List.all_eq_true]
  constructor
  · intro H j hj
    have := H j hj
    simp only [Bool.or_eq_true, decide_eq_true_eq] at this ⊢
    rcases this with h1 | h1
    · exact .inl (by omega)
    · exact .inr h1
  · intro H j hj
    have := H j hj
    simp only [Bool.or_eq_true, decide_eq_true_eq] at this ⊢
    by_cases e : j = i
    · subst e; exact .inr (by rw [h]; rfl)
    · rcases this with h1 | h1
      · exact .inl (by omega)
      · exact .inr h1
def sameSteps (x y : List S168) : Bool := decide (x.length = y.length) && allSteps x y 0
theorem implSame_ev (x y : List S168) (hx : x.length ≤ 1048576) : Ev (fun k => impl_SameQuery.f k x y) (sameSteps x y) := by
  unfold impl_SameQuery.f slices_Equal_Limpl_QueryStep_impl_QueryStep.f sameSteps
  by_cases h : x.length = y.length
  · have loop : ∀ i, i ≤ x.length → Ev (fun k => slices_Equal_Limpl_QueryStep_impl_QueryStep.l0 k x y (x.length : Int) i) (allSteps x y i) := by
      refine down x.length ?_ ?_
      · refine Ev.succ ?_
        simp only [slices_Equal_Limpl_QueryStep_impl_QueryStep.l0, if_neg inlt]
        exact Ev.done (allSteps_end x y).symm
      · intro i hi ih
        refine Ev.succ ?_
        simp only [slices_Equal_Limpl_QueryStep_impl_QueryStep.l0, if_pos (ilt hi), if_pos (i0 i), if_pos (ilt (show i < y.length by omega)), rd_T168, Int.toNat_natCast, up1 i (by omega)]
        by_cases e : neStep (x.getD i z168) (y.getD i z168) = true
        · rw [allSteps_no x y i hi e]
          unfold neStep at e
          simp only [if_pos e]
          exact Ev.now _
        · rw [allSteps_yes x y i hi (by simpa using e)]
          unfold neStep at e
          simp only [if_neg e]
          exact ih
    simp only [if_pos (show (x.length : Int) = (y.length : Int) by omega), decide_eq_true h, Bool.true_and]
    exact Ev.bind (loop 0 (by omega)) (Ev.now _)
  · simp only [if_neg (show ¬ (x.length : Int) = (y.length : Int) by omega), decide_eq_false h, Bool.false_and, Option.bind_some]
    exact Ev.now _
theorem toQ_length (l : List S192) : (toQ l).length = l.length := by simp [toQ]
end Go.Proofs.Ytolmmfcofbhagaa.Br
namespace Go.Proofs.Ytolmmfcofbhagaa.Br
open Go.RowKit Go.Proofs.Ytolmmfcofbhagaa.W Go.Proofs.YtolmmfcofbhagaaW.PrintWords Go.Proofs.YtolmmfcofbhagaaW.PrintLast Go.Proofs.YtolmmfcofbhagaaW.PrintMore Go.Proofs.Ytolmmfcofbhagaa.Th
set_option linter.unusedVariables false
set_option linter.unusedSimpArgs false
theorem specSameAt_ev (x y : List S168) (a b : Int) (m n : List Int) (u v : List (List Int)) (hx : x.length ≤ 1048576) : Ev (fun k => spec_l05Same_at_T50_T50.f k x a m u y b n v) (sameSteps x y) := by
  unfold spec_l05Same_at_T50_T50.f sameSteps
  by_cases h : x.length = y.length
  · have loop : ∀ i, i ≤ x.length → Ev (fun k => spec_l05Same_at_T50_T50.l0 k i x a m u y b n v) (allSteps x y i) := by
      refine down x.length ?_ ?_
      · refine Ev.succ ?_
        simp only [spec_l05Same_at_T50_T50.l0, if_neg inlt]
        exact Ev.done (allSteps_end x y).symm
      · intro i hi ih
        refine Ev.succ ?_
        simp only [spec_l05Same_at_T50_T50.l0, if_pos (ilt hi), if_pos (i0 i), if_pos (ilt (show i < y.length by omega)), rd_T168, Int.toNat_natCast, up1 i (by omega)]
        by_cases e : neStep (x.getD i z168) (y.getD i z168) = true
        · rw [allSteps_no x y i hi e]
          unfold neStep at e
          simp only [if_pos e]
          exact Ev.now _
        · rw [allSteps_yes x y i hi (by simpa using e)]
          unfold neStep at e
          simp only [if_neg e]
          exact ih
    simp only [if_pos (show (x.length : Int) = (y.length : Int) by omega), decide_eq_true h, Bool.true_and]
    exact loop 0 (by omega)
  · simp only [if_neg (show ¬ (x.length : Int) = (y.length : Int) by omega), decide_eq_false h, Bool.false_and]
    exact Ev.now _
theorem laws_szWatcher_ev (l0 : List S192) (a : Int) (l2 : List Int) (l3 : List (List Int)) (c : Int) (h0 : 0 ≤ c) (h1 : c ≤ 1048576)
    (g0 : l0.length ≤ 9223372036854775807) (s0 : ∀ x ∈ l0, x.f1.size ≤ 9223372036854775807) (g2 : l2.length ≤ 9223372036854775807) (g3 : l3.length ≤ 9223372036854775807 ∧ ∀ x ∈ l3, x.length ≤ 9223372036854775807) :
    ∃ r, Ev (fun k => laws_szWatcher.f k l0 a l2 l3 c) r ∧ (r < 0 ∨ (0 ≤ r ∧ r ≤ c ∧ l0.length ≤ 1048576 ∧ sm0 l2 ∧ sm1 l3)) := by
  unfold laws_szWatcher.f
  obtain ⟨r0, e0, q0⟩ := szQuery_ev l0 c h0 h1 g0 s0
  by_cases n0 : r0 < 0
  · exact ⟨-1, Ev.bind e0 (by simp only [if_pos n0]; exact Ev.now _), .inl (by omega)⟩
  obtain ⟨r2, e2, q2⟩ := laws_szInt64S_ev l2 r0 (by omega) (by omega) g2
  by_cases n2 : r2 < 0
  · exact ⟨-1, Ev.bind e0 (by simp only [if_neg n0]; exact Ev.bind ⟨0, fun _ _ => e2⟩ (by simp only [if_pos n2]; exact Ev.now _)), .inl (by omega)⟩
  obtain ⟨r3, e3, q3⟩ := laws_szInt64SS_ev l3 r2 (by omega) (by omega) g3.1 g3.2
  by_cases n3 : r3 < 0
  · exact ⟨-1, Ev.bind e0 (by simp only [if_neg n0]; exact Ev.bind ⟨0, fun _ _ => e2⟩ (by simp only [if_neg n2]; exact Ev.bind e3 (by simp only [if_pos n3]; exact Ev.now _))), .inl (by omega)⟩
  · refine ⟨r3, Ev.bind e0 (by simp only [if_neg n0]; exact Ev.bind ⟨0, fun _ _ => e2⟩ (by simp only [if_neg n2]; exact Ev.bind e3 (by simp only [if_neg n3]; exact Ev.now _))), .inr ?_⟩
    rcases q0 with q0 | q0
    · omega
    rcases q2 with q2 | q2
    · omega
    rcases q3 with q3 | q3
    · omega
    exact ⟨by omega, by omega, by omega, q2.2.2, q3.2.2⟩
theorem laws_toWatcher_ev (l0 : List S192) (a : Int) (l2 : List Int) (l3 : List (List Int)) (h0 : l0.length ≤ 1048576) (h2 : sm0 l2) (h3 : sm1 l3) :
    Ev (fun k => laws_toWatcher.f k l0 a l2 l3) (toQ l0, a, l2, l3) := by
  unfold laws_toWatcher.f
  exact Ev.bind (toQuery_ev l0 h0) (Ev.bind (laws_toInt64S_ev l2 h2) (Ev.bind (laws_toInt64SS_ev l3 h3) (Ev.now _)))
theorem laws_eqWatcher_ev (l0 : List S168) (a : Int) (l2 : List Int) (l3 : List (List Int)) (h0 : l0.length ≤ 1048576) (h2 : sm0 l2) (h3 : sm1 l3) :
    Ev (fun k => laws_eqWatcher.f k l0 a l2 l3 l0 a l2 l3) true := by
  unfold laws_eqWatcher.f
  have e2 := laws_eqInt64S_ev l2 l2 h2
  rw [eqv_self _ _ _ (fun a _ => eint_self a)] at e2
  have e3 := laws_eqInt64SS_ev l3 l3 h3
  rw [eqv_self _ _ _ (fun a _ => eqv_self _ _ _ (fun a _ => eint_self a))] at e3
  refine Ev.bind (eqQuery_ev l0 h0) ?_
  simp only [if_true]
  refine Ev.bind e2 ?_
  simp only [if_true]
  refine Ev.bind e3 ?_
  simp only [if_true]
  exact Ev.now _
def sameW (l0 : List S168) (a : Int) (l2 : List Int) (l3 : List (List Int)) (m0 : List S168) (b : Int) (m2 : List Int) (m3 : List (List Int)) : Bool :=
  sameSteps l0 m0 && (a == b && (eqv eint 0 l2 m2 && eqv (eqv eint 0) [] l3 m3))
theorem implSameW_ev (l0 : List S168) (a : Int) (l2 : List Int) (l3 : List (List Int)) (m0 : List S168) (b : Int) (m2 : List Int) (m3 : List (List Int)) (h0 : l0.length ≤ 1048576) (h2 : sm0 l2) (h3 : sm1 l3) :
    Ev (fun k => impl_SameWatcher.f k l0 a l2 l3 m0 b m2 m3) (sameW l0 a l2 l3 m0 b m2 m3) := by
  unfold impl_SameWatcher.f sameW
  exact andEv (implSame_ev l0 m0 h0) (eqEv (andEv (slices_Equal_Lint64_int64_ev l2 m2 h2) (Ev.bind (impl_sameTable_ev l3 m3 h3) (Ev.now _))))
theorem specSameW_ev (l0 : List S168) (a : Int) (l2 : List Int) (l3 : List (List Int)) (m0 : List S168) (b : Int) (m2 : List Int) (m3 : List (List Int)) (h0 : l0.length ≤ 1048576) (h2 : sm0 l2) (h3 : sm1 l3) :
    Ev (fun k => spec_SameWatcher.f k l0 a l2 l3 m0 b m2 m3) (sameW l0 a l2 l3 m0 b m2 m3) := by
  unfold spec_SameWatcher.f sameW
  exact andEv (specSameAt_ev l0 m0 a b l2 m2 l3 m3 h0) (eqEv (andEv (spec_l00Same_ev l2 m2 h2) (Ev.bind (spec_l02Lists_ev l3 m3 h3) (Ev.now _))))
end Go.Proofs.Ytolmmfcofbhagaa.Br
