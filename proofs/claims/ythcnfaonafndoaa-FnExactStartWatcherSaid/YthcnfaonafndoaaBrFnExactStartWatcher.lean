/- What the law FnExactStartWatcher leans on: plain facts, and what the printed functions that it reaches come to; for all arguments that the facts name. -/
import Derived.Test.YthcnfaonafndoaaPs0
import Derived.Test.YthcnfaonafndoaaPs9
import Derived.Test.YthcnfaonafndoaaPs11
import Derived.Test.YthcnfaonafndoaaPs12
import Derived.Test.YthcnfaonafndoaaPs20
import Derived.Test.YthcnfaonafndoaaPs23
import Derived.Test.YthcnfaonafndoaaPs25
import Derived.Test.YthcnfaonafndoaaPs28
import Derived.Test.YthcnfaonafndoaaPs29
import Derived.Test.YthcnfaonafndoaaPs32
import Derived.Test.YthcnfaonafndoaaPs35
import Derived.Test.YthcnfaonafndoaaPs53
import Derived.Test.YthcnfaonafndoaaPs7000001
namespace Go.Proofs.Ythcnfaonafndoaa.Th

def g (l : List Int) (j : Nat) : Int := l.getD j 0

end Go.Proofs.Ythcnfaonafndoaa.Th
namespace Go.Proofs.Ythcnfaonafndoaa.Br
open Go.RowKit Go.Proofs.Ythcnfaonafndoaa.S Go.Proofs.YthcnfaonafndoaaW.PrintWords Go.Proofs.YthcnfaonafndoaaW.PrintLast Go.Proofs.YthcnfaonafndoaaW.PrintMore Go.Proofs.Ythcnfaonafndoaa.Th
set_option linter.unusedVariables false
set_option linter.unusedSimpArgs false
theorem Ev.succ {α : Type} {g : Nat → Option α} {r : α} (h : Ev (fun k => g (k + 1)) r) : Ev g r := by
  obtain ⟨K, hK⟩ := h
  refine ⟨K + 1, fun k hk => ?_⟩
  obtain ⟨m, rfl⟩ : ∃ m, k = m + 1 := ⟨k - 1, by omega⟩
  exact hK m (by omega)
theorem Ev.done {α : Type} {r s : α} (h : r = s) : Ev (fun _ : Nat => some r) s := h ▸ Ev.now r
theorem w64 {x : Int} (h0 : -9223372036854775808 ≤ x) (h1 : x ≤ 9223372036854775807) : wrap64 x = x := by unfold wrap64; omega

end Go.Proofs.Ythcnfaonafndoaa.Br
namespace Go.Proofs.Ythcnfaonafndoaa.Br
open Go.RowKit Go.Proofs.Ythcnfaonafndoaa.S Go.Proofs.YthcnfaonafndoaaW.PrintWords Go.Proofs.YthcnfaonafndoaaW.PrintLast Go.Proofs.YthcnfaonafndoaaW.PrintMore Go.Proofs.Ythcnfaonafndoaa.Th
set_option linter.unusedVariables false
set_option linter.unusedSimpArgs false
theorem in_eq (a lo hi : Int) : spec_l00In.f a lo hi = some (decide (lo ≤ a ∧ a ≤ hi)) := by
  unfold spec_l00In.f
  by_cases h : a ≥ lo
  · rw [if_pos h]; congr 1; simp; omega
  · rw [if_neg h]; congr 1; simp; omega
theorem within_eq (a lo hi : Int) : impl_within.f a lo hi = some (decide (lo ≤ a ∧ a ≤ hi)) := by
  unfold impl_within.f
  by_cases h : a ≥ lo
  · rw [if_pos h]; congr 1; simp; omega
  · rw [if_neg h]; congr 1; simp; omega

end Go.Proofs.Ythcnfaonafndoaa.Br
namespace Go.Proofs.Ythcnfaonafndoaa.Br
open Go.RowKit Go.Proofs.Ythcnfaonafndoaa.S Go.Proofs.YthcnfaonafndoaaW.PrintWords Go.Proofs.YthcnfaonafndoaaW.PrintLast Go.Proofs.YthcnfaonafndoaaW.PrintMore Go.Proofs.Ythcnfaonafndoaa.Th
set_option linter.unusedVariables false
set_option linter.unusedSimpArgs false
theorem markText_l (n : Nat) : ∀ (x : Int) (s : ByteArray), x ≤ n → s.size + n ≤ 1152921504606846976 → ∃ t, Ev (fun k => laws_markText.l0 k x s) t := by
  induction n with
  | zero =>
    intro x s hx hs
    have b1 : ¬ x > 0 := by omega
    have b2 : 1 + s.size ≤ 9223372036854775807 := by omega
    refine ⟨(⟨#[109]⟩ : ByteArray) ++ s, Ev.succ ?_⟩
    simp only [laws_markText.l0, if_neg b1, if_pos b2]
    exact Ev.now _
  | succ n ih =>
    intro x s hx hs
    by_cases h : x > 0
    · have hd : 0 ≤ Int.tdiv x 10 ∧ Int.tdiv x 10 ≤ n := by
        rw [Int.tdiv_eq_ediv_of_nonneg (by omega)]; omega
      have hsz : ∀ y : Int, (strOfNums [y]).size = 1 := fun y => by simp [strOfNums, ByteArray.size]
      obtain ⟨t, ht⟩ := ih (Int.tdiv x 10) (strOfNums [(wrap64 (48 + (Int.tmod x 10))) % 256] ++ s) hd.2 (by rw [ByteArray.size_append, hsz]; omega)
      have b2 : (strOfNums [(wrap64 (48 + (Int.tmod x 10))) % 256]).size + s.size ≤ 9223372036854775807 := by rw [hsz]; omega
      have f1 : wrap64 (Int.tdiv x 10) = Int.tdiv x 10 := w64 (by omega) (by omega)
      refine ⟨t, Ev.succ ?_⟩
      simp only [laws_markText.l0, if_pos h, Option.bind_some, if_pos b2, f1]
      exact ht
    · have b2 : 1 + s.size ≤ 9223372036854775807 := by omega
      refine ⟨(⟨#[109]⟩ : ByteArray) ++ s, Ev.succ ?_⟩
      simp only [laws_markText.l0, if_neg h, if_pos b2]
      exact Ev.now _
theorem markText_all : ∃ F : Int → ByteArray, ∀ x : Int, x ≤ 1099511627776 → Ev (fun k => laws_markText.f k x) (F x) := by
  have h : ∀ x : Int, ∃ t, x ≤ 1099511627776 → Ev (fun k => laws_markText.f k x) t := by
    intro x
    by_cases hx : x ≤ 1099511627776
    · unfold laws_markText.f
      by_cases h0 : x ≤ 0
      · exact ⟨⟨#[109, 48]⟩, fun _ => by simp only [if_pos h0]; exact Ev.now _⟩
      · obtain ⟨t, ht⟩ := markText_l x.toNat x (⟨#[]⟩ : ByteArray) (by omega) (by show 0 + x.toNat ≤ _; omega)
        exact ⟨t, fun _ => by simp only [if_neg h0]; exact ht⟩
    · exact ⟨⟨#[]⟩, fun h => absurd h hx⟩
  exact ⟨fun x => Classical.choose (h x), fun x => Classical.choose_spec (h x)⟩

end Go.Proofs.Ythcnfaonafndoaa.Br
namespace Go.Proofs.Ythcnfaonafndoaa.Br
open Go.RowKit Go.Proofs.Ythcnfaonafndoaa.S Go.Proofs.YthcnfaonafndoaaW.PrintWords Go.Proofs.YthcnfaonafndoaaW.PrintLast Go.Proofs.YthcnfaonafndoaaW.PrintMore Go.Proofs.Ythcnfaonafndoaa.Th
set_option linter.unusedVariables false
set_option linter.unusedSimpArgs false
theorem down {P : Nat → Prop} (n : Nat) (h0 : P n) (h1 : ∀ i, i < n → P (i + 1) → P i) : ∀ i, i ≤ n → P i := by
  have key : ∀ d i, i + d = n → P i := by
    intro d
    induction d with
    | zero => intro i hi; obtain rfl : i = n := by omega
              exact h0
    | succ d ih => intro i hi; exact h1 i (by omega) (ih (i + 1) (by omega))
  intro i hi
  exact key (n - i) i (by omega)
theorem up1 (i : Nat) (h : i < 9223372036854775807) : wrap64 ((i : Int) + 1) = ((i + 1 : Nat) : Int) := by
  rw [w64 (by omega) (by omega)]; rfl
theorem ilt {i n : Nat} (h : i < n) : (i : Int) < (n : Int) := by omega
theorem inlt {n : Nat} : ¬ ((n : Int) < (n : Int)) := by omega
theorem i0 (i : Nat) : 0 ≤ (i : Int) := by omega
theorem getD_mem {α : Type} (l : List α) (i : Nat) (d : α) (h : i < l.length) : l.getD i d ∈ l := by
  rw [List.getD_eq_getElem?_getD, List.getElem?_eq_getElem h]
  exact List.getElem_mem h
theorem take1 (a : Int) (n : Nat) (h0 : 0 ≤ a) (h1 : a ≤ 1048576) (hn : n ≤ 9223372036854775807) : wrap64 (a - (n : Int)) = a - (n : Int) := w64 (by omega) (by omega)

/-! ### loops, plainly -/
def allN (n : Nat) (e : Nat → Bool) : Bool := (List.range n).all e
def eqv {α : Type} (e : α → α → Bool) (d : α) (x y : List α) : Bool := decide (x.length = y.length) && allN x.length (fun i => e (x.getD i d) (y.getD i d))
theorem allN_true {n : Nat} {e : Nat → Bool} (h : ∀ i, i < n → e i = true) : allN n e = true := by
  unfold allN
  rw [List.all_eq_true]
  intro i hi
  exact h i (List.mem_range.1 hi)
theorem eqv_self {α : Type} (e : α → α → Bool) (d : α) (x : List α) (h : ∀ a ∈ x, e a a = true) : eqv e d x x = true := by
  unfold eqv
  rw [decide_eq_true rfl, Bool.true_and]
  exact allN_true (fun i hi => h _ (getD_mem x i d hi))
def allFromN (n : Nat) (e : Nat → Bool) : Nat → Bool
  | i => (List.range n).all fun j => decide (j < i) || e j
theorem allFromN_zero (n : Nat) (e : Nat → Bool) : allFromN n e 0 = allN n e := by
  unfold allFromN allN
  simp
theorem allFromN_end (n : Nat) (e : Nat → Bool) : allFromN n e n = true := by
  unfold allFromN
  rw [List.all_eq_true]
  intro j hj
  simp [List.mem_range.1 hj]
theorem allFromN_step (n : Nat) (e : Nat → Bool) (i : Nat) (hi : i < n) : allFromN n e i = (e i && allFromN n e (i + 1)) := by
  unfold allFromN
  apply Bool.eq_iff_iff.2
  rw [Bool.and_eq_true, List.all_eq_true, List.all_eq_true]
  constructor
  · intro H
    refine ⟨by simpa using H i (List.mem_range.2 hi), fun j hj => ?_⟩
    have := H j hj
    simp only [Bool.or_eq_true, decide_eq_true_eq] at this ⊢
    rcases this with h1 | h1
    · exact .inl (by omega)
    · exact .inr h1
  · rintro ⟨H0, H⟩ j hj
    have := H j hj
    simp only [Bool.or_eq_true, decide_eq_true_eq] at this ⊢
    by_cases h : j = i
    · subst h; exact .inr H0
    · rcases this with h1 | h1
      · exact .inl (by omega)
      · exact .inr h1
theorem allLoop (n : Nat) (L : Nat → Nat → Option Bool) (e : Nat → Bool) (hend : Ev (L n) true) (hs : ∀ i, i < n → ∀ r, Ev (L (i + 1)) r → Ev (L i) (e i && r)) : Ev (L 0) (allN n e) := by
  rw [← allFromN_zero]
  refine down (P := fun i => Ev (L i) (allFromN n e i)) n ?_ ?_ 0 (by omega)
  · show Ev (L n) (allFromN n e n)
    rw [allFromN_end]; exact hend
  · intro i hi ih
    show Ev (L i) (allFromN n e i)
    rw [allFromN_step n e i hi]
    exact hs i hi _ ih
theorem andEv {g : Nat → Option Bool} {a r : Bool} {f : Nat → Option Bool} (h : Ev g a) (k : Ev f r) : Ev (fun n => (g n).bind fun t => if t = true then f n else some false) (a && r) := by
  refine Ev.bind h ?_
  cases a with
  | true => simp only [if_true, Bool.true_and]; exact k
  | false => simp only [Bool.false_eq_true, if_false, Bool.false_and]; exact Ev.now _
theorem eqEv {a b : Int} {r : Bool} {f : Nat → Option Bool} (k : Ev f r) : Ev (fun n => if a = b then f n else some false) (a == b && r) := by
  by_cases h : a = b
  · subst h; simp only [if_true, beq_self_eq_true, Bool.true_and]; exact k
  · simp only [if_neg h, beq_false_of_ne h, Bool.false_and]; exact Ev.now _
theorem lenEv {m n : Nat} {r : Bool} {f : Nat → Option Bool} (k : m = n → Ev f r) : Ev (fun q => if (m : Int) = (n : Int) then f q else some false) (decide (m = n) && r) := by
  by_cases h : m = n
  · simp only [if_pos (show (m : Int) = (n : Int) by omega), decide_eq_true h, Bool.true_and]; exact k h
  · simp only [if_neg (show ¬ (m : Int) = (n : Int) by omega), decide_eq_false h, Bool.false_and]; exact Ev.now _
end Go.Proofs.Ythcnfaonafndoaa.Br
namespace Go.Proofs.Ythcnfaonafndoaa.Br
open Go.RowKit Go.Proofs.Ythcnfaonafndoaa.S Go.Proofs.YthcnfaonafndoaaW.PrintWords Go.Proofs.YthcnfaonafndoaaW.PrintLast Go.Proofs.YthcnfaonafndoaaW.PrintMore Go.Proofs.Ythcnfaonafndoaa.Th
set_option linter.unusedVariables false
set_option linter.unusedSimpArgs false

/-! ### laws' queries -/
theorem szQueryStep_ev (b : Bool) (s : ByteArray) (a : Int) (h0 : 0 ≤ a) (h1 : a ≤ 1048576) (hs : s.size ≤ 9223372036854775807) :
    ∃ r, laws_szQueryStep.f b s a = some r ∧ (r < 0 ∨ (0 ≤ r ∧ r ≤ a ∧ (s.size : Int) ≤ 1048576)) := by
  unfold laws_szQueryStep.f
  rw [take1 a _ h0 h1 hs]
  by_cases h : a - (s.size : Int) < 0
  · exact ⟨-1, by rw [if_pos h], .inl (by omega)⟩
  · exact ⟨_, by rw [if_neg h], .inr (by omega)⟩
theorem szQuery_ev (l : List S63) (a : Int) (h0 : 0 ≤ a) (h1 : a ≤ 1048576) (hl : l.length ≤ 9223372036854775807) (hs : ∀ x ∈ l, x.f1.size ≤ 9223372036854775807) :
    ∃ r, Ev (fun k => laws_szQuery.f k l a) r ∧ (r < 0 ∨ (0 ≤ r ∧ r ≤ a ∧ (l.length : Int) ≤ 1048576 ∧ ∀ x ∈ l, (x.f1.size : Int) ≤ 1048576)) := by
  have loop : ∀ i, i ≤ l.length → ∀ c, 0 ≤ c → c ≤ 1048576 → ∃ r, Ev (fun k => laws_szQueryStepS.l0 k l c i) r ∧ (r < 0 ∨ (0 ≤ r ∧ r ≤ c ∧ ∀ j, i ≤ j → j < l.length → ((l.getD j z63).f1.size : Int) ≤ 1048576)) := by
    refine down l.length ?_ ?_
    · intro c hc _
      refine ⟨c, Ev.succ ?_, .inr ⟨hc, by omega, fun j h1 h2 => by omega⟩⟩
      simp only [laws_szQueryStepS.l0, if_neg inlt]
      exact Ev.now _
    · intro i hi ih c hc hc2
      have hm := getD_mem l i z63 hi
      obtain ⟨r, hr, hr2⟩ := szQueryStep_ev (l.getD i z63).f0 (l.getD i z63).f1 c hc hc2 (hs _ hm)
      by_cases hneg : r < 0
      · refine ⟨-1, Ev.succ ?_, .inl (by omega)⟩
        simp only [laws_szQueryStepS.l0, if_pos (ilt hi), if_pos (i0 i), rd_T63, Int.toNat_natCast, hr, Option.bind_some, if_pos hneg]
        exact Ev.now _
      · obtain ⟨q, hq, hq2⟩ := ih r (by omega) (by omega)
        refine ⟨q, Ev.succ ?_, ?_⟩
        · simp only [laws_szQueryStepS.l0, if_pos (ilt hi), if_pos (i0 i), rd_T63, Int.toNat_natCast, hr, Option.bind_some, if_neg hneg, up1 i (by omega)]
          exact hq
        · rcases hq2 with hq2 | ⟨q0, q1, q2⟩
          · exact .inl hq2
          · refine .inr ⟨q0, by omega, fun j hj1 hj2 => ?_⟩
            by_cases e : j = i
            · subst e; omega
            · exact q2 j (by omega) hj2
  unfold laws_szQuery.f laws_szQueryStepS.f
  rw [take1 a _ h0 h1 hl]
  by_cases h : a - (l.length : Int) < 0
  · exact ⟨-1, by simp only [if_pos h, Option.bind_some, show ((-1 : Int) < 0) = True from eq_true (by decide), if_true]; exact Ev.now _, .inl (by omega)⟩
  · obtain ⟨r, hr, hr2⟩ := loop 0 (by omega) (a - (l.length : Int)) (by omega) (by omega)
    by_cases hneg : r < 0
    · exact ⟨-1, by simp only [if_neg h]; exact hr.bind (by simp only [if_pos hneg]; exact Ev.now _), .inl (by omega)⟩
    · refine ⟨r, by simp only [if_neg h]; exact hr.bind (by simp only [if_neg hneg]; exact Ev.now _), .inr ⟨by omega, by omega, by omega, fun x hx => ?_⟩⟩
      obtain ⟨j, hj⟩ := List.getElem?_of_mem hx
      rcases hr2 with h2 | ⟨_, _, h2⟩
      · omega
      · have hlt := (List.getElem?_eq_some_iff.1 hj).1
        have := h2 j (by omega) hlt
        rwa [List.getD_eq_getElem?_getD, hj] at this
/-- A law's query as the program's. -/
def toQ (l : List S63) : List S66 := l.map fun x => ⟨x.f0, x.f1⟩
theorem toQuery_ev (l : List S63) (hl : l.length ≤ 1048576) : Ev (fun k => laws_toQuery.f k l) (toQ l) := by
  have loop : ∀ i, i ≤ l.length → ∀ o : List S66, o.length = l.length → o.take i = (toQ l).take i → Ev (fun k => laws_toQueryStepS.l0 k l o i) (toQ l) := by
    refine down l.length ?_ ?_
    · intro o ho ht
      have : o = toQ l := by rw [← List.take_length (l := o), ho, ht, List.take_of_length_le (by simp [toQ])]
      refine Ev.succ ?_
      simp only [laws_toQueryStepS.l0, if_neg inlt]
      exact Ev.done (by rw [this])
    · intro i hi ih o ho ht
      refine Ev.succ ?_
      simp only [laws_toQueryStepS.l0, if_pos (ilt hi), if_pos (i0 i), rd_T63, Int.toNat_natCast, laws_toQueryStep.f, Option.bind_some, if_pos (ilt (show i < o.length by omega)), up1 i (by omega)]
      refine ih _ (by simpa using ho) ?_
      rw [List.take_add_one, List.take_add_one, List.take_set_of_le (by omega), ht]
      have e1 : (o.set i (⟨(l.getD i z63).f0, (l.getD i z63).f1⟩ : S66))[i]? = some ⟨(l.getD i z63).f0, (l.getD i z63).f1⟩ := by
        rw [List.getElem?_set_self (by omega)]
      have e2 : (toQ l)[i]? = some ⟨(l.getD i z63).f0, (l.getD i z63).f1⟩ := by
        unfold toQ
        rw [List.getElem?_map, List.getElem?_eq_getElem hi, List.getD_eq_getElem?_getD, List.getElem?_eq_getElem hi]
        rfl
      rw [e1, e2]
  unfold laws_toQuery.f laws_toQueryStepS.f
  simp only [if_pos (i0 l.length), Int.toNat_natCast, if_pos (show l.length ≤ 11728124029610 by omega)]
  refine Ev.bind (loop 0 (by omega) _ (by simp) (by simp)) (Ev.now _)
theorem eqQuery_ev (l : List S66) (hl : l.length ≤ 1048576) : Ev (fun k => laws_eqQuery.f k l l) true := by
  have loop : ∀ i, i ≤ l.length → Ev (fun k => laws_eqQueryStepS.l0 k l l i) true := by
    refine down l.length ?_ ?_
    · refine Ev.succ ?_
      simp only [laws_eqQueryStepS.l0, if_neg inlt]
      exact Ev.now _
    · intro i hi ih
      refine Ev.succ ?_
      simp only [laws_eqQueryStepS.l0, if_pos (ilt hi), if_pos (i0 i), laws_eqQueryStep.f, bne_self_eq_false, Bool.false_eq_true, if_false, if_true, Option.bind_some, up1 i (by omega)]
      exact ih
  unfold laws_eqQuery.f laws_eqQueryStepS.f
  simp only [if_true]
  exact Ev.bind (loop 0 (by omega)) (by simp only [if_true]; exact Ev.now _)
theorem toQ_length (l : List S63) : (toQ l).length = l.length := by simp [toQ]
end Go.Proofs.Ythcnfaonafndoaa.Br
namespace Go.Proofs.Ythcnfaonafndoaa.Br
open Go.RowKit Go.Proofs.Ythcnfaonafndoaa.S Go.Proofs.YthcnfaonafndoaaW.PrintWords Go.Proofs.YthcnfaonafndoaaW.PrintLast Go.Proofs.YthcnfaonafndoaaW.PrintMore Go.Proofs.Ythcnfaonafndoaa.Th
set_option linter.unusedVariables false
set_option linter.unusedSimpArgs false
/-- The greatest of some numbers and a first one. -/
def most (x : Int) (l : List Int) : Int := l.foldl mx x

end Go.Proofs.Ythcnfaonafndoaa.Br
namespace Go.Proofs.Ythcnfaonafndoaa.Br
open Go.RowKit Go.Proofs.Ythcnfaonafndoaa.S Go.Proofs.YthcnfaonafndoaaW.PrintWords Go.Proofs.YthcnfaonafndoaaW.PrintLast Go.Proofs.YthcnfaonafndoaaW.PrintMore Go.Proofs.Ythcnfaonafndoaa.Th
set_option linter.unusedVariables false
set_option linter.unusedSimpArgs false
/-- Is a text a test. -/
def tst (l : List UInt8) : Bool := l == [40] || l == [91] || l == [97] || l == [98] || l == [42] || l == [46]

theorem toList_len (a : ByteArray) : a.toList.length = a.size := by rw [Lib.toList_data]; simp
theorem toList_one {a : ByteArray} (h : a.size = 1) : ∃ c : UInt8, a = ⟨#[c]⟩ ∧ a.toList = [c] := by
  obtain ⟨⟨l⟩⟩ := a
  match l, h with
  | [c], _ => exact ⟨c, rfl, by rw [Lib.toList_data]⟩

theorem sTest_eq (a : ByteArray) : spec_l05Test.f a = some (tst a.toList) := by
  unfold spec_l05Test.f tst
  by_cases h1 : a.toList = [40]
  · simp [h1]
  · by_cases h2 : a.toList = [91]
    · simp [h2]
    · by_cases h3 : a.toList = [97]
      · simp [h3]
      · by_cases h4 : a.toList = [98]
        · simp [h4]
        · by_cases h5 : a.toList = [42]
          · simp [h5]
          · simp [h1, h2, h3, h4, h5]

theorem iTest_eq (a : ByteArray) : impl_isTest.f a = some (tst a.toList) := by
  unfold impl_isTest.f
  by_cases h : a.size = 1
  · obtain ⟨c, rfl, hl⟩ := toList_one h
    rw [if_pos (by rw [h]; rfl)]
    unfold strings_Contains.f
    rw [if_pos h, hl]
    simp only [Option.bind_some]
    congr 1
    show decide (0 ≤ Lib.indexByte [40, 91, 97, 98, 42, 46] c) = tst [c]
    have key : ∀ n : Fin 256, decide (0 ≤ Lib.indexByte [40, 91, 97, 98, 42, 46] (UInt8.ofNat n.val)) = tst [UInt8.ofNat n.val] := by decide +kernel
    have := key ⟨c.toNat, c.toNat_lt⟩
    simpa using this
  · rw [if_neg (by omega)]
    have hl := toList_len a
    unfold tst
    have : ∀ x : UInt8, (a.toList == [x]) = false := by
      intro x
      rw [beq_eq_false_iff_ne]
      intro e
      rw [e] at hl
      simp at hl
      omega
    simp [this]

end Go.Proofs.Ythcnfaonafndoaa.Br
namespace Go.Proofs.Ythcnfaonafndoaa.Br
open Go.RowKit Go.Proofs.Ythcnfaonafndoaa.S Go.Proofs.YthcnfaonafndoaaW.PrintWords Go.Proofs.YthcnfaonafndoaaW.PrintLast Go.Proofs.YthcnfaonafndoaaW.PrintMore Go.Proofs.Ythcnfaonafndoaa.Th
set_option linter.unusedVariables false
set_option linter.unusedSimpArgs false
theorem drop_all {α : Type} (l : List α) (p : α → Bool) (i : Nat) (d : α) (h : i < l.length) : (l.drop i).all p = (p (l.getD i d) && (l.drop (i + 1)).all p) := by
  rw [List.drop_eq_getElem_cons h, List.all_cons, List.getD_eq_getElem?_getD, List.getElem?_eq_getElem h]
  rfl
theorem drop_end {α : Type} (l : List α) : l.drop l.length = [] := List.drop_length
def tstS (x : S66) : Bool := tst x.f1.toList
def okQ (l : List S66) : Bool := l.all tstS && decide (1 ≤ (l.length : Int) ∧ (l.length : Int) ≤ 6)
theorem specOkQ_ev (l : List S66) (hl : l.length ≤ 1048576) : Ev (fun k => spec_l05Ok.f k l) (okQ l) := by
  have loop : ∀ i, i ≤ l.length → Ev (fun k => spec_l05Ok.l0 k i l) ((l.drop i).all tstS && decide (1 ≤ (l.length : Int) ∧ (l.length : Int) ≤ 6)) := by
    refine down l.length ?_ ?_
    · refine Ev.succ ?_
      simp only [spec_l05Ok.l0, if_neg inlt, in_eq, Option.bind_some, drop_end, List.all_nil, Bool.true_and]
      exact Ev.now _
    · intro i hi ih
      refine Ev.succ ?_
      simp only [spec_l05Ok.l0, if_pos (ilt hi), if_pos (i0 i), rd_T66, Int.toNat_natCast, sTest_eq, Option.bind_some, up1 i (by omega)]
      rw [drop_all l tstS i z66 hi]
      by_cases e : tst (l.getD i z66).f1.toList = true
      · simp only [if_pos e, show tstS (l.getD i z66) = true from e, Bool.true_and]
        exact ih
      · simp only [if_neg e, show tstS (l.getD i z66) = false from by simpa [tstS] using e, Bool.false_and]
        exact Ev.now _
  exact loop 0 (by omega)
theorem implValidQ_ev (l : List S66) (hl : l.length ≤ 1048576) : Ev (fun k => impl_ValidQuery.f k l) (okQ l) := by
  have loop : ∀ i, i ≤ l.length → ∃ r : Int, Ev (fun k => slices_IndexFunc_Limpl_QueryStep_impl_QueryStep_at_impl_ValidQuery_1.l0 k l (l.length : Int) i) r ∧ ((l.drop i).all tstS = !(decide (r ≥ 0))) := by
    refine down l.length ?_ ?_
    · refine ⟨-1, Ev.succ ?_, by rw [drop_end]; rfl⟩
      simp only [slices_IndexFunc_Limpl_QueryStep_impl_QueryStep_at_impl_ValidQuery_1.l0, if_neg inlt]
      exact Ev.now _
    · intro i hi ih
      obtain ⟨r, hr, he⟩ := ih
      by_cases e : tst (l.getD i z66).f1.toList = true
      · refine ⟨r, Ev.succ ?_, ?_⟩
        · simp only [slices_IndexFunc_Limpl_QueryStep_impl_QueryStep_at_impl_ValidQuery_1.l0, if_pos (ilt hi), if_pos (i0 i), rd_T66, Int.toNat_natCast, impl_ValidQuery_1.f, iTest_eq, Option.bind_some, e, Bool.not_true, Bool.false_eq_true, if_false, up1 i (by omega)]
          exact hr
        · rw [drop_all l tstS i z66 hi, show tstS (l.getD i z66) = true from e, Bool.true_and, he]
      · have e' : tst (l.getD i z66).f1.toList = false := by simpa using e
        refine ⟨(i : Int), Ev.succ ?_, ?_⟩
        · simp only [slices_IndexFunc_Limpl_QueryStep_impl_QueryStep_at_impl_ValidQuery_1.l0, if_pos (ilt hi), if_pos (i0 i), rd_T66, Int.toNat_natCast, impl_ValidQuery_1.f, iTest_eq, Option.bind_some, e', Bool.not_false, if_true]
          exact Ev.now _
        · rw [drop_all l tstS i z66 hi, show tstS (l.getD i z66) = false from e', Bool.false_and]
          simp
  obtain ⟨r, hr, he⟩ := loop 0 (by omega)
  unfold impl_ValidQuery.f impl_size_impl_QueryStep.f okQ
  simp only [Option.bind_some, within_eq]
  by_cases h : 1 ≤ (l.length : Int) ∧ (l.length : Int) ≤ 6
  · simp only [decide_eq_true h, if_true, Bool.and_true]
    rw [List.drop_zero] at he
    rw [he]
    unfold slices_ContainsFunc_Limpl_QueryStep_impl_QueryStep_at_impl_ValidQuery_1.f slices_IndexFunc_Limpl_QueryStep_impl_QueryStep_at_impl_ValidQuery_1.f
    exact Ev.bind (Ev.bind hr (Ev.now _)) (Ev.now _)
  · simp only [decide_eq_false h, Bool.false_eq_true, if_false, Bool.and_false]
    exact Ev.now _
end Go.Proofs.Ythcnfaonafndoaa.Br
namespace Go.Proofs.Ythcnfaonafndoaa.Br
open Go.RowKit Go.Proofs.Ythcnfaonafndoaa.S Go.Proofs.YthcnfaonafndoaaW.PrintWords Go.Proofs.YthcnfaonafndoaaW.PrintLast Go.Proofs.YthcnfaonafndoaaW.PrintMore Go.Proofs.Ythcnfaonafndoaa.Th
set_option linter.unusedVariables false
set_option linter.unusedSimpArgs false
def eint (a b : Int) : Bool := a == b
/-- How long a row is, and those inside. -/
def sm0 {α : Type} (l : List α) : Prop := l.length ≤ 1048576
def sm1 {α : Type} (l : List (List α)) : Prop := l.length ≤ 1048576 ∧ ∀ x ∈ l, sm0 x
theorem laws_eqInt64S_ev (x y : List Int) (hx : sm0 x) : Ev (fun k => laws_eqInt64S.f k x y) (eqv eint 0 x y) := by
  have hl : x.length ≤ 1048576 := hx
  unfold laws_eqInt64S.f eqv
  refine lenEv (fun h => allLoop x.length (fun i k => laws_eqInt64S.l0 k x y (i : Int)) _ ?_ ?_)
  · refine Ev.succ ?_
    simp only [laws_eqInt64S.l0, if_neg inlt]
    exact Ev.now _
  · intro i hi r hr
    refine Ev.succ ?_
    simp only [laws_eqInt64S.l0, if_pos (ilt hi), if_pos (i0 i), if_pos (ilt (show i < y.length by omega)), up1 i (by omega)]
    exact eqEv hr

theorem laws_eqInt64SS_ev (x y : List (List Int)) (hx : sm1 x) : Ev (fun k => laws_eqInt64SS.f k x y) (eqv (eqv eint 0) ([] : (List Int)) x y) := by
  have hl : x.length ≤ 1048576 := hx.1
  unfold laws_eqInt64SS.f eqv
  refine lenEv (fun h => allLoop x.length (fun i k => laws_eqInt64SS.l0 k x y (i : Int)) _ ?_ ?_)
  · refine Ev.succ ?_
    simp only [laws_eqInt64SS.l0, if_neg inlt]
    exact Ev.now _
  · intro i hi r hr
    refine Ev.succ ?_
    simp only [laws_eqInt64SS.l0, if_pos (ilt hi), if_pos (i0 i), if_pos (ilt (show i < y.length by omega)), up1 i (by omega)]
    exact andEv (laws_eqInt64S_ev _ _ (hx.2 _ (getD_mem x i _ hi))) hr

end Go.Proofs.Ythcnfaonafndoaa.Br
namespace Go.Proofs.Ythcnfaonafndoaa.Br
open Go.RowKit Go.Proofs.Ythcnfaonafndoaa.S Go.Proofs.YthcnfaonafndoaaW.PrintWords Go.Proofs.YthcnfaonafndoaaW.PrintLast Go.Proofs.YthcnfaonafndoaaW.PrintMore Go.Proofs.Ythcnfaonafndoaa.Th
set_option linter.unusedVariables false
set_option linter.unusedSimpArgs false
theorem eint_self (a : Int) : eint a a = true := by simp [eint]
end Go.Proofs.Ythcnfaonafndoaa.Br
namespace Go.Proofs.Ythcnfaonafndoaa.Br
open Go.RowKit Go.Proofs.Ythcnfaonafndoaa.S Go.Proofs.YthcnfaonafndoaaW.PrintWords Go.Proofs.YthcnfaonafndoaaW.PrintLast Go.Proofs.YthcnfaonafndoaaW.PrintMore Go.Proofs.Ythcnfaonafndoaa.Th
set_option linter.unusedVariables false
set_option linter.unusedSimpArgs false
theorem laws_eqWatcher_ev (l0 : List S66) (a : Int) (l2 : List Int) (l3 : List (List Int)) (h0 : l0.length ≤ 1048576) (h2 : sm0 l2) (h3 : sm1 l3) :
    Ev (fun k => laws_eqWatcher.f k l0 a l2 l3 l0 a l2 l3) true := by
  unfold laws_eqWatcher.f
  have e2 := laws_eqInt64S_ev l2 l2 h2
  rw [eqv_self _ _ _ (fun a _ => eint_self a)] at e2
  have e3 := laws_eqInt64SS_ev l3 l3 h3
  rw [eqv_self _ _ _ (fun a _ => eqv_self _ _ _ (fun a _ => eint_self a))] at e3
  refine Ev.bind (eqQuery_ev l0 h0) ?_
  simp only [if_true]
  refine Ev.bind e2 ?_
  simp only [if_true]
  refine Ev.bind e3 ?_
  simp only [if_true]
  exact Ev.now _
end Go.Proofs.Ythcnfaonafndoaa.Br
namespace Go.Proofs.Ythcnfaonafndoaa.Br
open Go.RowKit Go.Proofs.Ythcnfaonafndoaa.S Go.Proofs.YthcnfaonafndoaaW.PrintWords Go.Proofs.YthcnfaonafndoaaW.PrintLast Go.Proofs.YthcnfaonafndoaaW.PrintMore Go.Proofs.Ythcnfaonafndoaa.Th
set_option linter.unusedVariables false
set_option linter.unusedSimpArgs false
/-- n marked steps from a on. -/
def mqs (F : Int → ByteArray) (a : Int) : Nat → List S66
  | 0 => []
  | n + 1 => mqs F a n ++ [⟨Int.tmod (a + 2 * n) 3 == 0, F (a + 2 * n + 1)⟩]
theorem mqs_len (F : Int → ByteArray) (a : Int) : ∀ n, (mqs F a n).length = n
  | 0 => rfl
  | n + 1 => by simp [mqs, mqs_len F a n]
theorem mqs_get (F : Int → ByteArray) (a : Int) : ∀ n j : Nat, j < n → rd_T66 (mqs F a n) j = ⟨Int.tmod (a + 2 * j) 3 == 0, F (a + 2 * j + 1)⟩
  | n + 1, j, h => by
    unfold mqs rd_T66
    rw [Int.toNat_natCast, List.getD_eq_getElem?_getD]
    by_cases hj : j < n
    · rw [List.getElem?_append_left (by rw [mqs_len]; exact hj)]
      have := mqs_get F a n j hj
      unfold rd_T66 at this
      rw [Int.toNat_natCast, List.getD_eq_getElem?_getD] at this
      exact this
    · have : j = n := by omega
      subst this
      rw [List.getElem?_append_right (by rw [mqs_len]; exact Nat.le_refl _), mqs_len]
      simp
theorem rdT_set (l : List S66) (i : Nat) (v : S66) (h : i < l.length) : rd_T66 (l.set i v) i = v := by
  unfold rd_T66
  rw [Int.toNat_natCast, List.getD_eq_getElem?_getD, List.getElem?_set_self h]
  rfl
theorem markQ_loop (F : Int → ByteArray) (hF : ∀ x : Int, x ≤ 1099511627776 → Ev (fun k => laws_markText.f k x) (F x)) (l : List S66) (hl : l.length ≤ 4194304) : ∀ i, i ≤ l.length →
    Ev (fun k => laws_markQueryStepS.l0 k (mqs F 1 i ++ l.drop i) (1 + 2 * (i : Int)) i) (1 + 2 * (l.length : Int), mqs F 1 l.length) := by
  refine down l.length ?_ ?_
  · refine Ev.succ ?_
    have : (mqs F 1 l.length ++ l.drop l.length).length = l.length := by simp [mqs_len]
    simp only [laws_markQueryStepS.l0, this, if_neg (show ¬ (l.length : Int) < (l.length : Int) by omega)]
    exact Ev.done (by simp)
  · intro i hi hnext
    have hlen : (mqs F 1 i ++ l.drop i).length = l.length := by simp [mqs_len]; omega
    have hil : i < (mqs F 1 i ++ l.drop i).length := by omega
    have hset : (mqs F 1 i ++ l.drop i).set i ⟨Int.tmod (1 + 2 * (i : Int)) 3 == 0, F (1 + 2 * (i : Int) + 1)⟩ = mqs F 1 (i + 1) ++ l.drop (i + 1) := by
      rw [List.drop_eq_getElem_cons (by omega : i < l.length), List.set_append_right _ _ (by rw [mqs_len]; exact Nat.le_refl _), mqs_len, Nat.sub_self, List.set_cons_zero, mqs, List.append_assoc]
      rfl
    have b1 : (i : Int) < (l.length : Int) := by omega
    have b2 : (0 : Int) ≤ (i : Int) := by omega
    have ht := hF (1 + 2 * (i : Int) + 1) (by omega)
    have f3 : wrap64 ((i : Int) + 1) = ((i + 1 : Nat) : Int) := by rw [w64 (by omega) (by omega)]; push_cast; rfl
    have f4 : wrap64 (1 + 2 * (i : Int) + 1) = 1 + 2 * (i : Int) + 1 := by clear f3; exact w64 (by omega) (by omega)
    have f5 : wrap64 (1 + 2 * (i : Int) + 1 + 1) = 1 + 2 * ((i + 1 : Nat) : Int) := by clear f3 f4; rw [w64 (by omega) (by omega)]; push_cast; omega
    refine Ev.succ ?_
    simp only [laws_markQueryStepS.l0, hlen, if_pos b1, if_pos b2, Option.bind_some, f4, Int.toNat_natCast, rdT_set _ i _ hil, List.set_set, f5, f3]
    refine Ev.bind ht ?_
    rw [hset]
    exact hnext
theorem markQ_ev (F : Int → ByteArray) (hF : ∀ x : Int, x ≤ 1099511627776 → Ev (fun k => laws_markText.f k x) (F x)) (l : List S66) (hl : l.length ≤ 4194304) : Ev (fun k => laws_markQuery.f k l 1) (1 + 2 * (l.length : Int), mqs F 1 l.length) := by
  unfold laws_markQuery.f
  refine Ev.bind (a := (1 + 2 * (l.length : Int), mqs F 1 l.length)) ?_ (Ev.now _)
  have := markQ_loop F hF l hl 0 (by omega)
  simpa [mqs, laws_markQueryStepS.f] using this
theorem heldQ_ev (F : Int → ByteArray) (hF : ∀ x : Int, x ≤ 1099511627776 → Ev (fun k => laws_markText.f k x) (F x)) (n : Nat) (hl : n ≤ 4194304) : Ev (fun k => laws_heldQuery.f k (mqs F 1 n) 1) (1 + 2 * (n : Int)) := by
  have loop : ∀ i, i ≤ n → Ev (fun k => laws_heldQueryStepS.l0 k (mqs F 1 n) (1 + 2 * (i : Int)) i) (1 + 2 * (n : Int)) := by
    refine down n ?_ ?_
    · refine Ev.succ ?_
      simp only [laws_heldQueryStepS.l0, mqs_len, if_neg (show ¬ (n : Int) < (n : Int) by omega)]
      exact Ev.now _
    · intro i hi hnext
      have b1 : (i : Int) < (n : Int) := by omega
      have b2 : (0 : Int) ≤ (i : Int) := by omega
      have ht := hF (1 + 2 * (i : Int) + 1) (by omega)
      have f3 : wrap64 ((i : Int) + 1) = ((i + 1 : Nat) : Int) := by rw [w64 (by omega) (by omega)]; push_cast; rfl
      have f4 : wrap64 (1 + 2 * (i : Int) + 1) = 1 + 2 * (i : Int) + 1 := by clear f3; exact w64 (by omega) (by omega)
      have f5 : wrap64 (1 + 2 * (i : Int) + 1 + 1) = 1 + 2 * ((i + 1 : Nat) : Int) := by clear f3 f4; rw [w64 (by omega) (by omega)]; push_cast; omega
      refine Ev.succ ?_
      simp only [laws_heldQueryStepS.l0, mqs_len, if_pos b1, if_pos b2, mqs_get F 1 n i hi, f4, bne_self_eq_false, Bool.false_eq_true, if_false]
      refine Ev.bind ht ?_
      simp only [if_true, f5, f3]
      exact hnext
  unfold laws_heldQuery.f
  refine Ev.bind (a := 1 + 2 * (n : Int)) ?_ ?_
  · have := loop 0 (by omega)
    simpa [laws_heldQueryStepS.f] using this
  · simp only [if_neg (show ¬ (1 + 2 * (n : Int)) < 0 by omega)]
    exact Ev.now _
end Go.Proofs.Ythcnfaonafndoaa.Br
namespace Go.Proofs.Ythcnfaonafndoaa.Br
open Go.RowKit Go.Proofs.Ythcnfaonafndoaa.S Go.Proofs.YthcnfaonafndoaaW.PrintWords Go.Proofs.YthcnfaonafndoaaW.PrintLast Go.Proofs.YthcnfaonafndoaaW.PrintMore Go.Proofs.Ythcnfaonafndoaa.Th
set_option linter.unusedVariables false
set_option linter.unusedSimpArgs false
/-- n numbers from a on. -/
def up (a : Int) : Nat → List Int
  | 0 => []
  | n + 1 => up a n ++ [a + n]
theorem up_len (a : Int) : ∀ n, (up a n).length = n
  | 0 => rfl
  | n + 1 => by simp [up, up_len a n]
theorem up_get (a : Int) : ∀ n j : Nat, j < n → rd (up a n) j = a + j
  | n + 1, j, h => by
    unfold up rd
    rw [Int.toNat_natCast, List.getD_eq_getElem?_getD]
    by_cases hj : j < n
    · rw [List.getElem?_append_left (by rw [up_len]; exact hj)]
      have := up_get a n j hj
      unfold rd at this
      rw [Int.toNat_natCast, List.getD_eq_getElem?_getD] at this
      exact this
    · have : j = n := by omega
      subst this
      rw [List.getElem?_append_right (by rw [up_len]; exact Nat.le_refl _), up_len]
      simp

theorem markInts_loop (l : List Int) (hl : l.length ≤ 4194304) (a : Int) (h0 : 0 ≤ a) (h1 : a ≤ 1152921504606846976) : ∀ d i : Nat, i + d = l.length →
    Ev (fun k => laws_markInt64S.l0 k (up a i ++ l.drop i) (a + i) i) (a + l.length, up a l.length) := by
  intro d
  induction d with
  | zero =>
    intro i hi
    obtain rfl : i = l.length := by omega
    refine Ev.succ ?_
    have : (up a l.length ++ l.drop l.length).length = l.length := by simp [up_len]
    simp only [laws_markInt64S.l0, this, if_neg (show ¬ (l.length : Int) < (l.length : Int) by omega)]
    exact Ev.done (by simp)
  | succ d ih =>
    intro i hi
    have hnext := ih (i + 1) (by omega)
    have hlen : (up a i ++ l.drop i).length = l.length := by simp [up_len]; omega
    have hset : (up a i ++ l.drop i).set i (a + i) = up a (i + 1) ++ l.drop (i + 1) := by
      rw [List.drop_eq_getElem_cons (by omega : i < l.length), List.set_append_right _ _ (by rw [up_len]; exact Nat.le_refl _), up_len, Nat.sub_self, List.set_cons_zero, up, List.append_assoc]
      rfl
    have b1 : (i : Int) < (l.length : Int) := by omega
    have b2 : (0 : Int) ≤ (i : Int) := by omega
    have f3 : wrap64 ((i : Int) + 1) = (i : Int) + 1 := w64 (by omega) (by omega)
    have f4 : wrap64 (a + (i : Int) + 1) = a + ((i + 1 : Nat) : Int) := by rw [w64 (by omega) (by omega)]; push_cast; omega
    refine Ev.succ ?_
    simp only [laws_markInt64S.l0, hlen, if_pos b1, if_pos b2, f3, f4, Int.toNat_natCast, hset]
    exact hnext
theorem markInts_ev (l : List Int) (hl : l.length ≤ 4194304) (a : Int) (h0 : 0 ≤ a) (h1 : a ≤ 1152921504606846976) : Ev (fun k => laws_markInt64S.f k l a) (a + l.length, up a l.length) := by
  have := markInts_loop l hl a h0 h1 l.length 0 (Nat.zero_add _)
  simpa [up, laws_markInt64S.f] using this

theorem heldInts_loop (n : Nat) (hl : n ≤ 4194304) (a : Int) (h0 : 0 ≤ a) (h1 : a ≤ 1152921504606846976) : ∀ d i : Nat, i + d = n →
    Ev (fun k => laws_heldInt64S.l0 k (up a n) (a + i) i) (a + n) := by
  intro d
  induction d with
  | zero =>
    intro i hi
    obtain rfl : i = n := by omega
    refine Ev.succ ?_
    simp only [laws_heldInt64S.l0, up_len, if_neg (show ¬ (i : Int) < (i : Int) by omega)]
    exact Ev.now _
  | succ d ih =>
    intro i hi
    have hnext := ih (i + 1) (by omega)
    have b1 : (i : Int) < (n : Int) := by omega
    have b2 : (0 : Int) ≤ (i : Int) := by omega
    have f3 : wrap64 ((i : Int) + 1) = (i : Int) + 1 := w64 (by omega) (by omega)
    have f4 : wrap64 (a + (i : Int) + 1) = a + ((i + 1 : Nat) : Int) := by rw [w64 (by omega) (by omega)]; push_cast; omega
    refine Ev.succ ?_
    simp only [laws_heldInt64S.l0, up_len, if_pos b1, if_pos b2, f3, f4, up_get a n i (by omega), if_true]
    exact hnext
theorem heldInts_ev (n : Nat) (hl : n ≤ 4194304) (a : Int) (h0 : 0 ≤ a) (h1 : a ≤ 1152921504606846976) : Ev (fun k => laws_heldInt64S.f k (up a n) a) (a + n) := by
  have := heldInts_loop n hl a h0 h1 n 0 (Nat.zero_add _)
  simpa [laws_heldInt64S.f] using this

end Go.Proofs.Ythcnfaonafndoaa.Br
