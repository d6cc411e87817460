/- What the law FnExactValidChecker leans on: plain facts, and what the printed functions that it reaches come to; for all arguments that the facts name. -/
import Derived.Test.YtolmmfcofbhagaaPv0
import Derived.Test.YtolmmfcofbhagaaPv26
import Derived.Test.YtolmmfcofbhagaaPv27
import Derived.Test.YtolmmfcofbhagaaPv29
import Derived.Test.YtolmmfcofbhagaaPv30
import Derived.Test.YtolmmfcofbhagaaPv51
import Derived.Test.YtolmmfcofbhagaaPv58
import Derived.Test.YtolmmfcofbhagaaPv63
import Derived.Test.YtolmmfcofbhagaaPv64
import Derived.Test.YtolmmfcofbhagaaPv72
import Derived.Test.YtolmmfcofbhagaaPv74
import Derived.Test.YtolmmfcofbhagaaPv77
import Derived.Test.YtolmmfcofbhagaaPv81
import Derived.Test.YtolmmfcofbhagaaPv87
import Derived.Test.YtolmmfcofbhagaaPv88
import Derived.Test.YtolmmfcofbhagaaPv89
import Derived.Test.YtolmmfcofbhagaaPv139
import Derived.Test.YtolmmfcofbhagaaPv141
import Derived.Test.YtolmmfcofbhagaaPv7000001
namespace Go.Proofs.Ytolmmfcofbhagaa.Th

def g (l : List Int) (j : Nat) : Int := l.getD j 0

end Go.Proofs.Ytolmmfcofbhagaa.Th
namespace Go.Proofs.Ytolmmfcofbhagaa.Br
open Go.RowKit Go.Proofs.Ytolmmfcofbhagaa.V Go.Proofs.YtolmmfcofbhagaaW.PrintWords Go.Proofs.YtolmmfcofbhagaaW.PrintLast Go.Proofs.YtolmmfcofbhagaaW.PrintMore Go.Proofs.Ytolmmfcofbhagaa.Th
set_option linter.unusedVariables false
set_option linter.unusedSimpArgs false
theorem Ev.succ {α : Type} {g : Nat → Option α} {r : α} (h : Ev (fun k => g (k + 1)) r) : Ev g r := by
  obtain ⟨K, hK⟩ := h
  refine ⟨K + 1, fun k hk => ?_⟩
  obtain ⟨m, rfl⟩ : ∃ m, k = m + 1 := ⟨k - 1, by omega⟩
  exact hK m (by omega)
theorem w64 {x : Int} (h0 : -9223372036854775808 ≤ x) (h1 : x ≤ 9223372036854775807) : wrap64 x = x := by unfold wrap64; omega

end Go.Proofs.Ytolmmfcofbhagaa.Br
namespace Go.Proofs.Ytolmmfcofbhagaa.Br
open Go.RowKit Go.Proofs.Ytolmmfcofbhagaa.V Go.Proofs.YtolmmfcofbhagaaW.PrintWords Go.Proofs.YtolmmfcofbhagaaW.PrintLast Go.Proofs.YtolmmfcofbhagaaW.PrintMore Go.Proofs.Ytolmmfcofbhagaa.Th
set_option linter.unusedVariables false
set_option linter.unusedSimpArgs false
theorem down {P : Nat → Prop} (n : Nat) (h0 : P n) (h1 : ∀ i, i < n → P (i + 1) → P i) : ∀ i, i ≤ n → P i := by
  have key : ∀ d i, i + d = n → P i := by
    intro d
    induction d with
    | zero => intro i hi; obtain rfl : i = n := by omega
              exact h0
    | succ d ih => intro i hi; exact h1 i (by omega) (ih (i + 1) (by omega))
  intro i hi
  exact key (n - i) i (by omega)
theorem up1 (i : Nat) (h : i < 9223372036854775807) : wrap64 ((i : Int) + 1) = ((i + 1 : Nat) : Int) := by
  rw [w64 (by omega) (by omega)]; rfl
theorem ilt {i n : Nat} (h : i < n) : (i : Int) < (n : Int) := by omega
theorem inlt {n : Nat} : ¬ ((n : Int) < (n : Int)) := by omega
theorem i0 (i : Nat) : 0 ≤ (i : Int) := by omega
theorem getD_mem {α : Type} (l : List α) (i : Nat) (d : α) (h : i < l.length) : l.getD i d ∈ l := by
  rw [List.getD_eq_getElem?_getD, List.getElem?_eq_getElem h]
  exact List.getElem_mem h
theorem take1 (a : Int) (n : Nat) (h0 : 0 ≤ a) (h1 : a ≤ 1048576) (hn : n ≤ 9223372036854775807) : wrap64 (a - (n : Int)) = a - (n : Int) := w64 (by omega) (by omega)

/-! ### loops, plainly -/
def allN (n : Nat) (e : Nat → Bool) : Bool := (List.range n).all e
def eqv {α : Type} (e : α → α → Bool) (d : α) (x y : List α) : Bool := decide (x.length = y.length) && allN x.length (fun i => e (x.getD i d) (y.getD i d))
theorem allN_true {n : Nat} {e : Nat → Bool} (h : ∀ i, i < n → e i = true) : allN n e = true := by
  unfold allN
  rw [List.all_eq_true]
  intro i hi
  exact h i (List.mem_range.1 hi)
theorem eqv_self {α : Type} (e : α → α → Bool) (d : α) (x : List α) (h : ∀ a ∈ x, e a a = true) : eqv e d x x = true := by
  unfold eqv
  rw [decide_eq_true rfl, Bool.true_and]
  exact allN_true (fun i hi => h _ (getD_mem x i d hi))
def allFromN (n : Nat) (e : Nat → Bool) : Nat → Bool
  | i => (List.range n).all fun j => decide (j < i) || e j
theorem allFromN_zero (n : Nat) (e : Nat → Bool) : allFromN n e 0 = allN n e := by
  unfold allFromN allN
  simp
theorem allFromN_end (n : Nat) (e : Nat → Bool) : allFromN n e n = true := by
  unfold allFromN
  rw [List.all_eq_true]
  intro j hj
  simp [List.mem_range.1 hj]
theorem allFromN_step (n : Nat) (e : Nat → Bool) (i : Nat) (hi : i < n) : allFromN n e i = (e i && allFromN n e (i + 1)) := by
  unfold allFromN
  apply Bool.eq_iff_iff.2
  rw [Bool.and_eq_true, List.all_eq_true, List.all_eq_true]
  constructor
  · intro H
    refine ⟨by simpa using H i (List.mem_range.2 hi), fun j hj => ?_⟩
    have := H j hj
    simp only [Bool.or_eq_true, decide_eq_true_eq] at this ⊢
    rcases this with h1 | h1
    · exact .inl (by omega)
    · exact .inr h1
  · rintro ⟨H0, H⟩ j hj
    have := H j hj
    simp only [Bool.or_eq_true, decide_eq_true_eq] at this ⊢
    by_cases h : j = i
    · subst h; exact .inr H0
    · rcases this with h1 | h1
      · exact .inl (by omega)
      · exact .inr h1
theorem allLoop (n : Nat) (L : Nat → Nat → Option Bool) (e : Nat → Bool) (hend : Ev (L n) true) (hs : ∀ i, i < n → ∀ r, Ev (L (i + 1)) r → Ev (L i) (e i && r)) : Ev (L 0) (allN n e) := by
  rw [← allFromN_zero]
  refine down (P := fun i => Ev (L i) (allFromN n e i)) n ?_ ?_ 0 (by omega)
  · show Ev (L n) (allFromN n e n)
    rw [allFromN_end]; exact hend
  · intro i hi ih
    show Ev (L i) (allFromN n e i)
    rw [allFromN_step n e i hi]
    exact hs i hi _ ih
theorem andEv {g : Nat → Option Bool} {a r : Bool} {f : Nat → Option Bool} (h : Ev g a) (k : Ev f r) : Ev (fun n => (g n).bind fun t => if t = true then f n else some false) (a && r) := by
  refine Ev.bind h ?_
  cases a with
  | true => simp only [if_true, Bool.true_and]; exact k
  | false => simp only [Bool.false_eq_true, if_false, Bool.false_and]; exact Ev.now _
theorem iteEv {a r : Bool} {f : Nat → Option Bool} (k : Ev f r) : Ev (fun n => if a = true then f n else some false) (a && r) := by
  cases a with
  | true => simp only [if_true, Bool.true_and]; exact k
  | false => simp only [Bool.false_eq_true, if_false, Bool.false_and]; exact Ev.now _
theorem notEv {a r : Bool} {f : Nat → Option Bool} (k : Ev f r) : Ev (fun n => if a = true then some false else f n) (!a && r) := by
  cases a with
  | false => simp only [Bool.false_eq_true, if_false, Bool.not_false, Bool.true_and]; exact k
  | true => simp only [if_true, Bool.not_true, Bool.false_and]; exact Ev.now _
theorem eqEv {a b : Int} {r : Bool} {f : Nat → Option Bool} (k : Ev f r) : Ev (fun n => if a = b then f n else some false) (a == b && r) := by
  by_cases h : a = b
  · subst h; simp only [if_true, beq_self_eq_true, Bool.true_and]; exact k
  · simp only [if_neg h, beq_false_of_ne h, Bool.false_and]; exact Ev.now _
theorem lenEv {m n : Nat} {r : Bool} {f : Nat → Option Bool} (k : m = n → Ev f r) : Ev (fun q => if (m : Int) = (n : Int) then f q else some false) (decide (m = n) && r) := by
  by_cases h : m = n
  · simp only [if_pos (show (m : Int) = (n : Int) by omega), decide_eq_true h, Bool.true_and]; exact k h
  · simp only [if_neg (show ¬ (m : Int) = (n : Int) by omega), decide_eq_false h, Bool.false_and]; exact Ev.now _
theorem toLoop {β : Type} (n : Nat) (L : Nat → List β → Nat → Option (List β)) (v : List β) (d : β) (hv : v.length = n) (hend : ∀ o, Ev (L n o) o)
    (hs : ∀ i o, i < n → o.length = n → Ev (L (i + 1) (o.set i (v.getD i d))) v → Ev (L i o) v) : ∀ o, o.length = n → Ev (L 0 o) v := by
  have key : ∀ i, i ≤ n → ∀ o, o.length = n → o.take i = v.take i → Ev (L i o) v := by
    refine down n ?_ ?_
    · intro o ho ht
      have : o = v := by rw [← List.take_length (l := o), ho, ht, List.take_of_length_le (by omega)]
      subst this
      exact hend o
    · intro i hi ih o ho ht
      refine hs i o hi ho (ih _ (by simpa using ho) ?_)
      rw [List.take_add_one, List.take_add_one, List.take_set_of_le (by omega), ht, List.getElem?_set_self (by omega), List.getElem?_eq_getElem (show i < v.length by omega), List.getD_eq_getElem?_getD, List.getElem?_eq_getElem (show i < v.length by omega)]
      rfl
  intro o ho
  exact key 0 (by omega) o ho (by simp)
theorem szLoop {α : Type} (l : List α) (d : α) (ok : α → Prop) (L : Nat → Int → Nat → Option Int) (hend : ∀ a, Ev (L l.length a) a)
    (hs : ∀ i, i < l.length → ∀ a, 0 ≤ a → a ≤ 1048576 → Ev (L i a) (-1) ∨ (ok (l.getD i d) ∧ ∃ b, 0 ≤ b ∧ b ≤ a ∧ ∀ r, Ev (L (i + 1) b) r → Ev (L i a) r)) :
    ∀ a, 0 ≤ a → a ≤ 1048576 → ∃ r, Ev (L 0 a) r ∧ (r < 0 ∨ (0 ≤ r ∧ r ≤ a ∧ ∀ x ∈ l, ok x)) := by
  have key : ∀ i, i ≤ l.length → ∀ a, 0 ≤ a → a ≤ 1048576 → ∃ r, Ev (L i a) r ∧ (r < 0 ∨ (0 ≤ r ∧ r ≤ a ∧ ∀ j, i ≤ j → j < l.length → ok (l.getD j d))) := by
    refine down l.length ?_ ?_
    · intro a h0 h1
      exact ⟨a, hend a, .inr ⟨h0, by omega, fun j _ _ => by omega⟩⟩
    · intro i hi ih a h0 h1
      rcases hs i hi a h0 h1 with h | ⟨ho, b, b0, b1, h⟩
      · exact ⟨-1, h, .inl (by omega)⟩
      · obtain ⟨r, hr, hr2⟩ := ih b b0 (by omega)
        refine ⟨r, h r hr, ?_⟩
        rcases hr2 with h2 | ⟨q0, q1, q2⟩
        · exact .inl h2
        · refine .inr ⟨q0, by omega, fun j hj hj2 => ?_⟩
          by_cases e : j = i
          · subst e; exact ho
          · exact q2 j (by omega) hj2
  intro a h0 h1
  obtain ⟨r, hr, hr2⟩ := key 0 (by omega) a h0 h1
  refine ⟨r, hr, ?_⟩
  rcases hr2 with h2 | ⟨q0, q1, q2⟩
  · exact .inl h2
  · refine .inr ⟨q0, q1, fun x hx => ?_⟩
    obtain ⟨j, hj⟩ := List.getElem?_of_mem hx
    have := q2 j (by omega) (List.getElem?_eq_some_iff.1 hj).1
    rwa [List.getD_eq_getElem?_getD, hj] at this
end Go.Proofs.Ytolmmfcofbhagaa.Br
namespace Go.Proofs.Ytolmmfcofbhagaa.Br
open Go.RowKit Go.Proofs.Ytolmmfcofbhagaa.V Go.Proofs.YtolmmfcofbhagaaW.PrintWords Go.Proofs.YtolmmfcofbhagaaW.PrintLast Go.Proofs.YtolmmfcofbhagaaW.PrintMore Go.Proofs.Ytolmmfcofbhagaa.Th
set_option linter.unusedVariables false
set_option linter.unusedSimpArgs false
def eint (a b : Int) : Bool := a == b
def ebool (a b : Bool) : Bool := !(a != b)
def epush (x y : S122) : Bool := !(!(x.f0 == y.f0) || !(x.f1 == y.f1))
/-- How long a row is, and those inside. -/
def sm0 {α : Type} (l : List α) : Prop := l.length ≤ 1048576
def sm1 {α : Type} (l : List (List α)) : Prop := l.length ≤ 1048576 ∧ ∀ x ∈ l, sm0 x
def sm2 {α : Type} (l : List (List (List α))) : Prop := l.length ≤ 1048576 ∧ ∀ x ∈ l, sm1 x

theorem laws_eqPush_ev (x y : S122) : laws_eqPush.f x.f0 x.f1 y.f0 y.f1 = some (epush x y) := by
  unfold laws_eqPush.f epush
  by_cases h : x.f0 = y.f0
  · by_cases h2 : x.f1 = y.f1
    · simp [h, h2]
    · simp [h, h2]
  · simp [h]

theorem laws_eqInt64S_ev (x y : List Int) (hx : sm0 x) : Ev (fun k => laws_eqInt64S.f k x y) (eqv eint 0 x y) := by
  have hl : x.length ≤ 1048576 := hx
  unfold laws_eqInt64S.f eqv
  refine lenEv (fun h => allLoop x.length (fun i k => laws_eqInt64S.l0 k x y (i : Int)) _ ?_ ?_)
  · refine Ev.succ ?_
    simp only [laws_eqInt64S.l0, if_neg inlt]
    exact Ev.now _
  · intro i hi r hr
    refine Ev.succ ?_
    simp only [laws_eqInt64S.l0, if_pos (ilt hi), if_pos (i0 i), if_pos (ilt (show i < y.length by omega)), up1 i (by omega)]
    exact eqEv hr

theorem laws_eqBoolS_ev (x y : List Bool) (hx : sm0 x) : Ev (fun k => laws_eqBoolS.f k x y) (eqv ebool false x y) := by
  have hl : x.length ≤ 1048576 := hx
  unfold laws_eqBoolS.f eqv
  refine lenEv (fun h => allLoop x.length (fun i k => laws_eqBoolS.l0 k x y (i : Int)) _ ?_ ?_)
  · refine Ev.succ ?_
    simp only [laws_eqBoolS.l0, if_neg inlt]
    exact Ev.now _
  · intro i hi r hr
    refine Ev.succ ?_
    simp only [laws_eqBoolS.l0, if_pos (ilt hi), if_pos (i0 i), if_pos (ilt (show i < y.length by omega)), up1 i (by omega)]
    exact notEv hr

theorem laws_eqPushS_ev (x y : List S122) (hx : sm0 x) : Ev (fun k => laws_eqPushS.f k x y) (eqv epush z122 x y) := by
  have hl : x.length ≤ 1048576 := hx
  unfold laws_eqPushS.f eqv
  refine lenEv (fun h => allLoop x.length (fun i k => laws_eqPushS.l0 k x y (i : Int)) _ ?_ ?_)
  · refine Ev.succ ?_
    simp only [laws_eqPushS.l0, if_neg inlt]
    exact Ev.now _
  · intro i hi r hr
    refine Ev.succ ?_
    simp only [laws_eqPushS.l0, if_pos (ilt hi), if_pos (i0 i), if_pos (ilt (show i < y.length by omega)), up1 i (by omega)]
    exact andEv ⟨0, fun _ _ => laws_eqPush_ev (x.getD i z122) (y.getD i z122)⟩ hr

theorem laws_eqInt64SS_ev (x y : List (List Int)) (hx : sm1 x) : Ev (fun k => laws_eqInt64SS.f k x y) (eqv (eqv eint 0) ([] : (List Int)) x y) := by
  have hl : x.length ≤ 1048576 := hx.1
  unfold laws_eqInt64SS.f eqv
  refine lenEv (fun h => allLoop x.length (fun i k => laws_eqInt64SS.l0 k x y (i : Int)) _ ?_ ?_)
  · refine Ev.succ ?_
    simp only [laws_eqInt64SS.l0, if_neg inlt]
    exact Ev.now _
  · intro i hi r hr
    refine Ev.succ ?_
    simp only [laws_eqInt64SS.l0, if_pos (ilt hi), if_pos (i0 i), if_pos (ilt (show i < y.length by omega)), up1 i (by omega)]
    exact andEv (laws_eqInt64S_ev _ _ (hx.2 _ (getD_mem x i _ hi))) hr

theorem laws_eqInt64SSS_ev (x y : List (List (List Int))) (hx : sm2 x) : Ev (fun k => laws_eqInt64SSS.f k x y) (eqv (eqv (eqv eint 0) ([] : (List Int))) ([] : (List (List Int))) x y) := by
  have hl : x.length ≤ 1048576 := hx.1
  unfold laws_eqInt64SSS.f eqv
  refine lenEv (fun h => allLoop x.length (fun i k => laws_eqInt64SSS.l0 k x y (i : Int)) _ ?_ ?_)
  · refine Ev.succ ?_
    simp only [laws_eqInt64SSS.l0, if_neg inlt]
    exact Ev.now _
  · intro i hi r hr
    refine Ev.succ ?_
    simp only [laws_eqInt64SSS.l0, if_pos (ilt hi), if_pos (i0 i), if_pos (ilt (show i < y.length by omega)), up1 i (by omega)]
    exact andEv (laws_eqInt64SS_ev _ _ (hx.2 _ (getD_mem x i _ hi))) hr

theorem laws_eqPushSS_ev (x y : List (List S122)) (hx : sm1 x) : Ev (fun k => laws_eqPushSS.f k x y) (eqv (eqv epush z122) ([] : (List S122)) x y) := by
  have hl : x.length ≤ 1048576 := hx.1
  unfold laws_eqPushSS.f eqv
  refine lenEv (fun h => allLoop x.length (fun i k => laws_eqPushSS.l0 k x y (i : Int)) _ ?_ ?_)
  · refine Ev.succ ?_
    simp only [laws_eqPushSS.l0, if_neg inlt]
    exact Ev.now _
  · intro i hi r hr
    refine Ev.succ ?_
    simp only [laws_eqPushSS.l0, if_pos (ilt hi), if_pos (i0 i), if_pos (ilt (show i < y.length by omega)), up1 i (by omega)]
    exact andEv (laws_eqPushS_ev _ _ (hx.2 _ (getD_mem x i _ hi))) hr

end Go.Proofs.Ytolmmfcofbhagaa.Br
namespace Go.Proofs.Ytolmmfcofbhagaa.Br
open Go.RowKit Go.Proofs.Ytolmmfcofbhagaa.V Go.Proofs.YtolmmfcofbhagaaW.PrintWords Go.Proofs.YtolmmfcofbhagaaW.PrintLast Go.Proofs.YtolmmfcofbhagaaW.PrintMore Go.Proofs.Ytolmmfcofbhagaa.Th
set_option linter.unusedVariables false
set_option linter.unusedSimpArgs false
theorem getD_map {α β : Type} (f : α → β) (l : List α) (i : Nat) (d : α) (d' : β) (h : i < l.length) : (l.map f).getD i d' = f (l.getD i d) := by
  rw [List.getD_eq_getElem?_getD, List.getD_eq_getElem?_getD, List.getElem?_map, List.getElem?_eq_getElem h]
  rfl
theorem laws_toInt64S_ev (l : List Int) (hl : sm0 l) : Ev (fun k => laws_toInt64S.f k l) l := by
  have hl' : l.length ≤ 1048576 := hl
  unfold laws_toInt64S.f
  simp only [if_pos (i0 l.length), Int.toNat_natCast, if_pos (show l.length ≤ 35184372088832 by omega)]
  refine toLoop l.length (fun i o k => laws_toInt64S.l0 k l o i) l 0 rfl ?_ ?_ _ (by simp)
  · intro o
    refine Ev.succ ?_
    simp only [laws_toInt64S.l0, if_neg inlt]
    exact Ev.now _
  · intro i o hi ho h
    refine Ev.succ ?_
    simp only [laws_toInt64S.l0, if_pos (ilt hi), if_pos (i0 i), if_pos (ilt (show i < o.length by omega)), up1 i (by omega), Int.toNat_natCast]
    exact h
theorem laws_toBoolS_ev (l : List Bool) (hl : sm0 l) : Ev (fun k => laws_toBoolS.f k l) l := by
  have hl' : l.length ≤ 1048576 := hl
  unfold laws_toBoolS.f
  simp only [if_pos (i0 l.length), Int.toNat_natCast, if_pos (show l.length ≤ 281474976710656 by omega)]
  refine toLoop l.length (fun i o k => laws_toBoolS.l0 k l o i) l false rfl ?_ ?_ _ (by simp)
  · intro o
    refine Ev.succ ?_
    simp only [laws_toBoolS.l0, if_neg inlt]
    exact Ev.now _
  · intro i o hi ho h
    refine Ev.succ ?_
    simp only [laws_toBoolS.l0, if_pos (ilt hi), if_pos (i0 i), if_pos (ilt (show i < o.length by omega)), up1 i (by omega), Int.toNat_natCast]
    exact h
def cPush (x : S197) : S122 := ⟨x.f0, x.f1⟩
theorem laws_toPushS_ev (l : List S197) (hl : sm0 l) : Ev (fun k => laws_toPushS.f k l) (l.map cPush) := by
  have hl' : l.length ≤ 1048576 := hl
  unfold laws_toPushS.f
  simp only [if_pos (i0 l.length), Int.toNat_natCast, if_pos (show l.length ≤ 17592186044416 by omega)]
  refine toLoop l.length (fun i o k => laws_toPushS.l0 k l o i) (l.map cPush) z122 (by simp) ?_ ?_ _ (by simp)
  · intro o
    refine Ev.succ ?_
    simp only [laws_toPushS.l0, if_neg inlt]
    exact Ev.now _
  · intro i o hi ho h
    refine Ev.succ ?_
    rw [getD_map cPush l i z197 _ hi] at h
    simp only [laws_toPushS.l0, if_pos (ilt hi), if_pos (i0 i), if_pos (ilt (show i < o.length by omega)), up1 i (by omega), Int.toNat_natCast, laws_toPush.f, Option.bind_some]
    exact h
theorem laws_toInt64SS_ev (l : List (List Int)) (hl : sm1 l) : Ev (fun k => laws_toInt64SS.f k l) l := by
  have hl' : l.length ≤ 1048576 := hl.1
  unfold laws_toInt64SS.f
  simp only [if_pos (i0 l.length), Int.toNat_natCast, if_pos (show l.length ≤ 11728124029610 by omega)]
  refine toLoop l.length (fun i o k => laws_toInt64SS.l0 k l o i) l [] rfl ?_ ?_ _ (by simp)
  · intro o
    refine Ev.succ ?_
    simp only [laws_toInt64SS.l0, if_neg inlt]
    exact Ev.now _
  · intro i o hi ho h
    refine Ev.succ ?_
    simp only [laws_toInt64SS.l0, if_pos (ilt hi), if_pos (i0 i), if_pos (ilt (show i < o.length by omega)), up1 i (by omega), Int.toNat_natCast]
    exact Ev.bind (laws_toInt64S_ev (l.getD i []) (hl.2 _ (getD_mem l i _ hi))) h
theorem laws_toInt64SSS_ev (l : List (List (List Int))) (hl : sm2 l) : Ev (fun k => laws_toInt64SSS.f k l) l := by
  have hl' : l.length ≤ 1048576 := hl.1
  unfold laws_toInt64SSS.f
  simp only [if_pos (i0 l.length), Int.toNat_natCast, if_pos (show l.length ≤ 11728124029610 by omega)]
  refine toLoop l.length (fun i o k => laws_toInt64SSS.l0 k l o i) l [] rfl ?_ ?_ _ (by simp)
  · intro o
    refine Ev.succ ?_
    simp only [laws_toInt64SSS.l0, if_neg inlt]
    exact Ev.now _
  · intro i o hi ho h
    refine Ev.succ ?_
    simp only [laws_toInt64SSS.l0, if_pos (ilt hi), if_pos (i0 i), if_pos (ilt (show i < o.length by omega)), up1 i (by omega), Int.toNat_natCast]
    exact Ev.bind (laws_toInt64SS_ev (l.getD i []) (hl.2 _ (getD_mem l i _ hi))) h
theorem laws_toPushSS_ev (l : List (List S197)) (hl : sm1 l) : Ev (fun k => laws_toPushSS.f k l) (l.map (List.map cPush)) := by
  have hl' : l.length ≤ 1048576 := hl.1
  unfold laws_toPushSS.f
  simp only [if_pos (i0 l.length), Int.toNat_natCast, if_pos (show l.length ≤ 11728124029610 by omega)]
  refine toLoop l.length (fun i o k => laws_toPushSS.l0 k l o i) (l.map (List.map cPush)) [] (by simp) ?_ ?_ _ (by simp)
  · intro o
    refine Ev.succ ?_
    simp only [laws_toPushSS.l0, if_neg inlt]
    exact Ev.now _
  · intro i o hi ho h
    refine Ev.succ ?_
    rw [getD_map (List.map cPush) l i [] _ hi] at h
    simp only [laws_toPushSS.l0, if_pos (ilt hi), if_pos (i0 i), if_pos (ilt (show i < o.length by omega)), up1 i (by omega), Int.toNat_natCast]
    exact Ev.bind (laws_toPushS_ev (l.getD i []) (hl.2 _ (getD_mem l i _ hi))) h
theorem laws_toChecker_ev (a b : Int) (l2 : List Bool) (l3 : List (List S197)) (l4 : List (List (List Int))) (l5 : List (List Int)) (h2 : sm0 l2) (h3 : sm1 l3) (h4 : sm2 l4) (h5 : sm1 l5) :
    Ev (fun k => laws_toChecker.f k a b l2 l3 l4 l5) (a, b, l2, l3.map (List.map cPush), l4, l5) := by
  unfold laws_toChecker.f
  exact Ev.bind (laws_toBoolS_ev l2 h2) (Ev.bind (laws_toPushSS_ev l3 h3) (Ev.bind (laws_toInt64SSS_ev l4 h4) (Ev.bind (laws_toInt64SS_ev l5 h5) (Ev.now _))))
theorem eint_self (a : Int) : eint a a = true := by simp [eint]
theorem ebool_self (a : Bool) : ebool a a = true := by simp [ebool]
theorem epush_self (a : S122) : epush a a = true := by simp [epush]
theorem laws_eqChecker_ev (a b : Int) (l2 : List Bool) (l3 : List (List S122)) (l4 : List (List (List Int))) (l5 : List (List Int)) (h2 : sm0 l2) (h3 : sm1 l3) (h4 : sm2 l4) (h5 : sm1 l5) :
    Ev (fun k => laws_eqChecker.f k a b l2 l3 l4 l5 a b l2 l3 l4 l5) true := by
  unfold laws_eqChecker.f
  simp only [if_true]
  have e2 := laws_eqBoolS_ev l2 l2 h2
  rw [eqv_self _ _ _ (fun a _ => ebool_self a)] at e2
  have e3 := laws_eqPushSS_ev l3 l3 h3
  rw [eqv_self _ _ _ (fun a _ => eqv_self _ _ _ (fun a _ => epush_self a))] at e3
  have e4 := laws_eqInt64SSS_ev l4 l4 h4
  rw [eqv_self _ _ _ (fun a _ => eqv_self _ _ _ (fun a _ => eqv_self _ _ _ (fun a _ => eint_self a)))] at e4
  have e5 := laws_eqInt64SS_ev l5 l5 h5
  rw [eqv_self _ _ _ (fun a _ => eqv_self _ _ _ (fun a _ => eint_self a))] at e5
  refine Ev.bind e2 ?_
  simp only [if_true]
  refine Ev.bind e3 ?_
  simp only [if_true]
  refine Ev.bind e4 ?_
  simp only [if_true]
  refine Ev.bind e5 ?_
  simp only [if_true]
  exact Ev.now _
theorem laws_szBoolS_ev (l : List Bool) (a : Int) (h0 : 0 ≤ a) (h1 : a ≤ 1048576) (hl : l.length ≤ 9223372036854775807) : ∃ r, laws_szBoolS.f l a = some r ∧ (r < 0 ∨ (0 ≤ r ∧ r ≤ a ∧ sm0 l)) := by
  unfold laws_szBoolS.f
  rw [take1 a _ h0 h1 hl]
  by_cases h : a - (l.length : Int) < 0
  · exact ⟨-1, by rw [if_pos h], .inl (by omega)⟩
  · exact ⟨_, by rw [if_neg h], .inr ⟨by omega, by omega, by show l.length ≤ 1048576; omega⟩⟩
theorem laws_szPushS_ev (l : List S197) (a : Int) (h0 : 0 ≤ a) (h1 : a ≤ 1048576) (hl : l.length ≤ 9223372036854775807) : ∃ r, laws_szPushS.f l a = some r ∧ (r < 0 ∨ (0 ≤ r ∧ r ≤ a ∧ sm0 l)) := by
  unfold laws_szPushS.f
  rw [take1 a _ h0 h1 hl]
  by_cases h : a - (l.length : Int) < 0
  · exact ⟨-1, by rw [if_pos h], .inl (by omega)⟩
  · exact ⟨_, by rw [if_neg h], .inr ⟨by omega, by omega, by show l.length ≤ 1048576; omega⟩⟩
theorem laws_szInt64S_ev (l : List Int) (a : Int) (h0 : 0 ≤ a) (h1 : a ≤ 1048576) (hl : l.length ≤ 9223372036854775807) : ∃ r, laws_szInt64S.f l a = some r ∧ (r < 0 ∨ (0 ≤ r ∧ r ≤ a ∧ sm0 l)) := by
  unfold laws_szInt64S.f
  rw [take1 a _ h0 h1 hl]
  by_cases h : a - (l.length : Int) < 0
  · exact ⟨-1, by rw [if_pos h], .inl (by omega)⟩
  · exact ⟨_, by rw [if_neg h], .inr ⟨by omega, by omega, by show l.length ≤ 1048576; omega⟩⟩
theorem laws_szPushSS_ev (l : List (List S197)) (a : Int) (h0 : 0 ≤ a) (h1 : a ≤ 1048576) (hl : l.length ≤ 9223372036854775807) (hi : ∀ x ∈ l, x.length ≤ 9223372036854775807) :
    ∃ r, Ev (fun k => laws_szPushSS.f k l a) r ∧ (r < 0 ∨ (0 ≤ r ∧ r ≤ a ∧ sm1 l)) := by
  unfold laws_szPushSS.f
  rw [take1 a _ h0 h1 hl]
  by_cases h : a - (l.length : Int) < 0
  · exact ⟨-1, by simp only [if_pos h]; exact Ev.now _, .inl (by omega)⟩
  · obtain ⟨r, hr, hr2⟩ := szLoop l [] sm0 (fun i c k => laws_szPushSS.l0 k l c i) (fun c => by
        refine Ev.succ ?_
        simp only [laws_szPushSS.l0, if_neg inlt]
        exact Ev.now _) (fun i hi' c c0 c1 => by
        have hm := getD_mem l i [] hi'
        obtain ⟨r, hr, hr2⟩ := laws_szPushS_ev (l.getD i []) c c0 c1 (hi _ hm)
        by_cases hn : r < 0
        · refine .inl (Ev.succ ?_)
          simp only [laws_szPushSS.l0, if_pos (ilt hi'), if_pos (i0 i)]
          exact Ev.bind ⟨0, fun _ _ => hr⟩ (by simp only [if_pos hn]; exact Ev.now _)
        · rcases hr2 with h2 | ⟨q0, q1, q2⟩
          · exact absurd h2 hn
          · refine .inr ⟨q2, r, q0, q1, fun s hs => Ev.succ ?_⟩
            simp only [laws_szPushSS.l0, if_pos (ilt hi'), if_pos (i0 i), up1 i (by omega)]
            exact Ev.bind ⟨0, fun _ _ => hr⟩ (by simp only [if_neg hn]; exact hs)) (a - (l.length : Int)) (by omega) (by omega)
    refine ⟨r, by simp only [if_neg h]; exact hr, ?_⟩
    rcases hr2 with h2 | ⟨q0, q1, q2⟩
    · exact .inl h2
    · exact .inr ⟨q0, by omega, ⟨by omega, q2⟩⟩
theorem laws_szInt64SS_ev (l : List (List Int)) (a : Int) (h0 : 0 ≤ a) (h1 : a ≤ 1048576) (hl : l.length ≤ 9223372036854775807) (hi : ∀ x ∈ l, x.length ≤ 9223372036854775807) :
    ∃ r, Ev (fun k => laws_szInt64SS.f k l a) r ∧ (r < 0 ∨ (0 ≤ r ∧ r ≤ a ∧ sm1 l)) := by
  unfold laws_szInt64SS.f
  rw [take1 a _ h0 h1 hl]
  by_cases h : a - (l.length : Int) < 0
  · exact ⟨-1, by simp only [if_pos h]; exact Ev.now _, .inl (by omega)⟩
  · obtain ⟨r, hr, hr2⟩ := szLoop l [] sm0 (fun i c k => laws_szInt64SS.l0 k l c i) (fun c => by
        refine Ev.succ ?_
        simp only [laws_szInt64SS.l0, if_neg inlt]
        exact Ev.now _) (fun i hi' c c0 c1 => by
        have hm := getD_mem l i [] hi'
        obtain ⟨r, hr, hr2⟩ := laws_szInt64S_ev (l.getD i []) c c0 c1 (hi _ hm)
        by_cases hn : r < 0
        · refine .inl (Ev.succ ?_)
          simp only [laws_szInt64SS.l0, if_pos (ilt hi'), if_pos (i0 i)]
          exact Ev.bind ⟨0, fun _ _ => hr⟩ (by simp only [if_pos hn]; exact Ev.now _)
        · rcases hr2 with h2 | ⟨q0, q1, q2⟩
          · exact absurd h2 hn
          · refine .inr ⟨q2, r, q0, q1, fun s hs => Ev.succ ?_⟩
            simp only [laws_szInt64SS.l0, if_pos (ilt hi'), if_pos (i0 i), up1 i (by omega)]
            exact Ev.bind ⟨0, fun _ _ => hr⟩ (by simp only [if_neg hn]; exact hs)) (a - (l.length : Int)) (by omega) (by omega)
    refine ⟨r, by simp only [if_neg h]; exact hr, ?_⟩
    rcases hr2 with h2 | ⟨q0, q1, q2⟩
    · exact .inl h2
    · exact .inr ⟨q0, by omega, ⟨by omega, q2⟩⟩
theorem laws_szInt64SSS_ev (l : List (List (List Int))) (a : Int) (h0 : 0 ≤ a) (h1 : a ≤ 1048576) (hl : l.length ≤ 9223372036854775807) (hi : ∀ x ∈ l, (x.length ≤ 9223372036854775807 ∧ ∀ y ∈ x, y.length ≤ 9223372036854775807)) :
    ∃ r, Ev (fun k => laws_szInt64SSS.f k l a) r ∧ (r < 0 ∨ (0 ≤ r ∧ r ≤ a ∧ sm2 l)) := by
  unfold laws_szInt64SSS.f
  rw [take1 a _ h0 h1 hl]
  by_cases h : a - (l.length : Int) < 0
  · exact ⟨-1, by simp only [if_pos h]; exact Ev.now _, .inl (by omega)⟩
  · obtain ⟨r, hr, hr2⟩ := szLoop l [] sm1 (fun i c k => laws_szInt64SSS.l0 k l c i) (fun c => by
        refine Ev.succ ?_
        simp only [laws_szInt64SSS.l0, if_neg inlt]
        exact Ev.now _) (fun i hi' c c0 c1 => by
        have hm := getD_mem l i [] hi'
        obtain ⟨r, hr, hr2⟩ := laws_szInt64SS_ev (l.getD i []) c c0 c1 (hi _ hm).1 (hi _ hm).2
        by_cases hn : r < 0
        · refine .inl (Ev.succ ?_)
          simp only [laws_szInt64SSS.l0, if_pos (ilt hi'), if_pos (i0 i)]
          exact Ev.bind hr (by simp only [if_pos hn]; exact Ev.now _)
        · rcases hr2 with h2 | ⟨q0, q1, q2⟩
          · exact absurd h2 hn
          · refine .inr ⟨q2, r, q0, q1, fun s hs => Ev.succ ?_⟩
            simp only [laws_szInt64SSS.l0, if_pos (ilt hi'), if_pos (i0 i), up1 i (by omega)]
            exact Ev.bind hr (by simp only [if_neg hn]; exact hs)) (a - (l.length : Int)) (by omega) (by omega)
    refine ⟨r, by simp only [if_neg h]; exact hr, ?_⟩
    rcases hr2 with h2 | ⟨q0, q1, q2⟩
    · exact .inl h2
    · exact .inr ⟨q0, by omega, ⟨by omega, q2⟩⟩
theorem laws_szChecker_ev (a b : Int) (l2 : List Bool) (l3 : List (List S197)) (l4 : List (List (List Int))) (l5 : List (List Int)) (c : Int) (h0 : 0 ≤ c) (h1 : c ≤ 1048576)
    (h2 : l2.length ≤ 9223372036854775807) (h3 : l3.length ≤ 9223372036854775807 ∧ ∀ x ∈ l3, x.length ≤ 9223372036854775807)
    (h4 : l4.length ≤ 9223372036854775807 ∧ ∀ x ∈ l4, (x.length ≤ 9223372036854775807 ∧ ∀ y ∈ x, y.length ≤ 9223372036854775807)) (h5 : l5.length ≤ 9223372036854775807 ∧ ∀ x ∈ l5, x.length ≤ 9223372036854775807) :
    ∃ r, Ev (fun k => laws_szChecker.f k a b l2 l3 l4 l5 c) r ∧ (r < 0 ∨ (0 ≤ r ∧ r ≤ c ∧ sm0 l2 ∧ sm1 l3 ∧ sm2 l4 ∧ sm1 l5)) := by
  unfold laws_szChecker.f
  obtain ⟨r2, e2, q2⟩ := laws_szBoolS_ev l2 c h0 h1 h2
  by_cases n2 : r2 < 0
  · exact ⟨-1, Ev.bind ⟨0, fun _ _ => e2⟩ (by simp only [if_pos n2]; exact Ev.now _), .inl (by omega)⟩
  obtain ⟨r3, e3, q3⟩ := laws_szPushSS_ev l3 r2 (by omega) (by omega) h3.1 h3.2
  by_cases n3 : r3 < 0
  · exact ⟨-1, Ev.bind ⟨0, fun _ _ => e2⟩ (by simp only [if_neg n2]; exact Ev.bind e3 (by simp only [if_pos n3]; exact Ev.now _)), .inl (by omega)⟩
  obtain ⟨r4, e4, q4⟩ := laws_szInt64SSS_ev l4 r3 (by omega) (by omega) h4.1 h4.2
  by_cases n4 : r4 < 0
  · exact ⟨-1, Ev.bind ⟨0, fun _ _ => e2⟩ (by simp only [if_neg n2]; exact Ev.bind e3 (by simp only [if_neg n3]; exact Ev.bind e4 (by simp only [if_pos n4]; exact Ev.now _))), .inl (by omega)⟩
  obtain ⟨r5, e5, q5⟩ := laws_szInt64SS_ev l5 r4 (by omega) (by omega) h5.1 h5.2
  by_cases n5 : r5 < 0
  · exact ⟨-1, Ev.bind ⟨0, fun _ _ => e2⟩ (by simp only [if_neg n2]; exact Ev.bind e3 (by simp only [if_neg n3]; exact Ev.bind e4 (by simp only [if_neg n4]; exact Ev.bind e5 (by simp only [if_pos n5]; exact Ev.now _)))), .inl (by omega)⟩
  · refine ⟨r5, Ev.bind ⟨0, fun _ _ => e2⟩ (by simp only [if_neg n2]; exact Ev.bind e3 (by simp only [if_neg n3]; exact Ev.bind e4 (by simp only [if_neg n4]; exact Ev.bind e5 (by simp only [if_neg n5]; exact Ev.now _)))), .inr ?_⟩
    rcases q2 with q2 | q2
    · omega
    rcases q3 with q3 | q3
    · omega
    rcases q4 with q4 | q4
    · omega
    rcases q5 with q5 | q5
    · omega
    exact ⟨by omega, by omega, q2.2.2, q3.2.2, q4.2.2, q5.2.2⟩
end Go.Proofs.Ytolmmfcofbhagaa.Br
namespace Go.Proofs.Ytolmmfcofbhagaa.Br
open Go.RowKit Go.Proofs.Ytolmmfcofbhagaa.V Go.Proofs.YtolmmfcofbhagaaW.PrintWords Go.Proofs.YtolmmfcofbhagaaW.PrintLast Go.Proofs.YtolmmfcofbhagaaW.PrintMore Go.Proofs.Ytolmmfcofbhagaa.Th
set_option linter.unusedVariables false
set_option linter.unusedSimpArgs false
theorem in_eq (a lo hi : Int) : spec_l00In.f a lo hi = some (decide (lo ≤ a ∧ a ≤ hi)) := by
  unfold spec_l00In.f
  by_cases h : a ≥ lo
  · rw [if_pos h]; congr 1; simp; omega
  · rw [if_neg h]; congr 1; simp; omega
theorem within_eq (a lo hi : Int) : impl_within.f a lo hi = some (decide (lo ≤ a ∧ a ≤ hi)) := by
  unfold impl_within.f
  by_cases h : a ≥ lo
  · rw [if_pos h]; congr 1; simp; omega
  · rw [if_neg h]; congr 1; simp; omega

end Go.Proofs.Ytolmmfcofbhagaa.Br
namespace Go.Proofs.Ytolmmfcofbhagaa.Br
open Go.RowKit Go.Proofs.Ytolmmfcofbhagaa.V Go.Proofs.YtolmmfcofbhagaaW.PrintWords Go.Proofs.YtolmmfcofbhagaaW.PrintLast Go.Proofs.YtolmmfcofbhagaaW.PrintMore Go.Proofs.Ytolmmfcofbhagaa.Th
set_option linter.unusedVariables false
set_option linter.unusedSimpArgs false
set_option linter.unusedSectionVars false
def inR (n x : Int) : Bool := decide (0 ≤ x ∧ x ≤ n - 1)
def lst (n len : Int) (l : List Int) : Bool := decide ((l.length : Int) = len) && allN l.length (fun i => inR n (l.getD i 0))
theorem rd_getD (l : List Int) (i : Nat) : rd l i = l.getD i 0 := by unfold rd; rw [Int.toNat_natCast]
theorem specList_ev (l : List Int) (len n : Int) (hl : l.length ≤ 1048576) (h0 : -1000000 ≤ n) (h1 : n ≤ 1000000) : Ev (fun k => spec_l02List.f k l len n) (lst n len l) := by
  have f1 : wrap64 (n - 1) = n - 1 := w64 (by omega) (by omega)
  unfold spec_l02List.f lst
  by_cases h : (l.length : Int) = len
  · rw [decide_eq_true h, Bool.true_and]
    simp only [if_pos h]
    refine allLoop l.length (fun i k => spec_l02List.l0 k l n (i : Int)) _ ?_ ?_
    · refine Ev.succ ?_
      simp only [spec_l02List.l0, if_neg inlt]
      exact Ev.now _
    · intro i hi r hr
      refine Ev.succ ?_
      simp only [spec_l02List.l0, if_pos (ilt hi), if_pos (i0 i), in_eq, Option.bind_some, f1, rd_getD, up1 i (by clear f1; omega)]
      exact iteEv hr
  · rw [decide_eq_false h, Bool.false_and]
    simp only [if_neg h]
    exact Ev.now _
theorem isState_eq (a b : Int) (l2 : List Bool) (l3 : List (List S122)) (l4 : List (List (List Int))) (l5 : List (List Int)) (x : Int) (h : l2.length ≤ 1048576) : impl_Checker_isState.f a b l2 l3 l4 l5 x = some (inR (l2.length : Int) x) := by
  have f1 : wrap64 ((l2.length : Int) - 1) = (l2.length : Int) - 1 := w64 (by omega) (by omega)
  unfold impl_Checker_isState.f impl_size_bool.f
  simp only [Option.bind_some, within_eq, f1]
  rfl
theorem isMark_eq (a b : Int) (l2 : List Bool) (l3 : List (List S122)) (l4 : List (List (List Int))) (l5 : List (List Int)) (x : Int) (h0 : -1000000 ≤ a) (h1 : a ≤ 1000000) : impl_Checker_isMark.f a b l2 l3 l4 l5 x = some (inR a x) := by
  have f1 : wrap64 (a - 1) = a - 1 := w64 (by omega) (by omega)
  unfold impl_Checker_isMark.f
  simp only [Option.bind_some, within_eq, f1]
  rfl
theorem implList_ev (a b : Int) (l2 : List Bool) (l3 : List (List S122)) (l4 : List (List (List Int))) (l5 : List (List Int)) (l : List Int) (len : Int) (hl : l.length ≤ 1048576) (h : l2.length ≤ 1048576) : Ev (fun k => impl_ValidChecker_1_c.f k l len a b l2 l3 l4 l5) (lst (l2.length : Int) len l) := by
  have loop : ∀ i, i ≤ l.length → ∃ r : Int, Ev (fun k => slices_IndexFunc_Lint64_int64_at_impl_ValidChecker_1_1.l0 k l (l.length : Int) i a b l2 l3 l4 l5) r ∧ (allFromN l.length (fun i => inR (l2.length : Int) (l.getD i 0)) i = !(decide (r ≥ 0))) := by
    refine down l.length ?_ ?_
    · refine ⟨-1, Ev.succ ?_, by rw [allFromN_end]; rfl⟩
      simp only [slices_IndexFunc_Lint64_int64_at_impl_ValidChecker_1_1.l0, if_neg inlt]
      exact Ev.now _
    · intro i hi ih
      obtain ⟨r, hr, he⟩ := ih
      cases e : inR (l2.length : Int) (l.getD i 0)
      · refine ⟨(i : Int), Ev.succ ?_, ?_⟩
        · simp only [slices_IndexFunc_Lint64_int64_at_impl_ValidChecker_1_1.l0, if_pos (ilt hi), if_pos (i0 i), impl_ValidChecker_1_1_c.f, isState_eq a b l2 l3 l4 l5 _ h, Option.bind_some, rd_getD, e, Bool.not_false, if_true]
          exact Ev.now _
        · rw [allFromN_step _ _ i hi, e, Bool.false_and]
          simp
      · refine ⟨r, Ev.succ ?_, ?_⟩
        · simp only [slices_IndexFunc_Lint64_int64_at_impl_ValidChecker_1_1.l0, if_pos (ilt hi), if_pos (i0 i), impl_ValidChecker_1_1_c.f, isState_eq a b l2 l3 l4 l5 _ h, Option.bind_some, rd_getD, e, Bool.not_true, Bool.false_eq_true, if_false, up1 i (by omega)]
          exact hr
        · rw [allFromN_step _ _ i hi, e, Bool.true_and, he]
  unfold impl_ValidChecker_1_c.f impl_size_int64.f lst
  simp only [Option.bind_some]
  by_cases hh : (l.length : Int) = len
  · rw [decide_eq_true hh, Bool.true_and, ← allFromN_zero]
    simp only [if_pos hh]
    obtain ⟨r, hr, he⟩ := loop 0 (by omega)
    rw [he]
    unfold slices_ContainsFunc_Lint64_int64_at_impl_ValidChecker_1_1.f slices_IndexFunc_Lint64_int64_at_impl_ValidChecker_1_1.f
    exact Ev.bind (Ev.bind hr (Ev.now _)) (Ev.now _)
  · rw [decide_eq_false hh, Bool.false_and]
    simp only [if_neg hh]
    exact Ev.now _
def rowC (a b : Int) (l2 : List Bool) (l3 : List (List S122)) (l4 : List (List (List Int))) (l5 : List (List Int)) (i q : Nat) : Bool := inR (l2.length : Int) ((l3.getD i []).getD q z122).f0 && (inR a ((l3.getD i []).getD q z122).f1 && lst (l2.length : Int) (a + 1) ((l4.getD i []).getD q []))
def stC (a b : Int) (l2 : List Bool) (l3 : List (List S122)) (l4 : List (List (List Int))) (l5 : List (List Int)) (i : Nat) : Bool := decide ((l3.getD i []).length = 2) && (decide ((l4.getD i []).length = 2) && (lst (l2.length : Int) 2 (l5.getD i []) && (rowC a b l2 l3 l4 l5 i 0 && rowC a b l2 l3 l4 l5 i 1)))
def okC (a b : Int) (l2 : List Bool) (l3 : List (List S122)) (l4 : List (List (List Int))) (l5 : List (List Int)) : Bool := decide (1 ≤ (l2.length : Int) ∧ (l2.length : Int) ≤ 40) && (decide (1 ≤ a ∧ a ≤ 80) && (inR (l2.length : Int) b && (decide (l3.length = l2.length) && (decide (l4.length = l2.length) && (decide (l5.length = l2.length) && allN l2.length (stC a b l2 l3 l4 l5))))))
section
variable (a b : Int) (l2 : List Bool) (l3 : List (List S122)) (l4 : List (List (List Int))) (l5 : List (List Int)) (hn : l2.length ≤ 40) (ha0 : 1 ≤ a) (ha1 : a ≤ 80) (h4 : sm2 l4) (h5 : sm1 l5) (e3 : l3.length = l2.length) (e4 : l4.length = l2.length) (e5 : l5.length = l2.length)
include hn ha0 ha1 h4 h5 e3 e4 e5
theorem specRow_ev (i q : Nat) (hi : i < l2.length) (hq : q < 2) (g3 : (l3.getD i []).length = 2) (g4 : (l4.getD i []).length = 2) (R : Bool) (hR : Ev (fun k => spec_l02Ok.l1 k (l2.length : Int) i ((q + 1 : Nat) : Int) a b l2 l3 l4 l5) R) :
    Ev (fun k => spec_l02Ok.l1 k (l2.length : Int) i q a b l2 l3 l4 l5) (rowC a b l2 l3 l4 l5 i q && R) := by
  have r3 : rd_L7 l3 (i : Int) = l3.getD i [] := by unfold rd_L7; rw [Int.toNat_natCast]
  have r4 : rd_L5 l4 (i : Int) = l4.getD i [] := by unfold rd_L5; rw [Int.toNat_natCast]
  have r5 : ∀ l : List (List Int), rd_L1 l (q : Int) = l.getD q [] := fun l => by unfold rd_L1; rw [Int.toNat_natCast]
  have r6 : ∀ l : List S122, rd_T122 l (q : Int) = l.getD q z122 := fun l => by unfold rd_T122; rw [Int.toNat_natCast]
  have hsm : ((l4.getD i []).getD q []).length ≤ 1048576 := (h4.2 _ (getD_mem l4 i [] (by omega))).2 _ (getD_mem _ q _ (by omega))
  have c1 : (q : Int) < 2 := by omega
  have c2 : (i : Int) < (l3.length : Int) := by omega
  have c3 : (q : Int) < ((l3.getD i []).length : Int) := by omega
  have c4 : (i : Int) < (l4.length : Int) := by omega
  have c5 : (q : Int) < ((l4.getD i []).length : Int) := by omega
  have hl := specList_ev ((l4.getD i []).getD q []) (a + 1) (l2.length : Int) hsm (by omega) (by omega)
  have u1 := up1 q (by omega)
  have f1 : wrap64 ((l2.length : Int) - 1) = (l2.length : Int) - 1 := by clear u1; exact w64 (by omega) (by omega)
  have f2 : wrap64 (a - 1) = a - 1 := by clear u1 f1; exact w64 (by omega) (by omega)
  have f3 : wrap64 (a + 1) = a + 1 := by clear u1 f1 f2; exact w64 (by omega) (by omega)
  have no : Ev (fun k => spec_l02Ok.j4 k (l2.length : Int) i q true a b l2 l3 l4 l5) false := by
    refine Ev.succ ?_
    simp only [spec_l02Ok.j4, if_true]
    exact Ev.now _
  refine Ev.succ ?_
  simp only [spec_l02Ok.l1, if_pos c1, if_pos (i0 i), if_pos c2, if_pos (i0 q), r3, r4, r5, r6, if_pos c3, in_eq, Option.bind_some, f1, f2, f3, if_pos c4, if_pos c5]
  unfold rowC inR
  by_cases q1 : 0 ≤ ((l3.getD i []).getD q z122).f0 ∧ ((l3.getD i []).getD q z122).f0 ≤ (l2.length : Int) - 1
  · rw [decide_eq_true q1, Bool.true_and]
    simp only [if_true]
    by_cases q2 : 0 ≤ ((l3.getD i []).getD q z122).f1 ∧ ((l3.getD i []).getD q z122).f1 ≤ a - 1
    · rw [decide_eq_true q2, Bool.true_and]
      simp only [if_true]
      refine Ev.bind hl ?_
      cases lst (l2.length : Int) (a + 1) ((l4.getD i []).getD q [])
      · exact no
      · refine Ev.succ ?_
        simp only [spec_l02Ok.j4, Bool.not_true, Bool.false_eq_true, if_false, u1, Bool.true_and]
        exact hR
    · rw [decide_eq_false q2, Bool.false_and, Bool.false_and]
      simp only [Bool.false_eq_true, if_false]
      exact no
  · rw [decide_eq_false q1, Bool.false_and, Bool.false_and]
    simp only [Bool.false_eq_true, if_false]
    exact no
theorem implRow_ev (i q : Nat) (hi : i < l2.length) (hq : q < 2) (g3 : (l3.getD i []).length = 2) (g4 : (l4.getD i []).length = 2) (R : Bool) (hR : Ev (fun k => impl_ValidChecker.l1 k i (l2.length : Int) i ((q + 1 : Nat) : Int) a b l2 l3 l4 l5) R) :
    Ev (fun k => impl_ValidChecker.l1 k i (l2.length : Int) i q a b l2 l3 l4 l5) (rowC a b l2 l3 l4 l5 i q && R) := by
  have r3 : rd_L7 l3 (i : Int) = l3.getD i [] := by unfold rd_L7; rw [Int.toNat_natCast]
  have r4 : rd_L5 l4 (i : Int) = l4.getD i [] := by unfold rd_L5; rw [Int.toNat_natCast]
  have r5 : ∀ l : List (List Int), rd_L1 l (q : Int) = l.getD q [] := fun l => by unfold rd_L1; rw [Int.toNat_natCast]
  have r6 : ∀ l : List S122, rd_T122 l (q : Int) = l.getD q z122 := fun l => by unfold rd_T122; rw [Int.toNat_natCast]
  have hsm : ((l4.getD i []).getD q []).length ≤ 1048576 := (h4.2 _ (getD_mem l4 i [] (by omega))).2 _ (getD_mem _ q _ (by omega))
  have c1 : (q : Int) < 2 := by omega
  have c2 : (i : Int) < (l3.length : Int) := by omega
  have c3 : (q : Int) < ((l3.getD i []).length : Int) := by omega
  have c4 : (i : Int) < (l4.length : Int) := by omega
  have c5 : (q : Int) < ((l4.getD i []).length : Int) := by omega
  have hb : l2.length ≤ 1048576 := by omega
  have hb0 : -1000000 ≤ a := by omega
  have hb1 : a ≤ 1000000 := by omega
  have hl := implList_ev a b l2 l3 l4 l5 ((l4.getD i []).getD q []) (a + 1) hsm hb
  have u1 := up1 q (by omega)
  have f3 : wrap64 (a + 1) = a + 1 := by clear u1; exact w64 (by omega) (by omega)
  refine Ev.succ ?_
  simp only [impl_ValidChecker.l1, if_pos c1, if_pos (i0 i), if_pos c2, if_pos (i0 q), r3, r4, r5, r6, if_pos c3, isState_eq a b l2 l3 l4 l5 _ hb, isMark_eq a b l2 l3 l4 l5 _ hb0 hb1, Option.bind_some, f3, if_pos c4, if_pos c5, u1]
  unfold rowC
  cases inR (l2.length : Int) ((l3.getD i []).getD q z122).f0
  · simp only [Bool.false_eq_true, if_false, Bool.false_and]
    exact Ev.now _
  · simp only [if_true, Bool.true_and]
    cases inR a ((l3.getD i []).getD q z122).f1
    · simp only [Bool.false_eq_true, if_false, Bool.false_and]
      exact Ev.now _
    · simp only [if_true, Bool.true_and]
      exact andEv hl hR
theorem specOk_l0 : ∀ i, i ≤ l2.length → Ev (fun k => spec_l02Ok.l0 k (l2.length : Int) i a b l2 l3 l4 l5) (allFromN l2.length (stC a b l2 l3 l4 l5) i) := by
  refine down l2.length ?_ ?_
  · refine Ev.succ ?_
    rw [allFromN_end]
    simp only [spec_l02Ok.l0, if_neg inlt]
    exact Ev.now _
  · intro i hi ih
    have r3 : rd_L7 l3 (i : Int) = l3.getD i [] := by unfold rd_L7; rw [Int.toNat_natCast]
    have r4 : rd_L5 l4 (i : Int) = l4.getD i [] := by unfold rd_L5; rw [Int.toNat_natCast]
    have r5 : rd_L1 l5 (i : Int) = l5.getD i [] := by unfold rd_L1; rw [Int.toNat_natCast]
    have c1 : (i : Int) < (l3.length : Int) := by omega
    have c2 : (i : Int) < (l4.length : Int) := by omega
    have c3 : (i : Int) < (l5.length : Int) := by omega
    have hsm : (l5.getD i []).length ≤ 1048576 := h5.2 _ (getD_mem l5 i [] (by omega))
    have hl := specList_ev (l5.getD i []) 2 (l2.length : Int) hsm (by omega) (by omega)
    have no : Ev (fun k => spec_l02Ok.j2 k (l2.length : Int) i true a b l2 l3 l4 l5) false := by
      refine Ev.succ ?_
      simp only [spec_l02Ok.j2, if_true]
      exact Ev.now _
    rw [allFromN_step _ _ i hi]
    unfold stC
    refine Ev.succ ?_
    simp only [spec_l02Ok.l0, if_pos (ilt hi), if_pos (i0 i), if_pos c1, if_pos c2, if_pos c3, r3, r4, r5]
    by_cases g3 : (l3.getD i []).length = 2
    · rw [decide_eq_true g3, Bool.true_and]
      simp only [if_pos (show ((l3.getD i []).length : Int) = 2 by omega)]
      by_cases g4 : (l4.getD i []).length = 2
      · rw [decide_eq_true g4, Bool.true_and]
        simp only [if_pos (show ((l4.getD i []).length : Int) = 2 by omega)]
        refine Ev.bind hl ?_
        cases lst (l2.length : Int) 2 (l5.getD i [])
        · exact no
        · refine Ev.succ ?_
          simp only [spec_l02Ok.j2, Bool.not_true, Bool.false_eq_true, if_false, Bool.true_and]
          rw [Bool.and_assoc]
          refine specRow_ev a b l2 l3 l4 l5 hn ha0 ha1 h4 h5 e3 e4 e5 i 0 hi (by decide) g3 g4 _ (specRow_ev a b l2 l3 l4 l5 hn ha0 ha1 h4 h5 e3 e4 e5 i 1 hi (by decide) g3 g4 _ ?_)
          refine Ev.succ ?_
          simp only [spec_l02Ok.l1, show ¬ (((1 + 1 : Nat) : Int) < 2) by decide, if_false, up1 i (by omega)]
          exact ih
      · rw [decide_eq_false g4, Bool.false_and, Bool.false_and]
        simp only [if_neg (show ¬ ((l4.getD i []).length : Int) = 2 by omega)]
        exact no
    · rw [decide_eq_false g3, Bool.false_and, Bool.false_and]
      simp only [if_neg (show ¬ ((l3.getD i []).length : Int) = 2 by omega)]
      exact no
theorem implOk_l0 : ∀ i, i ≤ l2.length → Ev (fun k => impl_ValidChecker.l0 k (l2.length : Int) i a b l2 l3 l4 l5) (allFromN l2.length (stC a b l2 l3 l4 l5) i) := by
  refine down l2.length ?_ ?_
  · refine Ev.succ ?_
    rw [allFromN_end]
    simp only [impl_ValidChecker.l0, if_neg inlt]
    exact Ev.now _
  · intro i hi ih
    have r3 : rd_L7 l3 (i : Int) = l3.getD i [] := by unfold rd_L7; rw [Int.toNat_natCast]
    have r4 : rd_L5 l4 (i : Int) = l4.getD i [] := by unfold rd_L5; rw [Int.toNat_natCast]
    have r5 : rd_L1 l5 (i : Int) = l5.getD i [] := by unfold rd_L1; rw [Int.toNat_natCast]
    have c1 : (i : Int) < (l3.length : Int) := by omega
    have c2 : (i : Int) < (l4.length : Int) := by omega
    have c3 : (i : Int) < (l5.length : Int) := by omega
    have hsm : (l5.getD i []).length ≤ 1048576 := h5.2 _ (getD_mem l5 i [] (by omega))
    have hl := implList_ev a b l2 l3 l4 l5 (l5.getD i []) 2 hsm (by omega)
    have no : Ev (fun k => impl_ValidChecker.j2 k i (l2.length : Int) i true a b l2 l3 l4 l5) false := by
      refine Ev.succ ?_
      simp only [impl_ValidChecker.j2, if_true]
      exact Ev.now _
    rw [allFromN_step _ _ i hi]
    unfold stC
    refine Ev.succ ?_
    simp only [impl_ValidChecker.l0, if_pos (ilt hi), if_pos (i0 i), if_pos c1, if_pos c2, if_pos c3, r3, r4, r5]
    by_cases g3 : (l3.getD i []).length = 2
    · rw [decide_eq_true g3, Bool.true_and]
      simp only [if_pos (show ((l3.getD i []).length : Int) = 2 by omega)]
      by_cases g4 : (l4.getD i []).length = 2
      · rw [decide_eq_true g4, Bool.true_and]
        simp only [if_pos (show ((l4.getD i []).length : Int) = 2 by omega)]
        refine Ev.bind hl ?_
        cases lst (l2.length : Int) 2 (l5.getD i [])
        · exact no
        · refine Ev.succ ?_
          simp only [impl_ValidChecker.j2, Bool.not_true, Bool.false_eq_true, if_false, Bool.true_and]
          rw [Bool.and_assoc]
          refine implRow_ev a b l2 l3 l4 l5 hn ha0 ha1 h4 h5 e3 e4 e5 i 0 hi (by decide) g3 g4 _ (implRow_ev a b l2 l3 l4 l5 hn ha0 ha1 h4 h5 e3 e4 e5 i 1 hi (by decide) g3 g4 _ ?_)
          refine Ev.succ ?_
          simp only [impl_ValidChecker.l1, show ¬ (((1 + 1 : Nat) : Int) < 2) by decide, if_false, up1 i (by omega)]
          exact ih
      · rw [decide_eq_false g4, Bool.false_and, Bool.false_and]
        simp only [if_neg (show ¬ ((l4.getD i []).length : Int) = 2 by omega)]
        exact no
    · rw [decide_eq_false g3, Bool.false_and, Bool.false_and]
      simp only [if_neg (show ¬ ((l3.getD i []).length : Int) = 2 by omega)]
      exact no
end
theorem specOkC_ev (a b : Int) (l2 : List Bool) (l3 : List (List S122)) (l4 : List (List (List Int))) (l5 : List (List Int)) (h4 : sm2 l4) (h5 : sm1 l5) : Ev (fun k => spec_l02Ok.f k a b l2 l3 l4 l5) (okC a b l2 l3 l4 l5) := by
  have no : Ev (fun k => spec_l02Ok.j0 k (l2.length : Int) true a b l2 l3 l4 l5) false := by
    refine Ev.succ ?_
    simp only [spec_l02Ok.j0, if_true]
    exact Ev.now _
  unfold spec_l02Ok.f okC
  simp only [in_eq, Option.bind_some]
  by_cases c1 : 1 ≤ (l2.length : Int) ∧ (l2.length : Int) ≤ 40
  · have f1 : wrap64 ((l2.length : Int) - 1) = (l2.length : Int) - 1 := w64 (by omega) (by omega)
    rw [decide_eq_true c1, Bool.true_and]
    simp only [if_true, f1]
    clear f1
    by_cases c2 : 1 ≤ a ∧ a ≤ 80
    · rw [decide_eq_true c2, Bool.true_and]
      simp only [if_true]
      unfold inR
      by_cases c3 : 0 ≤ b ∧ b ≤ (l2.length : Int) - 1
      · rw [decide_eq_true c3, Bool.true_and]
        simp only [if_true]
        by_cases e3 : l3.length = l2.length
        · rw [decide_eq_true e3, Bool.true_and]
          simp only [if_pos (show (l3.length : Int) = (l2.length : Int) by omega)]
          by_cases e4 : l4.length = l2.length
          · rw [decide_eq_true e4, Bool.true_and]
            simp only [if_pos (show (l4.length : Int) = (l2.length : Int) by omega)]
            by_cases e5 : l5.length = l2.length
            · rw [decide_eq_true e5, Bool.true_and, ← allFromN_zero]
              rw [show ((l5.length : Int) != (l2.length : Int)) = false by simp; omega]
              refine Ev.succ ?_
              simp only [spec_l02Ok.j0, Bool.false_eq_true, if_false]
              exact specOk_l0 a b l2 l3 l4 l5 (by omega) c2.1 c2.2 h4 h5 e3 e4 e5 0 (by omega)
            · rw [decide_eq_false e5, Bool.false_and]
              rw [show ((l5.length : Int) != (l2.length : Int)) = true by simp; omega]
              exact no
          · rw [decide_eq_false e4, Bool.false_and]
            simp only [if_neg (show ¬ (l4.length : Int) = (l2.length : Int) by omega)]
            exact no
        · rw [decide_eq_false e3, Bool.false_and]
          simp only [if_neg (show ¬ (l3.length : Int) = (l2.length : Int) by omega)]
          exact no
      · rw [decide_eq_false c3, Bool.false_and]
        simp only [Bool.false_eq_true, if_false]
        exact no
    · rw [decide_eq_false c2, Bool.false_and]
      simp only [Bool.false_eq_true, if_false]
      exact no
  · rw [decide_eq_false c1, Bool.false_and]
    simp only [Bool.false_eq_true, if_false]
    exact no
theorem implOkC_ev (a b : Int) (l2 : List Bool) (l3 : List (List S122)) (l4 : List (List (List Int))) (l5 : List (List Int)) (h2 : sm0 l2) (h4 : sm2 l4) (h5 : sm1 l5) : Ev (fun k => impl_ValidChecker.f k a b l2 l3 l4 l5) (okC a b l2 l3 l4 l5) := by
  have no : Ev (fun k => impl_ValidChecker.j0 k (l2.length : Int) true a b l2 l3 l4 l5) false := by
    refine Ev.succ ?_
    simp only [impl_ValidChecker.j0, if_true]
    exact Ev.now _
  have hb : l2.length ≤ 1048576 := h2
  unfold impl_ValidChecker.f okC impl_size_bool.f impl_size_Limpl_Push.f impl_size_LLint64.f impl_size_Lint64.f
  simp only [within_eq, Option.bind_some, isState_eq a b l2 l3 l4 l5 _ hb]
  by_cases c1 : 1 ≤ (l2.length : Int) ∧ (l2.length : Int) ≤ 40
  · rw [decide_eq_true c1, Bool.true_and]
    simp only [if_true]
    by_cases c2 : 1 ≤ a ∧ a ≤ 80
    · rw [decide_eq_true c2, Bool.true_and]
      simp only [if_true]
      cases inR (l2.length : Int) b
      · rw [Bool.false_and]
        simp only [Bool.false_eq_true, if_false]
        exact no
      · rw [Bool.true_and]
        simp only [if_true]
        by_cases e3 : l3.length = l2.length
        · rw [decide_eq_true e3, Bool.true_and]
          simp only [if_pos (show (l3.length : Int) = (l2.length : Int) by omega)]
          by_cases e4 : l4.length = l2.length
          · rw [decide_eq_true e4, Bool.true_and]
            simp only [if_pos (show (l4.length : Int) = (l2.length : Int) by omega)]
            by_cases e5 : l5.length = l2.length
            · rw [decide_eq_true e5, Bool.true_and, ← allFromN_zero]
              rw [show ((l5.length : Int) != (l2.length : Int)) = false by simp; omega]
              refine Ev.succ ?_
              simp only [impl_ValidChecker.j0, Bool.false_eq_true, if_false]
              exact implOk_l0 a b l2 l3 l4 l5 (by omega) c2.1 c2.2 h4 h5 e3 e4 e5 0 (by omega)
            · rw [decide_eq_false e5, Bool.false_and]
              rw [show ((l5.length : Int) != (l2.length : Int)) = true by simp; omega]
              exact no
          · rw [decide_eq_false e4, Bool.false_and]
            simp only [if_neg (show ¬ (l4.length : Int) = (l2.length : Int) by omega)]
            exact no
        · rw [decide_eq_false e3, Bool.false_and]
          simp only [if_neg (show ¬ (l3.length : Int) = (l2.length : Int) by omega)]
          exact no
    · rw [decide_eq_false c2, Bool.false_and]
      simp only [Bool.false_eq_true, if_false]
      exact no
  · rw [decide_eq_false c1, Bool.false_and]
    simp only [Bool.false_eq_true, if_false]
    exact no
end Go.Proofs.Ytolmmfcofbhagaa.Br
