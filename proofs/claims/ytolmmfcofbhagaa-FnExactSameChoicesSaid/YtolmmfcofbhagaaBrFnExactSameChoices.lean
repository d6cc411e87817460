/- What the law FnExactSameChoices leans on: plain facts, and what the printed functions that it reaches come to; for all arguments that the facts name. -/
import Derived.Test.YtolmmfcofbhagaaPc0
import Derived.Test.YtolmmfcofbhagaaPc33
import Derived.Test.YtolmmfcofbhagaaPc34
import Derived.Test.YtolmmfcofbhagaaPc35
import Derived.Test.YtolmmfcofbhagaaPc36
import Derived.Test.YtolmmfcofbhagaaPc37
import Derived.Test.YtolmmfcofbhagaaPc51
import Derived.Test.YtolmmfcofbhagaaPc55
import Derived.Test.YtolmmfcofbhagaaPc57
import Derived.Test.YtolmmfcofbhagaaPc58
import Derived.Test.YtolmmfcofbhagaaPc63
import Derived.Test.YtolmmfcofbhagaaPc64
import Derived.Test.YtolmmfcofbhagaaPc73
import Derived.Test.YtolmmfcofbhagaaPc87
import Derived.Test.YtolmmfcofbhagaaPc88
import Derived.Test.YtolmmfcofbhagaaPc89
import Derived.Test.YtolmmfcofbhagaaPc97
import Derived.Test.YtolmmfcofbhagaaPc99
import Derived.Test.YtolmmfcofbhagaaPc100
import Derived.Test.YtolmmfcofbhagaaPc101
import Derived.Test.YtolmmfcofbhagaaPc103
import Derived.Test.YtolmmfcofbhagaaPc107
import Derived.Test.YtolmmfcofbhagaaPc111
import Derived.Test.YtolmmfcofbhagaaPc112
import Derived.Test.YtolmmfcofbhagaaPc139
import Derived.Test.YtolmmfcofbhagaaPc141
import Derived.Test.YtolmmfcofbhagaaPc7000000
import Derived.Test.YtolmmfcofbhagaaPc7000001
import Derived.Test.YtolmmfcofbhagaaPc7000002
import Derived.Test.YtolmmfcofbhagaaPc7000003
import Derived.Test.YtolmmfcofbhagaaPc7000004
namespace Go.Proofs.Ytolmmfcofbhagaa.Th
def g (l : List Int) (j : Nat) : Int := l.getD j 0
end Go.Proofs.Ytolmmfcofbhagaa.Th
namespace Go.Proofs.Ytolmmfcofbhagaa.Br
open Go.RowKit Go.Proofs.Ytolmmfcofbhagaa.C Go.Proofs.YtolmmfcofbhagaaW.PrintWords Go.Proofs.YtolmmfcofbhagaaW.PrintLast Go.Proofs.YtolmmfcofbhagaaW.PrintMore Go.Proofs.Ytolmmfcofbhagaa.Th
set_option linter.unusedVariables false
set_option linter.unusedSimpArgs false
theorem Ev.succ {α : Type} {g : Nat → Option α} {r : α} (h : Ev (fun k => g (k + 1)) r) : Ev g r := by
 obtain ⟨K, hK⟩ := h
 refine ⟨K + 1, fun k hk => ?_⟩
 obtain ⟨m, rfl⟩ : ∃ m, k = m + 1 := ⟨k - 1, by omega⟩
 exact hK m (by omega)
theorem w64 {x : Int} (h0 : -9223372036854775808 ≤ x) (h1 : x ≤ 9223372036854775807) : wrap64 x = x := by unfold wrap64; omega
end Go.Proofs.Ytolmmfcofbhagaa.Br
namespace Go.Proofs.Ytolmmfcofbhagaa.Br
open Go.RowKit Go.Proofs.Ytolmmfcofbhagaa.C Go.Proofs.YtolmmfcofbhagaaW.PrintWords Go.Proofs.YtolmmfcofbhagaaW.PrintLast Go.Proofs.YtolmmfcofbhagaaW.PrintMore Go.Proofs.Ytolmmfcofbhagaa.Th
set_option linter.unusedVariables false
set_option linter.unusedSimpArgs false
theorem down {P : Nat → Prop} (n : Nat) (h0 : P n) (h1 : ∀ i, i < n → P (i + 1) → P i) : ∀ i, i ≤ n → P i := by
 have key : ∀ d i, i + d = n → P i := by
  intro d
  induction d with
  | zero => intro i hi; obtain rfl : i = n := by omega
       exact h0
  | succ d ih => intro i hi; exact h1 i (by omega) (ih (i + 1) (by omega))
 intro i hi
 exact key (n - i) i (by omega)
theorem up1 (i : Nat) (h : i < 9223372036854775807) : wrap64 ((i : Int) + 1) = ((i + 1 : Nat) : Int) := by
 rw [w64 (by omega) (by omega)]; rfl
theorem ilt {i n : Nat} (h : i < n) : (i : Int) < (n : Int) := by omega
theorem inlt {n : Nat} : ¬ ((n : Int) < (n : Int)) := by omega
theorem i0 (i : Nat) : 0 ≤ (i : Int) := by omega
theorem getD_mem {α : Type} (l : List α) (i : Nat) (d : α) (h : i < l.length) : l.getD i d ∈ l := by
 rw [List.getD_eq_getElem?_getD, List.getElem?_eq_getElem h]
 exact List.getElem_mem h
theorem take1 (a : Int) (n : Nat) (h0 : 0 ≤ a) (h1 : a ≤ 1048576) (hn : n ≤ 9223372036854775807) : wrap64 (a - (n : Int)) = a - (n : Int) := w64 (by omega) (by omega)
def allN (n : Nat) (e : Nat → Bool) : Bool := (List.range n).all e
def eqv {α : Type} (e : α → α → Bool) (d : α) (x y : List α) : Bool := decide (x.length = y.length) && allN x.length (fun i => e (x.getD i d) (y.getD i d))
theorem allN_true {n : Nat} {e : Nat → Bool} (h : ∀ i, i < n → e i = true) : allN n e = true := by
 unfold allN
 rw [List.all_eq_true]
 intro i hi
 exact h i (List.mem_range.1 hi)
theorem eqv_self {α : Type} (e : α → α → Bool) (d : α) (x : List α) (h : ∀ a ∈ x, e a a = true) : eqv e d x x = true := by
 unfold eqv
 rw [decide_eq_true rfl, Bool.true_and]
 exact allN_true (fun i hi => h _ (getD_mem x i d hi))
def allFromN (n : Nat) (e : Nat → Bool) : Nat → Bool
 | i => (List.range n).all fun j => decide (j < i) || e j
theorem allFromN_zero (n : Nat) (e : Nat → Bool) : allFromN n e 0 = allN n e := by
 unfold allFromN allN
 simp
theorem allFromN_end (n : Nat) (e : Nat → Bool) : allFromN n e n = true := by
 unfold allFromN
 rw [List.all_eq_true]
 intro j hj
 simp [List.mem_range.1 hj]
theorem allFromN_step (n : Nat) (e : Nat → Bool) (i : Nat) (hi : i < n) : allFromN n e i = (e i && allFromN n e (i + 1)) := by
 unfold allFromN
 apply Bool.eq_iff_iff.2
 rw [Bool.and_eq_true, List.all_eq_true, List.all_eq_true]
 constructor
 ·intro H
  refine ⟨by simpa using H i (List.mem_range.2 hi), fun j hj => ?_⟩
  have := H j hj
  simp only [Bool.or_eq_true, decide_eq_true_eq] at this ⊢
  rcases this with h1 | h1
  ·exact .inl (by omega)
  ·exact .inr h1
 ·rintro ⟨H0, H⟩ j hj
  have := H j hj
  simp only [Bool.or_eq_true, decide_eq_true_eq] at this ⊢
  by_cases h : j = i
  ·subst h; exact .inr H0
  ·rcases this with h1 | h1
   ·exact .inl (by omega)
   ·exact .inr h1
theorem allLoop (n : Nat) (L : Nat → Nat → Option Bool) (e : Nat → Bool) (hend : Ev (L n) true) (hs : ∀ i, i < n → ∀ r, Ev (L (i + 1)) r → Ev (L i) (e i && r)) : Ev (L 0) (allN n e) := by
 rw [← allFromN_zero]
 refine down (P := fun i => Ev (L i) (allFromN n e i)) n ?_ ?_ 0 (by omega)
 ·show Ev (L n) (allFromN n e n)
  rw [allFromN_end]; exact hend
 ·intro i hi ih
  show Ev (L i) (allFromN n e i)
  rw [allFromN_step n e i hi]
  exact hs i hi _ ih
theorem andEv {g : Nat → Option Bool} {a r : Bool} {f : Nat → Option Bool} (h : Ev g a) (k : Ev f r) : Ev (fun n => (g n).bind fun t => if t = true then f n else some false) (a && r) := by
 refine Ev.bind h ?_
 cases a with
 | true => simp only [if_true, Bool.true_and]; exact k
 | false => simp only [Bool.false_eq_true, if_false, Bool.false_and]; exact Ev.now _
theorem notEv {a r : Bool} {f : Nat → Option Bool} (k : Ev f r) : Ev (fun n => if a = true then some false else f n) (!a && r) := by
 cases a with
 | false => simp only [Bool.false_eq_true, if_false, Bool.not_false, Bool.true_and]; exact k
 | true => simp only [if_true, Bool.not_true, Bool.false_and]; exact Ev.now _
theorem eqEv {a b : Int} {r : Bool} {f : Nat → Option Bool} (k : Ev f r) : Ev (fun n => if a = b then f n else some false) (a == b && r) := by
 by_cases h : a = b
 ·subst h; simp only [if_true, beq_self_eq_true, Bool.true_and]; exact k
 ·simp only [if_neg h, beq_false_of_ne h, Bool.false_and]; exact Ev.now _
theorem lenEv {m n : Nat} {r : Bool} {f : Nat → Option Bool} (k : m = n → Ev f r) : Ev (fun q => if (m : Int) = (n : Int) then f q else some false) (decide (m = n) && r) := by
 by_cases h : m = n
 ·simp only [if_pos (show (m : Int) = (n : Int) by omega), decide_eq_true h, Bool.true_and]; exact k h
 ·simp only [if_neg (show ¬ (m : Int) = (n : Int) by omega), decide_eq_false h, Bool.false_and]; exact Ev.now _
theorem toLoop {β : Type} (n : Nat) (L : Nat → List β → Nat → Option (List β)) (v : List β) (d : β) (hv : v.length = n) (hend : ∀ o, Ev (L n o) o)
  (hs : ∀ i o, i < n → o.length = n → Ev (L (i + 1) (o.set i (v.getD i d))) v → Ev (L i o) v) : ∀ o, o.length = n → Ev (L 0 o) v := by
 have key : ∀ i, i ≤ n → ∀ o, o.length = n → o.take i = v.take i → Ev (L i o) v := by
  refine down n ?_ ?_
  ·intro o ho ht
   have : o = v := by rw [← List.take_length (l := o), ho, ht, List.take_of_length_le (by omega)]
   subst this
   exact hend o
  ·intro i hi ih o ho ht
   refine hs i o hi ho (ih _ (by simpa using ho) ?_)
   rw [List.take_add_one, List.take_add_one, List.take_set_of_le (by omega), ht, List.getElem?_set_self (by omega), List.getElem?_eq_getElem (show i < v.length by omega), List.getD_eq_getElem?_getD, List.getElem?_eq_getElem (show i < v.length by omega)]
   rfl
 intro o ho
 exact key 0 (by omega) o ho (by simp)
theorem szLoop {α : Type} (l : List α) (d : α) (ok : α → Prop) (L : Nat → Int → Nat → Option Int) (hend : ∀ a, Ev (L l.length a) a)
  (hs : ∀ i, i < l.length → ∀ a, 0 ≤ a → a ≤ 1048576 → Ev (L i a) (-1) ∨ (ok (l.getD i d) ∧ ∃ b, 0 ≤ b ∧ b ≤ a ∧ ∀ r, Ev (L (i + 1) b) r → Ev (L i a) r)) :
  ∀ a, 0 ≤ a → a ≤ 1048576 → ∃ r, Ev (L 0 a) r ∧ (r < 0 ∨ (0 ≤ r ∧ r ≤ a ∧ ∀ x ∈ l, ok x)) := by
 have key : ∀ i, i ≤ l.length → ∀ a, 0 ≤ a → a ≤ 1048576 → ∃ r, Ev (L i a) r ∧ (r < 0 ∨ (0 ≤ r ∧ r ≤ a ∧ ∀ j, i ≤ j → j < l.length → ok (l.getD j d))) := by
  refine down l.length ?_ ?_
  ·intro a h0 h1
   exact ⟨a, hend a, .inr ⟨h0, by omega, fun j _ _ => by omega⟩⟩
  ·intro i hi ih a h0 h1
   rcases hs i hi a h0 h1 with h | ⟨ho, b, b0, b1, h⟩
   ·exact ⟨-1, h, .inl (by omega)⟩
   ·obtain ⟨r, hr, hr2⟩ := ih b b0 (by omega)
    refine ⟨r, h r hr, ?_⟩
    rcases hr2 with h2 | ⟨q0, q1, q2⟩
    ·exact .inl h2
    ·refine .inr ⟨q0, by omega, fun j hj hj2 => ?_⟩
     by_cases e : j = i
     ·subst e; exact ho
     ·exact q2 j (by omega) hj2
 intro a h0 h1
 obtain ⟨r, hr, hr2⟩ := key 0 (by omega) a h0 h1
 refine ⟨r, hr, ?_⟩
 rcases hr2 with h2 | ⟨q0, q1, q2⟩
 ·exact .inl h2
 ·refine .inr ⟨q0, q1, fun x hx => ?_⟩
  obtain ⟨j, hj⟩ := List.getElem?_of_mem hx
  have := q2 j (by omega) (List.getElem?_eq_some_iff.1 hj).1
  rwa [List.getD_eq_getElem?_getD, hj] at this
end Go.Proofs.Ytolmmfcofbhagaa.Br
namespace Go.Proofs.Ytolmmfcofbhagaa.Br
open Go.RowKit Go.Proofs.Ytolmmfcofbhagaa.C Go.Proofs.YtolmmfcofbhagaaW.PrintWords Go.Proofs.YtolmmfcofbhagaaW.PrintLast Go.Proofs.YtolmmfcofbhagaaW.PrintMore Go.Proofs.Ytolmmfcofbhagaa.Th
set_option linter.unusedVariables false
set_option linter.unusedSimpArgs false
def eint (a b : Int) : Bool := a == b
def ebool (a b : Bool) : Bool := !(a != b)
def epush (x y : S122) : Bool := !(!(x.f0 == y.f0) || !(x.f1 == y.f1))
def sm0 {α : Type} (l : List α) : Prop := l.length ≤ 1048576
def sm1 {α : Type} (l : List (List α)) : Prop := l.length ≤ 1048576 ∧ ∀ x ∈ l, sm0 x
def sm2 {α : Type} (l : List (List (List α))) : Prop := l.length ≤ 1048576 ∧ ∀ x ∈ l, sm1 x
theorem laws_eqPush_ev (x y : S122) : laws_eqPush.f x.f0 x.f1 y.f0 y.f1 = some (epush x y) := by
 unfold laws_eqPush.f epush
 by_cases h : x.f0 = y.f0
 ·by_cases h2 : x.f1 = y.f1
  ·simp [h, h2]
  ·simp [h, h2]
 ·simp [h]
theorem laws_eqInt64S_ev (x y : List Int) (hx : sm0 x) : Ev (fun k => laws_eqInt64S.f k x y) (eqv eint 0 x y) := by
 have hl : x.length ≤ 1048576 := hx
 unfold laws_eqInt64S.f eqv
 refine lenEv (fun h => allLoop x.length (fun i k => laws_eqInt64S.l0 k x y (i : Int)) _ ?_ ?_)
 ·refine Ev.succ ?_
  simp only [laws_eqInt64S.l0, if_neg inlt]
  exact Ev.now _
 ·intro i hi r hr
  refine Ev.succ ?_
  simp only [laws_eqInt64S.l0, if_pos (ilt hi), if_pos (i0 i), if_pos (ilt (show i < y.length by omega)), up1 i (by omega)]
  exact eqEv hr
theorem spec_l00Same_ev (x y : List Int) (hx : sm0 x) : Ev (fun k => spec_l00Same.f k x y) (eqv eint 0 x y) := by
 have hl : x.length ≤ 1048576 := hx
 unfold spec_l00Same.f eqv
 refine lenEv (fun h => allLoop x.length (fun i k => spec_l00Same.l0 k x y (i : Int)) _ ?_ ?_)
 ·refine Ev.succ ?_
  simp only [spec_l00Same.l0, if_neg inlt]
  exact Ev.now _
 ·intro i hi r hr
  refine Ev.succ ?_
  simp only [spec_l00Same.l0, if_pos (ilt hi), if_pos (i0 i), if_pos (ilt (show i < y.length by omega)), up1 i (by omega)]
  exact eqEv hr
theorem slices_Equal_Lint64_int64_ev (x y : List Int) (hx : sm0 x) : Ev (fun k => slices_Equal_Lint64_int64.f k x y) (eqv eint 0 x y) := by
 have hl : x.length ≤ 1048576 := hx
 unfold slices_Equal_Lint64_int64.f eqv
 refine lenEv (fun h => allLoop x.length (fun i k => slices_Equal_Lint64_int64.l0 k x y (x.length : Int) (i : Int)) _ ?_ ?_)
 ·refine Ev.succ ?_
  simp only [slices_Equal_Lint64_int64.l0, if_neg inlt]
  exact Ev.now _
 ·intro i hi r hr
  refine Ev.succ ?_
  simp only [slices_Equal_Lint64_int64.l0, if_pos (ilt hi), if_pos (i0 i), if_pos (ilt (show i < y.length by omega)), up1 i (by omega)]
  exact eqEv hr
theorem laws_eqBoolS_ev (x y : List Bool) (hx : sm0 x) : Ev (fun k => laws_eqBoolS.f k x y) (eqv ebool false x y) := by
 have hl : x.length ≤ 1048576 := hx
 unfold laws_eqBoolS.f eqv
 refine lenEv (fun h => allLoop x.length (fun i k => laws_eqBoolS.l0 k x y (i : Int)) _ ?_ ?_)
 ·refine Ev.succ ?_
  simp only [laws_eqBoolS.l0, if_neg inlt]
  exact Ev.now _
 ·intro i hi r hr
  refine Ev.succ ?_
  simp only [laws_eqBoolS.l0, if_pos (ilt hi), if_pos (i0 i), if_pos (ilt (show i < y.length by omega)), up1 i (by omega)]
  exact notEv hr
theorem spec_l02Bools_ev (x y : List Bool) (hx : sm0 x) : Ev (fun k => spec_l02Bools.f k x y) (eqv ebool false x y) := by
 have hl : x.length ≤ 1048576 := hx
 unfold spec_l02Bools.f eqv
 refine lenEv (fun h => allLoop x.length (fun i k => spec_l02Bools.l0 k x y (i : Int)) _ ?_ ?_)
 ·refine Ev.succ ?_
  simp only [spec_l02Bools.l0, if_neg inlt]
  exact Ev.now _
 ·intro i hi r hr
  refine Ev.succ ?_
  simp only [spec_l02Bools.l0, if_pos (ilt hi), if_pos (i0 i), if_pos (ilt (show i < y.length by omega)), up1 i (by omega)]
  exact notEv hr
theorem slices_Equal_Lbool_bool_ev (x y : List Bool) (hx : sm0 x) : Ev (fun k => slices_Equal_Lbool_bool.f k x y) (eqv ebool false x y) := by
 have hl : x.length ≤ 1048576 := hx
 unfold slices_Equal_Lbool_bool.f eqv
 refine lenEv (fun h => allLoop x.length (fun i k => slices_Equal_Lbool_bool.l0 k x y (x.length : Int) (i : Int)) _ ?_ ?_)
 ·refine Ev.succ ?_
  simp only [slices_Equal_Lbool_bool.l0, if_neg inlt]
  exact Ev.now _
 ·intro i hi r hr
  refine Ev.succ ?_
  simp only [slices_Equal_Lbool_bool.l0, if_pos (ilt hi), if_pos (i0 i), if_pos (ilt (show i < y.length by omega)), up1 i (by omega)]
  exact notEv hr
theorem laws_eqPushS_ev (x y : List S122) (hx : sm0 x) : Ev (fun k => laws_eqPushS.f k x y) (eqv epush z122 x y) := by
 have hl : x.length ≤ 1048576 := hx
 unfold laws_eqPushS.f eqv
 refine lenEv (fun h => allLoop x.length (fun i k => laws_eqPushS.l0 k x y (i : Int)) _ ?_ ?_)
 ·refine Ev.succ ?_
  simp only [laws_eqPushS.l0, if_neg inlt]
  exact Ev.now _
 ·intro i hi r hr
  refine Ev.succ ?_
  simp only [laws_eqPushS.l0, if_pos (ilt hi), if_pos (i0 i), if_pos (ilt (show i < y.length by omega)), up1 i (by omega)]
  exact andEv ⟨0, fun _ _ => laws_eqPush_ev (x.getD i z122) (y.getD i z122)⟩ hr
theorem slices_Equal_Limpl_Push_impl_Push_ev (x y : List S122) (hx : sm0 x) : Ev (fun k => slices_Equal_Limpl_Push_impl_Push.f k x y) (eqv epush z122 x y) := by
 have hl : x.length ≤ 1048576 := hx
 unfold slices_Equal_Limpl_Push_impl_Push.f eqv
 refine lenEv (fun h => allLoop x.length (fun i k => slices_Equal_Limpl_Push_impl_Push.l0 k x y (x.length : Int) (i : Int)) _ ?_ ?_)
 ·refine Ev.succ ?_
  simp only [slices_Equal_Limpl_Push_impl_Push.l0, if_neg inlt]
  exact Ev.now _
 ·intro i hi r hr
  refine Ev.succ ?_
  simp only [slices_Equal_Limpl_Push_impl_Push.l0, if_pos (ilt hi), if_pos (i0 i), if_pos (ilt (show i < y.length by omega)), up1 i (by omega)]
  exact notEv hr
theorem laws_eqInt64SS_ev (x y : List (List Int)) (hx : sm1 x) : Ev (fun k => laws_eqInt64SS.f k x y) (eqv (eqv eint 0) ([] : (List Int)) x y) := by
 have hl : x.length ≤ 1048576 := hx.1
 unfold laws_eqInt64SS.f eqv
 refine lenEv (fun h => allLoop x.length (fun i k => laws_eqInt64SS.l0 k x y (i : Int)) _ ?_ ?_)
 ·refine Ev.succ ?_
  simp only [laws_eqInt64SS.l0, if_neg inlt]
  exact Ev.now _
 ·intro i hi r hr
  refine Ev.succ ?_
  simp only [laws_eqInt64SS.l0, if_pos (ilt hi), if_pos (i0 i), if_pos (ilt (show i < y.length by omega)), up1 i (by omega)]
  exact andEv (laws_eqInt64S_ev _ _ (hx.2 _ (getD_mem x i _ hi))) hr
theorem laws_eqInt64SSS_ev (x y : List (List (List Int))) (hx : sm2 x) : Ev (fun k => laws_eqInt64SSS.f k x y) (eqv (eqv (eqv eint 0) ([] : (List Int))) ([] : (List (List Int))) x y) := by
 have hl : x.length ≤ 1048576 := hx.1
 unfold laws_eqInt64SSS.f eqv
 refine lenEv (fun h => allLoop x.length (fun i k => laws_eqInt64SSS.l0 k x y (i : Int)) _ ?_ ?_)
 ·refine Ev.succ ?_
  simp only [laws_eqInt64SSS.l0, if_neg inlt]
  exact Ev.now _
 ·intro i hi r hr
  refine Ev.succ ?_
  simp only [laws_eqInt64SSS.l0, if_pos (ilt hi), if_pos (i0 i), if_pos (ilt (show i < y.length by omega)), up1 i (by omega)]
  exact andEv (laws_eqInt64SS_ev _ _ (hx.2 _ (getD_mem x i _ hi))) hr
theorem laws_eqPushSS_ev (x y : List (List S122)) (hx : sm1 x) : Ev (fun k => laws_eqPushSS.f k x y) (eqv (eqv epush z122) ([] : (List S122)) x y) := by
 have hl : x.length ≤ 1048576 := hx.1
 unfold laws_eqPushSS.f eqv
 refine lenEv (fun h => allLoop x.length (fun i k => laws_eqPushSS.l0 k x y (i : Int)) _ ?_ ?_)
 ·refine Ev.succ ?_
  simp only [laws_eqPushSS.l0, if_neg inlt]
  exact Ev.now _
 ·intro i hi r hr
  refine Ev.succ ?_
  simp only [laws_eqPushSS.l0, if_pos (ilt hi), if_pos (i0 i), if_pos (ilt (show i < y.length by omega)), up1 i (by omega)]
  exact andEv (laws_eqPushS_ev _ _ (hx.2 _ (getD_mem x i _ hi))) hr
theorem spec_l02Lists_ev (x y : List (List Int)) (hx : sm1 x) : Ev (fun k => spec_l02Lists.f k x y) (eqv (eqv eint 0) ([] : (List Int)) x y) := by
 have hl : x.length ≤ 1048576 := hx.1
 unfold spec_l02Lists.f eqv
 refine lenEv (fun h => allLoop x.length (fun i k => spec_l02Lists.l0 k x y (i : Int)) _ ?_ ?_)
 ·refine Ev.succ ?_
  simp only [spec_l02Lists.l0, if_neg inlt]
  exact Ev.now _
 ·intro i hi r hr
  refine Ev.succ ?_
  simp only [spec_l02Lists.l0, if_pos (ilt hi), if_pos (i0 i), if_pos (ilt (show i < y.length by omega)), up1 i (by omega)]
  exact andEv (spec_l00Same_ev _ _ (hx.2 _ (getD_mem x i _ hi))) hr
theorem slices_EqualFunc_LLint64_LLint64_Lint64_Lint64_at_slices_Equal_Lint64_int64_ev (x y : List (List Int)) (hx : sm1 x) : Ev (fun k => slices_EqualFunc_LLint64_LLint64_Lint64_Lint64_at_slices_Equal_Lint64_int64.f k x y) (eqv (eqv eint 0) ([] : (List Int)) x y) := by
 have hl : x.length ≤ 1048576 := hx.1
 unfold slices_EqualFunc_LLint64_LLint64_Lint64_Lint64_at_slices_Equal_Lint64_int64.f eqv
 refine lenEv (fun h => allLoop x.length (fun i k => slices_EqualFunc_LLint64_LLint64_Lint64_Lint64_at_slices_Equal_Lint64_int64.l0 k y x (x.length : Int) (i : Int)) _ ?_ ?_)
 ·refine Ev.succ ?_
  simp only [slices_EqualFunc_LLint64_LLint64_Lint64_Lint64_at_slices_Equal_Lint64_int64.l0, if_neg inlt]
  exact Ev.now _
 ·intro i hi r hr
  refine Ev.succ ?_
  simp only [slices_EqualFunc_LLint64_LLint64_Lint64_Lint64_at_slices_Equal_Lint64_int64.l0, if_pos (ilt hi), if_pos (i0 i), if_pos (ilt (show i < y.length by omega)), up1 i (by omega)]
  exact andEv (slices_Equal_Lint64_int64_ev _ _ (hx.2 _ (getD_mem x i _ hi))) hr
theorem slices_EqualFunc_LLimpl_Push_LLimpl_Push_Limpl_Push_Limpl_Push_at_slices_Equal_Limpl_Push_impl_Push_ev (x y : List (List S122)) (hx : sm1 x) : Ev (fun k => slices_EqualFunc_LLimpl_Push_LLimpl_Push_Limpl_Push_Limpl_Push_at_slices_Equal_Limpl_Push_impl_Push.f k x y) (eqv (eqv epush z122) ([] : (List S122)) x y) := by
 have hl : x.length ≤ 1048576 := hx.1
 unfold slices_EqualFunc_LLimpl_Push_LLimpl_Push_Limpl_Push_Limpl_Push_at_slices_Equal_Limpl_Push_impl_Push.f eqv
 refine lenEv (fun h => allLoop x.length (fun i k => slices_EqualFunc_LLimpl_Push_LLimpl_Push_Limpl_Push_Limpl_Push_at_slices_Equal_Limpl_Push_impl_Push.l0 k y x (x.length : Int) (i : Int)) _ ?_ ?_)
 ·refine Ev.succ ?_
  simp only [slices_EqualFunc_LLimpl_Push_LLimpl_Push_Limpl_Push_Limpl_Push_at_slices_Equal_Limpl_Push_impl_Push.l0, if_neg inlt]
  exact Ev.now _
 ·intro i hi r hr
  refine Ev.succ ?_
  simp only [slices_EqualFunc_LLimpl_Push_LLimpl_Push_Limpl_Push_Limpl_Push_at_slices_Equal_Limpl_Push_impl_Push.l0, if_pos (ilt hi), if_pos (i0 i), if_pos (ilt (show i < y.length by omega)), up1 i (by omega)]
  exact andEv (slices_Equal_Limpl_Push_impl_Push_ev _ _ (hx.2 _ (getD_mem x i _ hi))) hr
theorem impl_sameTable_ev (x y : List (List Int)) (hx : sm1 x) : Ev (fun k => impl_sameTable.f k x y) (eqv (eqv eint 0) ([] : List Int) x y) := by
 unfold impl_sameTable.f
 exact Ev.bind (slices_EqualFunc_LLint64_LLint64_Lint64_Lint64_at_slices_Equal_Lint64_int64_ev x y hx) (Ev.now _)
theorem slices_EqualFunc_LLLint64_LLLint64_LLint64_LLint64_at_impl_sameTable_ev (x y : List (List (List Int))) (hx : sm2 x) : Ev (fun k => slices_EqualFunc_LLLint64_LLLint64_LLint64_LLint64_at_impl_sameTable.f k x y) (eqv (eqv (eqv eint 0) ([] : (List Int))) ([] : (List (List Int))) x y) := by
 have hl : x.length ≤ 1048576 := hx.1
 unfold slices_EqualFunc_LLLint64_LLLint64_LLint64_LLint64_at_impl_sameTable.f eqv
 refine lenEv (fun h => allLoop x.length (fun i k => slices_EqualFunc_LLLint64_LLLint64_LLint64_LLint64_at_impl_sameTable.l0 k y x (x.length : Int) (i : Int)) _ ?_ ?_)
 ·refine Ev.succ ?_
  simp only [slices_EqualFunc_LLLint64_LLLint64_LLint64_LLint64_at_impl_sameTable.l0, if_neg inlt]
  exact Ev.now _
 ·intro i hi r hr
  refine Ev.succ ?_
  simp only [slices_EqualFunc_LLLint64_LLLint64_LLint64_LLint64_at_impl_sameTable.l0, if_pos (ilt hi), if_pos (i0 i), if_pos (ilt (show i < y.length by omega)), up1 i (by omega)]
  exact andEv (impl_sameTable_ev _ _ (hx.2 _ (getD_mem x i _ hi))) hr
end Go.Proofs.Ytolmmfcofbhagaa.Br
namespace Go.Proofs.Ytolmmfcofbhagaa.Br
open Go.RowKit Go.Proofs.Ytolmmfcofbhagaa.C Go.Proofs.YtolmmfcofbhagaaW.PrintWords Go.Proofs.YtolmmfcofbhagaaW.PrintLast Go.Proofs.YtolmmfcofbhagaaW.PrintMore Go.Proofs.Ytolmmfcofbhagaa.Th
set_option linter.unusedVariables false
set_option linter.unusedSimpArgs false
theorem getD_map {α β : Type} (f : α → β) (l : List α) (i : Nat) (d : α) (d' : β) (h : i < l.length) : (l.map f).getD i d' = f (l.getD i d) := by
 rw [List.getD_eq_getElem?_getD, List.getD_eq_getElem?_getD, List.getElem?_map, List.getElem?_eq_getElem h]
 rfl
theorem laws_toInt64S_ev (l : List Int) (hl : sm0 l) : Ev (fun k => laws_toInt64S.f k l) l := by
 have hl' : l.length ≤ 1048576 := hl
 unfold laws_toInt64S.f
 simp only [if_pos (i0 l.length), Int.toNat_natCast, if_pos (show l.length ≤ 35184372088832 by omega)]
 refine toLoop l.length (fun i o k => laws_toInt64S.l0 k l o i) l 0 rfl ?_ ?_ _ (by simp)
 ·intro o
  refine Ev.succ ?_
  simp only [laws_toInt64S.l0, if_neg inlt]
  exact Ev.now _
 ·intro i o hi ho h
  refine Ev.succ ?_
  simp only [laws_toInt64S.l0, if_pos (ilt hi), if_pos (i0 i), if_pos (ilt (show i < o.length by omega)), up1 i (by omega), Int.toNat_natCast]
  exact h
theorem laws_toBoolS_ev (l : List Bool) (hl : sm0 l) : Ev (fun k => laws_toBoolS.f k l) l := by
 have hl' : l.length ≤ 1048576 := hl
 unfold laws_toBoolS.f
 simp only [if_pos (i0 l.length), Int.toNat_natCast, if_pos (show l.length ≤ 281474976710656 by omega)]
 refine toLoop l.length (fun i o k => laws_toBoolS.l0 k l o i) l false rfl ?_ ?_ _ (by simp)
 ·intro o
  refine Ev.succ ?_
  simp only [laws_toBoolS.l0, if_neg inlt]
  exact Ev.now _
 ·intro i o hi ho h
  refine Ev.succ ?_
  simp only [laws_toBoolS.l0, if_pos (ilt hi), if_pos (i0 i), if_pos (ilt (show i < o.length by omega)), up1 i (by omega), Int.toNat_natCast]
  exact h
def cPush (x : S197) : S122 := ⟨x.f0, x.f1⟩
theorem laws_toPushS_ev (l : List S197) (hl : sm0 l) : Ev (fun k => laws_toPushS.f k l) (l.map cPush) := by
 have hl' : l.length ≤ 1048576 := hl
 unfold laws_toPushS.f
 simp only [if_pos (i0 l.length), Int.toNat_natCast, if_pos (show l.length ≤ 17592186044416 by omega)]
 refine toLoop l.length (fun i o k => laws_toPushS.l0 k l o i) (l.map cPush) z122 (by simp) ?_ ?_ _ (by simp)
 ·intro o
  refine Ev.succ ?_
  simp only [laws_toPushS.l0, if_neg inlt]
  exact Ev.now _
 ·intro i o hi ho h
  refine Ev.succ ?_
  rw [getD_map cPush l i z197 _ hi] at h
  simp only [laws_toPushS.l0, if_pos (ilt hi), if_pos (i0 i), if_pos (ilt (show i < o.length by omega)), up1 i (by omega), Int.toNat_natCast, laws_toPush.f, Option.bind_some]
  exact h
theorem laws_toInt64SS_ev (l : List (List Int)) (hl : sm1 l) : Ev (fun k => laws_toInt64SS.f k l) l := by
 have hl' : l.length ≤ 1048576 := hl.1
 unfold laws_toInt64SS.f
 simp only [if_pos (i0 l.length), Int.toNat_natCast, if_pos (show l.length ≤ 11728124029610 by omega)]
 refine toLoop l.length (fun i o k => laws_toInt64SS.l0 k l o i) l [] rfl ?_ ?_ _ (by simp)
 ·intro o
  refine Ev.succ ?_
  simp only [laws_toInt64SS.l0, if_neg inlt]
  exact Ev.now _
 ·intro i o hi ho h
  refine Ev.succ ?_
  simp only [laws_toInt64SS.l0, if_pos (ilt hi), if_pos (i0 i), if_pos (ilt (show i < o.length by omega)), up1 i (by omega), Int.toNat_natCast]
  exact Ev.bind (laws_toInt64S_ev (l.getD i []) (hl.2 _ (getD_mem l i _ hi))) h
theorem laws_toInt64SSS_ev (l : List (List (List Int))) (hl : sm2 l) : Ev (fun k => laws_toInt64SSS.f k l) l := by
 have hl' : l.length ≤ 1048576 := hl.1
 unfold laws_toInt64SSS.f
 simp only [if_pos (i0 l.length), Int.toNat_natCast, if_pos (show l.length ≤ 11728124029610 by omega)]
 refine toLoop l.length (fun i o k => laws_toInt64SSS.l0 k l o i) l [] rfl ?_ ?_ _ (by simp)
 ·intro o
  refine Ev.succ ?_
  simp only [laws_toInt64SSS.l0, if_neg inlt]
  exact Ev.now _
 ·intro i o hi ho h
  refine Ev.succ ?_
  simp only [laws_toInt64SSS.l0, if_pos (ilt hi), if_pos (i0 i), if_pos (ilt (show i < o.length by omega)), up1 i (by omega), Int.toNat_natCast]
  exact Ev.bind (laws_toInt64SS_ev (l.getD i []) (hl.2 _ (getD_mem l i _ hi))) h
theorem laws_toPushSS_ev (l : List (List S197)) (hl : sm1 l) : Ev (fun k => laws_toPushSS.f k l) (l.map (List.map cPush)) := by
 have hl' : l.length ≤ 1048576 := hl.1
 unfold laws_toPushSS.f
 simp only [if_pos (i0 l.length), Int.toNat_natCast, if_pos (show l.length ≤ 11728124029610 by omega)]
 refine toLoop l.length (fun i o k => laws_toPushSS.l0 k l o i) (l.map (List.map cPush)) [] (by simp) ?_ ?_ _ (by simp)
 ·intro o
  refine Ev.succ ?_
  simp only [laws_toPushSS.l0, if_neg inlt]
  exact Ev.now _
 ·intro i o hi ho h
  refine Ev.succ ?_
  rw [getD_map (List.map cPush) l i [] _ hi] at h
  simp only [laws_toPushSS.l0, if_pos (ilt hi), if_pos (i0 i), if_pos (ilt (show i < o.length by omega)), up1 i (by omega), Int.toNat_natCast]
  exact Ev.bind (laws_toPushS_ev (l.getD i []) (hl.2 _ (getD_mem l i _ hi))) h
theorem eint_self (a : Int) : eint a a = true := by simp [eint]
theorem ebool_self (a : Bool) : ebool a a = true := by simp [ebool]
theorem epush_self (a : S122) : epush a a = true := by simp [epush]
theorem laws_szBoolS_ev (l : List Bool) (a : Int) (h0 : 0 ≤ a) (h1 : a ≤ 1048576) (hl : l.length ≤ 9223372036854775807) : ∃ r, laws_szBoolS.f l a = some r ∧ (r < 0 ∨ (0 ≤ r ∧ r ≤ a ∧ sm0 l)) := by
 unfold laws_szBoolS.f
 rw [take1 a _ h0 h1 hl]
 by_cases h : a - (l.length : Int) < 0
 ·exact ⟨-1, by rw [if_pos h], .inl (by omega)⟩
 ·exact ⟨_, by rw [if_neg h], .inr ⟨by omega, by omega, by show l.length ≤ 1048576; omega⟩⟩
theorem laws_szPushS_ev (l : List S197) (a : Int) (h0 : 0 ≤ a) (h1 : a ≤ 1048576) (hl : l.length ≤ 9223372036854775807) : ∃ r, laws_szPushS.f l a = some r ∧ (r < 0 ∨ (0 ≤ r ∧ r ≤ a ∧ sm0 l)) := by
 unfold laws_szPushS.f
 rw [take1 a _ h0 h1 hl]
 by_cases h : a - (l.length : Int) < 0
 ·exact ⟨-1, by rw [if_pos h], .inl (by omega)⟩
 ·exact ⟨_, by rw [if_neg h], .inr ⟨by omega, by omega, by show l.length ≤ 1048576; omega⟩⟩
theorem laws_szInt64S_ev (l : List Int) (a : Int) (h0 : 0 ≤ a) (h1 : a ≤ 1048576) (hl : l.length ≤ 9223372036854775807) : ∃ r, laws_szInt64S.f l a = some r ∧ (r < 0 ∨ (0 ≤ r ∧ r ≤ a ∧ sm0 l)) := by
 unfold laws_szInt64S.f
 rw [take1 a _ h0 h1 hl]
 by_cases h : a - (l.length : Int) < 0
 ·exact ⟨-1, by rw [if_pos h], .inl (by omega)⟩
 ·exact ⟨_, by rw [if_neg h], .inr ⟨by omega, by omega, by show l.length ≤ 1048576; omega⟩⟩
theorem laws_szPushSS_ev (l : List (List S197)) (a : Int) (h0 : 0 ≤ a) (h1 : a ≤ 1048576) (hl : l.length ≤ 9223372036854775807) (hi : ∀ x ∈ l, x.length ≤ 9223372036854775807) :
  ∃ r, Ev (fun k => laws_szPushSS.f k l a) r ∧ (r < 0 ∨ (0 ≤ r ∧ r ≤ a ∧ sm1 l)) := by
 unfold laws_szPushSS.f
 rw [take1 a _ h0 h1 hl]
 by_cases h : a - (l.length : Int) < 0
 ·exact ⟨-1, by simp only [if_pos h]; exact Ev.now _, .inl (by omega)⟩
 ·obtain ⟨r, hr, hr2⟩ := szLoop l [] sm0 (fun i c k => laws_szPushSS.l0 k l c i) (fun c => by
    refine Ev.succ ?_
    simp only [laws_szPushSS.l0, if_neg inlt]
    exact Ev.now _) (fun i hi' c c0 c1 => by
    have hm := getD_mem l i [] hi'
    obtain ⟨r, hr, hr2⟩ := laws_szPushS_ev (l.getD i []) c c0 c1 (hi _ hm)
    by_cases hn : r < 0
    ·refine .inl (Ev.succ ?_)
     simp only [laws_szPushSS.l0, if_pos (ilt hi'), if_pos (i0 i)]
     exact Ev.bind ⟨0, fun _ _ => hr⟩ (by simp only [if_pos hn]; exact Ev.now _)
    ·rcases hr2 with h2 | ⟨q0, q1, q2⟩
     ·exact absurd h2 hn
     ·refine .inr ⟨q2, r, q0, q1, fun s hs => Ev.succ ?_⟩
      simp only [laws_szPushSS.l0, if_pos (ilt hi'), if_pos (i0 i), up1 i (by omega)]
      exact Ev.bind ⟨0, fun _ _ => hr⟩ (by simp only [if_neg hn]; exact hs)) (a - (l.length : Int)) (by omega) (by omega)
  refine ⟨r, by simp only [if_neg h]; exact hr, ?_⟩
  rcases hr2 with h2 | ⟨q0, q1, q2⟩
  ·exact .inl h2
  ·exact .inr ⟨q0, by omega, ⟨by omega, q2⟩⟩
theorem laws_szInt64SS_ev (l : List (List Int)) (a : Int) (h0 : 0 ≤ a) (h1 : a ≤ 1048576) (hl : l.length ≤ 9223372036854775807) (hi : ∀ x ∈ l, x.length ≤ 9223372036854775807) :
  ∃ r, Ev (fun k => laws_szInt64SS.f k l a) r ∧ (r < 0 ∨ (0 ≤ r ∧ r ≤ a ∧ sm1 l)) := by
 unfold laws_szInt64SS.f
 rw [take1 a _ h0 h1 hl]
 by_cases h : a - (l.length : Int) < 0
 ·exact ⟨-1, by simp only [if_pos h]; exact Ev.now _, .inl (by omega)⟩
 ·obtain ⟨r, hr, hr2⟩ := szLoop l [] sm0 (fun i c k => laws_szInt64SS.l0 k l c i) (fun c => by
    refine Ev.succ ?_
    simp only [laws_szInt64SS.l0, if_neg inlt]
    exact Ev.now _) (fun i hi' c c0 c1 => by
    have hm := getD_mem l i [] hi'
    obtain ⟨r, hr, hr2⟩ := laws_szInt64S_ev (l.getD i []) c c0 c1 (hi _ hm)
    by_cases hn : r < 0
    ·refine .inl (Ev.succ ?_)
     simp only [laws_szInt64SS.l0, if_pos (ilt hi'), if_pos (i0 i)]
     exact Ev.bind ⟨0, fun _ _ => hr⟩ (by simp only [if_pos hn]; exact Ev.now _)
    ·rcases hr2 with h2 | ⟨q0, q1, q2⟩
     ·exact absurd h2 hn
     ·refine .inr ⟨q2, r, q0, q1, fun s hs => Ev.succ ?_⟩
      simp only [laws_szInt64SS.l0, if_pos (ilt hi'), if_pos (i0 i), up1 i (by omega)]
      exact Ev.bind ⟨0, fun _ _ => hr⟩ (by simp only [if_neg hn]; exact hs)) (a - (l.length : Int)) (by omega) (by omega)
  refine ⟨r, by simp only [if_neg h]; exact hr, ?_⟩
  rcases hr2 with h2 | ⟨q0, q1, q2⟩
  ·exact .inl h2
  ·exact .inr ⟨q0, by omega, ⟨by omega, q2⟩⟩
theorem laws_szInt64SSS_ev (l : List (List (List Int))) (a : Int) (h0 : 0 ≤ a) (h1 : a ≤ 1048576) (hl : l.length ≤ 9223372036854775807) (hi : ∀ x ∈ l, (x.length ≤ 9223372036854775807 ∧ ∀ y ∈ x, y.length ≤ 9223372036854775807)) :
  ∃ r, Ev (fun k => laws_szInt64SSS.f k l a) r ∧ (r < 0 ∨ (0 ≤ r ∧ r ≤ a ∧ sm2 l)) := by
 unfold laws_szInt64SSS.f
 rw [take1 a _ h0 h1 hl]
 by_cases h : a - (l.length : Int) < 0
 ·exact ⟨-1, by simp only [if_pos h]; exact Ev.now _, .inl (by omega)⟩
 ·obtain ⟨r, hr, hr2⟩ := szLoop l [] sm1 (fun i c k => laws_szInt64SSS.l0 k l c i) (fun c => by
    refine Ev.succ ?_
    simp only [laws_szInt64SSS.l0, if_neg inlt]
    exact Ev.now _) (fun i hi' c c0 c1 => by
    have hm := getD_mem l i [] hi'
    obtain ⟨r, hr, hr2⟩ := laws_szInt64SS_ev (l.getD i []) c c0 c1 (hi _ hm).1 (hi _ hm).2
    by_cases hn : r < 0
    ·refine .inl (Ev.succ ?_)
     simp only [laws_szInt64SSS.l0, if_pos (ilt hi'), if_pos (i0 i)]
     exact Ev.bind hr (by simp only [if_pos hn]; exact Ev.now _)
    ·rcases hr2 with h2 | ⟨q0, q1, q2⟩
     ·exact absurd h2 hn
     ·refine .inr ⟨q2, r, q0, q1, fun s hs => Ev.succ ?_⟩
      simp only [laws_szInt64SSS.l0, if_pos (ilt hi'), if_pos (i0 i), up1 i (by omega)]
      exact Ev.bind hr (by simp only [if_neg hn]; exact hs)) (a - (l.length : Int)) (by omega) (by omega)
  refine ⟨r, by simp only [if_neg h]; exact hr, ?_⟩
  rcases hr2 with h2 | ⟨q0, q1, q2⟩
  ·exact .inl h2
  ·exact .inr ⟨q0, by omega, ⟨by omega, q2⟩⟩
end Go.Proofs.Ytolmmfcofbhagaa.Br
namespace Go.Proofs.Ytolmmfcofbhagaa.Br
open Go.RowKit Go.Proofs.Ytolmmfcofbhagaa.C Go.Proofs.YtolmmfcofbhagaaW.PrintWords Go.Proofs.YtolmmfcofbhagaaW.PrintLast Go.Proofs.YtolmmfcofbhagaaW.PrintMore Go.Proofs.Ytolmmfcofbhagaa.Th
set_option linter.unusedVariables false
set_option linter.unusedSimpArgs false
def sm3 {α : Type} (l : List (List (List (List α)))) : Prop := l.length ≤ 1048576 ∧ ∀ x ∈ l, sm2 x
theorem laws_eqPushSSS_ev (x y : List (List (List S122))) (hx : sm2 x) : Ev (fun k => laws_eqPushSSS.f k x y) (eqv (eqv (eqv epush z122) ([] : (List S122))) ([] : (List (List S122))) x y) := by
 have hl : x.length ≤ 1048576 := hx.1
 unfold laws_eqPushSSS.f eqv
 refine lenEv (fun h => allLoop x.length (fun i k => laws_eqPushSSS.l0 k x y (i : Int)) _ ?_ ?_)
 ·refine Ev.succ ?_
  simp only [laws_eqPushSSS.l0, if_neg inlt]
  exact Ev.now _
 ·intro i hi r hr
  refine Ev.succ ?_
  simp only [laws_eqPushSSS.l0, if_pos (ilt hi), if_pos (i0 i), if_pos (ilt (show i < y.length by omega)), up1 i (by omega)]
  exact andEv (laws_eqPushSS_ev _ _ (hx.2 _ (getD_mem x i _ hi))) hr
theorem laws_eqInt64SSSS_ev (x y : List (List (List (List Int)))) (hx : sm3 x) : Ev (fun k => laws_eqInt64SSSS.f k x y) (eqv (eqv (eqv (eqv eint 0) ([] : (List Int))) ([] : (List (List Int)))) ([] : (List (List (List Int)))) x y) := by
 have hl : x.length ≤ 1048576 := hx.1
 unfold laws_eqInt64SSSS.f eqv
 refine lenEv (fun h => allLoop x.length (fun i k => laws_eqInt64SSSS.l0 k x y (i : Int)) _ ?_ ?_)
 ·refine Ev.succ ?_
  simp only [laws_eqInt64SSSS.l0, if_neg inlt]
  exact Ev.now _
 ·intro i hi r hr
  refine Ev.succ ?_
  simp only [laws_eqInt64SSSS.l0, if_pos (ilt hi), if_pos (i0 i), if_pos (ilt (show i < y.length by omega)), up1 i (by omega)]
  exact andEv (laws_eqInt64SSS_ev _ _ (hx.2 _ (getD_mem x i _ hi))) hr
theorem impl_SameChoices_1_ev (x y : List (List S122)) (hx : sm1 x) : Ev (fun k => impl_SameChoices_1.f k x y) (eqv (eqv epush z122) ([] : (List S122)) x y) := by
 unfold impl_SameChoices_1.f
 exact Ev.bind (slices_EqualFunc_LLimpl_Push_LLimpl_Push_Limpl_Push_Limpl_Push_at_slices_Equal_Limpl_Push_impl_Push_ev x y hx) (Ev.now _)
theorem slices_EqualFunc_LLLimpl_Push_LLLimpl_Push_LLimpl_Push_LLimpl_Push_at_impl_SameChoices_1_ev (x y : List (List (List S122))) (hx : sm2 x) : Ev (fun k => slices_EqualFunc_LLLimpl_Push_LLLimpl_Push_LLimpl_Push_LLimpl_Push_at_impl_SameChoices_1.f k x y) (eqv (eqv (eqv epush z122) ([] : (List S122))) ([] : (List (List S122))) x y) := by
 have hl : x.length ≤ 1048576 := hx.1
 unfold slices_EqualFunc_LLLimpl_Push_LLLimpl_Push_LLimpl_Push_LLimpl_Push_at_impl_SameChoices_1.f eqv
 refine lenEv (fun h => allLoop x.length (fun i k => slices_EqualFunc_LLLimpl_Push_LLLimpl_Push_LLimpl_Push_LLimpl_Push_at_impl_SameChoices_1.l0 k y x (x.length : Int) (i : Int)) _ ?_ ?_)
 ·refine Ev.succ ?_
  simp only [slices_EqualFunc_LLLimpl_Push_LLLimpl_Push_LLimpl_Push_LLimpl_Push_at_impl_SameChoices_1.l0, if_neg inlt]
  exact Ev.now _
 ·intro i hi r hr
  refine Ev.succ ?_
  simp only [slices_EqualFunc_LLLimpl_Push_LLLimpl_Push_LLimpl_Push_LLimpl_Push_at_impl_SameChoices_1.l0, if_pos (ilt hi), if_pos (i0 i), if_pos (ilt (show i < y.length by omega)), up1 i (by omega)]
  exact andEv (impl_SameChoices_1_ev _ _ (hx.2 _ (getD_mem x i _ hi))) hr
theorem impl_SameChoices_2_ev (x y : List (List (List Int))) (hx : sm2 x) : Ev (fun k => impl_SameChoices_2.f k x y) (eqv (eqv (eqv eint 0) ([] : (List Int))) ([] : (List (List Int))) x y) := by
 unfold impl_SameChoices_2.f
 exact Ev.bind (slices_EqualFunc_LLLint64_LLLint64_LLint64_LLint64_at_impl_sameTable_ev x y hx) (Ev.now _)
theorem slices_EqualFunc_LLLLint64_LLLLint64_LLLint64_LLLint64_at_impl_SameChoices_2_ev (x y : List (List (List (List Int)))) (hx : sm3 x) : Ev (fun k => slices_EqualFunc_LLLLint64_LLLLint64_LLLint64_LLLint64_at_impl_SameChoices_2.f k x y) (eqv (eqv (eqv (eqv eint 0) ([] : (List Int))) ([] : (List (List Int)))) ([] : (List (List (List Int)))) x y) := by
 have hl : x.length ≤ 1048576 := hx.1
 unfold slices_EqualFunc_LLLLint64_LLLLint64_LLLint64_LLLint64_at_impl_SameChoices_2.f eqv
 refine lenEv (fun h => allLoop x.length (fun i k => slices_EqualFunc_LLLLint64_LLLLint64_LLLint64_LLLint64_at_impl_SameChoices_2.l0 k y x (x.length : Int) (i : Int)) _ ?_ ?_)
 ·refine Ev.succ ?_
  simp only [slices_EqualFunc_LLLLint64_LLLLint64_LLLint64_LLLint64_at_impl_SameChoices_2.l0, if_neg inlt]
  exact Ev.now _
 ·intro i hi r hr
  refine Ev.succ ?_
  simp only [slices_EqualFunc_LLLLint64_LLLLint64_LLLint64_LLLint64_at_impl_SameChoices_2.l0, if_pos (ilt hi), if_pos (i0 i), if_pos (ilt (show i < y.length by omega)), up1 i (by omega)]
  exact andEv (impl_SameChoices_2_ev _ _ (hx.2 _ (getD_mem x i _ hi))) hr
theorem laws_toPushSSS_ev (l : List (List (List S197))) (hl : sm2 l) : Ev (fun k => laws_toPushSSS.f k l) (l.map (List.map (List.map cPush))) := by
 have hl' : l.length ≤ 1048576 := hl.1
 unfold laws_toPushSSS.f
 simp only [if_pos (i0 l.length), Int.toNat_natCast, if_pos (show l.length ≤ 11728124029610 by omega)]
 refine toLoop l.length (fun i o k => laws_toPushSSS.l0 k l o i) (l.map (List.map (List.map cPush))) [] (by simp) ?_ ?_ _ (by simp)
 ·intro o
  refine Ev.succ ?_
  simp only [laws_toPushSSS.l0, if_neg inlt]
  exact Ev.now _
 ·intro i o hi ho h
  refine Ev.succ ?_
  rw [getD_map (List.map (List.map cPush)) l i [] _ hi] at h
  simp only [laws_toPushSSS.l0, if_pos (ilt hi), if_pos (i0 i), if_pos (ilt (show i < o.length by omega)), up1 i (by omega), Int.toNat_natCast]
  exact Ev.bind (laws_toPushSS_ev (l.getD i []) (hl.2 _ (getD_mem l i _ hi))) h
theorem laws_toInt64SSSS_ev (l : List (List (List (List Int)))) (hl : sm3 l) : Ev (fun k => laws_toInt64SSSS.f k l) l := by
 have hl' : l.length ≤ 1048576 := hl.1
 unfold laws_toInt64SSSS.f
 simp only [if_pos (i0 l.length), Int.toNat_natCast, if_pos (show l.length ≤ 11728124029610 by omega)]
 refine toLoop l.length (fun i o k => laws_toInt64SSSS.l0 k l o i) l [] (by simp) ?_ ?_ _ (by simp)
 ·intro o
  refine Ev.succ ?_
  simp only [laws_toInt64SSSS.l0, if_neg inlt]
  exact Ev.now _
 ·intro i o hi ho h
  refine Ev.succ ?_
  simp only [laws_toInt64SSSS.l0, if_pos (ilt hi), if_pos (i0 i), if_pos (ilt (show i < o.length by omega)), up1 i (by omega), Int.toNat_natCast]
  exact Ev.bind (laws_toInt64SSS_ev (l.getD i []) (hl.2 _ (getD_mem l i _ hi))) h
theorem laws_szPushSSS_ev (l : List (List (List S197))) (a : Int) (h0 : 0 ≤ a) (h1 : a ≤ 1048576) (hl : l.length ≤ 9223372036854775807) (hi : ∀ x ∈ l, (x.length ≤ 9223372036854775807 ∧ ∀ x' ∈ x, x'.length ≤ 9223372036854775807)) :
  ∃ r, Ev (fun k => laws_szPushSSS.f k l a) r ∧ (r < 0 ∨ (0 ≤ r ∧ r ≤ a ∧ sm2 l)) := by
 unfold laws_szPushSSS.f
 rw [take1 a _ h0 h1 hl]
 by_cases h : a - (l.length : Int) < 0
 ·exact ⟨-1, by simp only [if_pos h]; exact Ev.now _, .inl (by omega)⟩
 ·obtain ⟨r, hr, hr2⟩ := szLoop l [] sm1 (fun i c k => laws_szPushSSS.l0 k l c i) (fun c => by
    refine Ev.succ ?_
    simp only [laws_szPushSSS.l0, if_neg inlt]
    exact Ev.now _) (fun i hi' c c0 c1 => by
    have hm := getD_mem l i [] hi'
    obtain ⟨r, hr, hr2⟩ := laws_szPushSS_ev (l.getD i []) c c0 c1 (hi _ hm).1 (hi _ hm).2
    by_cases hn : r < 0
    ·refine .inl (Ev.succ ?_)
     simp only [laws_szPushSSS.l0, if_pos (ilt hi'), if_pos (i0 i)]
     exact Ev.bind hr (by simp only [if_pos hn]; exact Ev.now _)
    ·rcases hr2 with h2 | ⟨q0, q1, q2⟩
     ·exact absurd h2 hn
     ·refine .inr ⟨q2, r, q0, q1, fun s hs => Ev.succ ?_⟩
      simp only [laws_szPushSSS.l0, if_pos (ilt hi'), if_pos (i0 i), up1 i (by omega)]
      exact Ev.bind hr (by simp only [if_neg hn]; exact hs)) (a - (l.length : Int)) (by omega) (by omega)
  refine ⟨r, by simp only [if_neg h]; exact hr, ?_⟩
  rcases hr2 with h2 | ⟨q0, q1, q2⟩
  ·exact .inl h2
  ·exact .inr ⟨q0, by omega, ⟨by omega, q2⟩⟩
theorem laws_szInt64SSSS_ev (l : List (List (List (List Int)))) (a : Int) (h0 : 0 ≤ a) (h1 : a ≤ 1048576) (hl : l.length ≤ 9223372036854775807) (hi : ∀ x ∈ l, (x.length ≤ 9223372036854775807 ∧ ∀ x' ∈ x, (x'.length ≤ 9223372036854775807 ∧ ∀ x'' ∈ x', x''.length ≤ 9223372036854775807))) :
  ∃ r, Ev (fun k => laws_szInt64SSSS.f k l a) r ∧ (r < 0 ∨ (0 ≤ r ∧ r ≤ a ∧ sm3 l)) := by
 unfold laws_szInt64SSSS.f
 rw [take1 a _ h0 h1 hl]
 by_cases h : a - (l.length : Int) < 0
 ·exact ⟨-1, by simp only [if_pos h]; exact Ev.now _, .inl (by omega)⟩
 ·obtain ⟨r, hr, hr2⟩ := szLoop l [] sm2 (fun i c k => laws_szInt64SSSS.l0 k l c i) (fun c => by
    refine Ev.succ ?_
    simp only [laws_szInt64SSSS.l0, if_neg inlt]
    exact Ev.now _) (fun i hi' c c0 c1 => by
    have hm := getD_mem l i [] hi'
    obtain ⟨r, hr, hr2⟩ := laws_szInt64SSS_ev (l.getD i []) c c0 c1 (hi _ hm).1 (hi _ hm).2
    by_cases hn : r < 0
    ·refine .inl (Ev.succ ?_)
     simp only [laws_szInt64SSSS.l0, if_pos (ilt hi'), if_pos (i0 i)]
     exact Ev.bind hr (by simp only [if_pos hn]; exact Ev.now _)
    ·rcases hr2 with h2 | ⟨q0, q1, q2⟩
     ·exact absurd h2 hn
     ·refine .inr ⟨q2, r, q0, q1, fun s hs => Ev.succ ?_⟩
      simp only [laws_szInt64SSSS.l0, if_pos (ilt hi'), if_pos (i0 i), up1 i (by omega)]
      exact Ev.bind hr (by simp only [if_neg hn]; exact hs)) (a - (l.length : Int)) (by omega) (by omega)
  refine ⟨r, by simp only [if_neg h]; exact hr, ?_⟩
  rcases hr2 with h2 | ⟨q0, q1, q2⟩
  ·exact .inl h2
  ·exact .inr ⟨q0, by omega, ⟨by omega, q2⟩⟩
theorem laws_szChoices_ev (a : Int) (l1 : List Int) (l2 : List Bool) (l3 : List (List (List S197))) (l4 : List (List (List (List Int)))) (l5 : List (List (List Int))) (c : Int) (h0 : 0 ≤ c) (h1 : c ≤ 1048576)
  (g1 : l1.length ≤ 9223372036854775807) (g2 : l2.length ≤ 9223372036854775807) (g3 : (l3.length ≤ 9223372036854775807 ∧ ∀ l3' ∈ l3, (l3'.length ≤ 9223372036854775807 ∧ ∀ l3'' ∈ l3', l3''.length ≤ 9223372036854775807))) (g4 : (l4.length ≤ 9223372036854775807 ∧ ∀ l4' ∈ l4, (l4'.length ≤ 9223372036854775807 ∧ ∀ l4'' ∈ l4', (l4''.length ≤ 9223372036854775807 ∧ ∀ l4''' ∈ l4'', l4'''.length ≤ 9223372036854775807)))) (g5 : (l5.length ≤ 9223372036854775807 ∧ ∀ l5' ∈ l5, (l5'.length ≤ 9223372036854775807 ∧ ∀ l5'' ∈ l5', l5''.length ≤ 9223372036854775807))) :
  ∃ r, Ev (fun k => laws_szChoices.f k a l1 l2 l3 l4 l5 c) r ∧ (r < 0 ∨ (0 ≤ r ∧ r ≤ c ∧ sm0 l1 ∧ sm0 l2 ∧ sm2 l3 ∧ sm3 l4 ∧ sm2 l5)) := by
 unfold laws_szChoices.f
 obtain ⟨r1, e1, q1⟩ := laws_szInt64S_ev l1 c h0 h1 g1
 by_cases n1 : r1 < 0
 ·exact ⟨-1, Ev.bind ⟨0, fun _ _ => e1⟩ (by simp only [if_pos n1]; exact Ev.now _), .inl (by omega)⟩
 obtain ⟨r2, e2, q2⟩ := laws_szBoolS_ev l2 r1 (by omega) (by omega) g2
 by_cases n2 : r2 < 0
 ·exact ⟨-1, Ev.bind ⟨0, fun _ _ => e1⟩ (by simp only [if_neg n1]; exact Ev.bind ⟨0, fun _ _ => e2⟩ (by simp only [if_pos n2]; exact Ev.now _)), .inl (by omega)⟩
 obtain ⟨r3, e3, q3⟩ := laws_szPushSSS_ev l3 r2 (by omega) (by omega) g3.1 g3.2
 by_cases n3 : r3 < 0
 ·exact ⟨-1, Ev.bind ⟨0, fun _ _ => e1⟩ (by simp only [if_neg n1]; exact Ev.bind ⟨0, fun _ _ => e2⟩ (by simp only [if_neg n2]; exact Ev.bind e3 (by simp only [if_pos n3]; exact Ev.now _))), .inl (by omega)⟩
 obtain ⟨r4, e4, q4⟩ := laws_szInt64SSSS_ev l4 r3 (by omega) (by omega) g4.1 g4.2
 by_cases n4 : r4 < 0
 ·exact ⟨-1, Ev.bind ⟨0, fun _ _ => e1⟩ (by simp only [if_neg n1]; exact Ev.bind ⟨0, fun _ _ => e2⟩ (by simp only [if_neg n2]; exact Ev.bind e3 (by simp only [if_neg n3]; exact Ev.bind e4 (by simp only [if_pos n4]; exact Ev.now _)))), .inl (by omega)⟩
 obtain ⟨r5, e5, q5⟩ := laws_szInt64SSS_ev l5 r4 (by omega) (by omega) g5.1 g5.2
 by_cases n5 : r5 < 0
 ·exact ⟨-1, Ev.bind ⟨0, fun _ _ => e1⟩ (by simp only [if_neg n1]; exact Ev.bind ⟨0, fun _ _ => e2⟩ (by simp only [if_neg n2]; exact Ev.bind e3 (by simp only [if_neg n3]; exact Ev.bind e4 (by simp only [if_neg n4]; exact Ev.bind e5 (by simp only [if_pos n5]; exact Ev.now _))))), .inl (by omega)⟩
 ·refine ⟨r5, Ev.bind ⟨0, fun _ _ => e1⟩ (by simp only [if_neg n1]; exact Ev.bind ⟨0, fun _ _ => e2⟩ (by simp only [if_neg n2]; exact Ev.bind e3 (by simp only [if_neg n3]; exact Ev.bind e4 (by simp only [if_neg n4]; exact Ev.bind e5 (by simp only [if_neg n5]; exact Ev.now _))))), .inr ?_⟩
  rcases q1 with q1 | q1
  ·omega
  rcases q2 with q2 | q2
  ·omega
  rcases q3 with q3 | q3
  ·omega
  rcases q4 with q4 | q4
  ·omega
  rcases q5 with q5 | q5
  ·omega
  exact ⟨by omega, by omega, q1.2.2, q2.2.2, q3.2.2, q4.2.2, q5.2.2⟩
theorem laws_toChoices_ev (a : Int) (l1 : List Int) (l2 : List Bool) (l3 : List (List (List S197))) (l4 : List (List (List (List Int)))) (l5 : List (List (List Int))) (h1 : sm0 l1) (h2 : sm0 l2) (h3 : sm2 l3) (h4 : sm3 l4) (h5 : sm2 l5) :
  Ev (fun k => laws_toChoices.f k a l1 l2 l3 l4 l5) (a, l1, l2, l3.map (List.map (List.map cPush)), l4, l5) := by
 unfold laws_toChoices.f
 exact Ev.bind (laws_toInt64S_ev l1 h1) (Ev.bind (laws_toBoolS_ev l2 h2) (Ev.bind (laws_toPushSSS_ev l3 h3) (Ev.bind (laws_toInt64SSSS_ev l4 h4) (Ev.bind (laws_toInt64SSS_ev l5 h5) (Ev.now _)))))
theorem laws_eqChoices_ev (a : Int) (l1 : List Int) (l2 : List Bool) (l3 : List (List (List S122))) (l4 : List (List (List (List Int)))) (l5 : List (List (List Int))) (h1 : sm0 l1) (h2 : sm0 l2) (h3 : sm2 l3) (h4 : sm3 l4) (h5 : sm2 l5) :
  Ev (fun k => laws_eqChoices.f k a l1 l2 l3 l4 l5 a l1 l2 l3 l4 l5) true := by
 unfold laws_eqChoices.f
 simp only [if_true]
 have e1 := laws_eqInt64S_ev l1 l1 h1
 rw [eqv_self _ _ _ (fun a _ => eint_self a)] at e1
 have e2 := laws_eqBoolS_ev l2 l2 h2
 rw [eqv_self _ _ _ (fun a _ => ebool_self a)] at e2
 have e3 := laws_eqPushSSS_ev l3 l3 h3
 rw [eqv_self _ _ _ (fun a _ => eqv_self _ _ _ (fun a _ => eqv_self _ _ _ (fun a _ => epush_self a)))] at e3
 have e4 := laws_eqInt64SSSS_ev l4 l4 h4
 rw [eqv_self _ _ _ (fun a _ => eqv_self _ _ _ (fun a _ => eqv_self _ _ _ (fun a _ => eqv_self _ _ _ (fun a _ => eint_self a))))] at e4
 have e5 := laws_eqInt64SSS_ev l5 l5 h5
 rw [eqv_self _ _ _ (fun a _ => eqv_self _ _ _ (fun a _ => eqv_self _ _ _ (fun a _ => eint_self a)))] at e5
 refine Ev.bind e1 ?_
 simp only [if_true]
 refine Ev.bind e2 ?_
 simp only [if_true]
 refine Ev.bind e3 ?_
 simp only [if_true]
 refine Ev.bind e4 ?_
 simp only [if_true]
 refine Ev.bind e5 ?_
 simp only [if_true]
 exact Ev.now _
def sameM (a : Int) (l1 : List Int) (l2 : List Bool) (l3 : List (List (List S122))) (l4 : List (List (List (List Int)))) (l5 : List (List (List Int))) (b : Int) (m1 : List Int) (m2 : List Bool) (m3 : List (List (List S122))) (m4 : List (List (List (List Int)))) (m5 : List (List (List Int))) : Bool :=
 a == b && (eqv eint 0 l1 m1 && (eqv ebool false l2 m2 && (eqv (eqv (eqv epush z122) []) [] l3 m3 && (eqv (eqv (eqv (eqv eint 0) []) []) [] l4 m4 && eqv (eqv (eqv eint 0) []) [] l5 m5))))
theorem implSameM_ev (a : Int) (l1 : List Int) (l2 : List Bool) (l3 : List (List (List S122))) (l4 : List (List (List (List Int)))) (l5 : List (List (List Int))) (b : Int) (m1 : List Int) (m2 : List Bool) (m3 : List (List (List S122))) (m4 : List (List (List (List Int)))) (m5 : List (List (List Int))) (h1 : sm0 l1) (h2 : sm0 l2) (h3 : sm2 l3) (h4 : sm3 l4) (h5 : sm2 l5) :
  Ev (fun k => impl_SameChoices.f k a l1 l2 l3 l4 l5 b m1 m2 m3 m4 m5) (sameM a l1 l2 l3 l4 l5 b m1 m2 m3 m4 m5) := by
 unfold impl_SameChoices.f sameM
 exact eqEv (andEv (slices_Equal_Lint64_int64_ev l1 m1 h1) (andEv (slices_Equal_Lbool_bool_ev l2 m2 h2) (andEv (slices_EqualFunc_LLLimpl_Push_LLLimpl_Push_LLimpl_Push_LLimpl_Push_at_impl_SameChoices_1_ev l3 m3 h3) (andEv (slices_EqualFunc_LLLLint64_LLLLint64_LLLint64_LLLint64_at_impl_SameChoices_2_ev l4 m4 h4) (Ev.bind (slices_EqualFunc_LLLint64_LLLint64_LLint64_LLint64_at_impl_sameTable_ev l5 m5 h5) (Ev.now _))))))
end Go.Proofs.Ytolmmfcofbhagaa.Br
namespace Go.Proofs.Ytolmmfcofbhagaa.Br
open Go.RowKit Go.Proofs.Ytolmmfcofbhagaa.C Go.Proofs.YtolmmfcofbhagaaW.PrintWords Go.Proofs.YtolmmfcofbhagaaW.PrintLast Go.Proofs.YtolmmfcofbhagaaW.PrintMore Go.Proofs.Ytolmmfcofbhagaa.Th
set_option linter.unusedVariables false
set_option linter.unusedSimpArgs false
theorem spec_l03SamePushes_ev (x y : List (List S122)) (hx : sm1 x) : Ev (fun k => spec_l03SamePushes.f k x y) (eqv (eqv epush z122) [] x y) := by
 have hl : x.length ≤ 1048576 := hx.1
 have e1 : ∀ (l : List (List S122)) (i : Nat), rd_L9 l i = l.getD i [] := fun l i => by unfold rd_L9; rw [Int.toNat_natCast]
 unfold spec_l03SamePushes.f
 conv => arg 2; unfold eqv
 refine lenEv (fun h => ?_)
 rw [← allFromN_zero]
 refine down (P := fun i => Ev (fun k => spec_l03SamePushes.l0 k x y (i : Int)) (allFromN x.length (fun i => eqv epush z122 (x.getD i []) (y.getD i [])) i)) x.length ?_ ?_ 0 (by omega)
 ·refine Ev.succ ?_
  rw [allFromN_end]
  simp only [spec_l03SamePushes.l0, if_neg inlt]
  exact Ev.now _
 ·intro i hi ih
  have hm : (x.getD i []).length ≤ 1048576 := hx.2 _ (getD_mem x i _ hi)
  refine Ev.succ ?_
  rw [allFromN_step _ _ i hi]
  generalize allFromN x.length (fun i => eqv epush z122 (x.getD i []) (y.getD i [])) (i + 1) = E at ih ⊢
  unfold eqv
  rw [Bool.and_assoc]
  simp only [spec_l03SamePushes.l0, if_pos (ilt hi), if_pos (i0 i), if_pos (ilt (show i < y.length by omega)), e1]
  refine lenEv (fun hlen => ?_)
  rw [← allFromN_zero]
  refine down (P := fun j => Ev (fun k => spec_l03SamePushes.l1 k x y (i : Int) (j : Int)) (allFromN (x.getD i []).length (fun j => epush ((x.getD i []).getD j z122) ((y.getD i []).getD j z122)) j && E)) (x.getD i []).length ?_ ?_ 0 (by omega)
  ·refine Ev.succ ?_
   rw [allFromN_end, Bool.true_and]
   simp only [spec_l03SamePushes.l1, if_pos (ilt hi), if_pos (i0 i), e1, if_neg inlt, up1 i (by omega)]
   exact ih
  ·intro j hj ih2
   refine Ev.succ ?_
   rw [allFromN_step _ _ j hj, Bool.and_assoc]
   simp only [spec_l03SamePushes.l1, if_pos (ilt hi), if_pos (i0 i), e1, if_pos (ilt hj), if_pos (i0 j), if_pos (ilt (show i < y.length by omega)), if_pos (ilt (show j < (y.getD i []).length by omega)), up1 j (by omega)]
   exact notEv ih2
theorem specM_j0 (a b : Int) (l1 : List Int) (l2 : List Bool) (l3 : List (List (List S122))) (l4 : List (List (List (List Int)))) (l5 : List (List (List Int))) (m1 : List Int) (m2 : List Bool) (m3 : List (List (List S122))) (m4 : List (List (List (List Int)))) (m5 : List (List (List Int))) :
  Ev (fun k => spec_SameChoices.j0 k true a l1 l2 l3 l4 l5 b m1 m2 m3 m4 m5) false := by
 refine Ev.succ ?_
 simp only [spec_SameChoices.j0, if_true]
 exact Ev.now _
theorem specM_l3 (a b : Int) (l1 : List Int) (l2 : List Bool) (l3 : List (List (List S122))) (l4 : List (List (List (List Int)))) (l5 : List (List (List Int))) (m1 : List Int) (m2 : List Bool) (m3 : List (List (List S122))) (m4 : List (List (List (List Int)))) (m5 : List (List (List Int)))
  (h5 : sm2 l5) (e5 : l5.length = m5.length) : Ev (fun k => spec_SameChoices.l3 k 0 a l1 l2 l3 l4 l5 b m1 m2 m3 m4 m5) (allN l5.length (fun i => eqv (eqv eint 0) [] (l5.getD i []) (m5.getD i []))) := by
 have hl : l5.length ≤ 1048576 := h5.1
 refine allLoop l5.length (fun i k => spec_SameChoices.l3 k (i : Int) a l1 l2 l3 l4 l5 b m1 m2 m3 m4 m5) _ ?_ ?_
 ·refine Ev.succ ?_
  simp only [spec_SameChoices.l3, if_neg inlt]
  exact Ev.now _
 ·intro i hi r hr
  refine Ev.succ ?_
  simp only [spec_SameChoices.l3, if_pos (ilt hi), if_pos (i0 i), if_pos (ilt (show i < m5.length by omega)), up1 i (by omega)]
  exact andEv (spec_l02Lists_ev _ _ (h5.2 _ (getD_mem l5 i _ hi))) hr
theorem specM_l1 (a b : Int) (l1 : List Int) (l2 : List Bool) (l3 : List (List (List S122))) (l4 : List (List (List (List Int)))) (l5 : List (List (List Int))) (m1 : List Int) (m2 : List Bool) (m3 : List (List (List S122))) (m4 : List (List (List (List Int)))) (m5 : List (List (List Int)))
  (h4 : sm3 l4) (e4 : l4.length = m4.length) (R : Bool) (hR : Ev (fun k => spec_SameChoices.l3 k 0 a l1 l2 l3 l4 l5 b m1 m2 m3 m4 m5) R) :
  Ev (fun k => spec_SameChoices.l1 k 0 a l1 l2 l3 l4 l5 b m1 m2 m3 m4 m5) (allN l4.length (fun i => eqv (eqv (eqv eint 0) []) [] (l4.getD i []) (m4.getD i [])) && R) := by
 have hl : l4.length ≤ 1048576 := h4.1
 have e1 : ∀ (l : List (List (List (List Int)))) (i : Nat), rd_L7 l i = l.getD i [] := fun l i => by unfold rd_L7; rw [Int.toNat_natCast]
 rw [← allFromN_zero]
 refine down (P := fun i => Ev (fun k => spec_SameChoices.l1 k (i : Int) a l1 l2 l3 l4 l5 b m1 m2 m3 m4 m5) (allFromN l4.length (fun i => eqv (eqv (eqv eint 0) []) [] (l4.getD i []) (m4.getD i [])) i && R)) l4.length ?_ ?_ 0 (by omega)
 ·refine Ev.succ ?_
  rw [allFromN_end, Bool.true_and]
  simp only [spec_SameChoices.l1, if_neg inlt]
  exact hR
 ·intro i hi ih
  have hm : (l4.getD i []).length ≤ 1048576 := (h4.2 _ (getD_mem l4 i _ hi)).1
  have hm2 := (h4.2 _ (getD_mem l4 i [] hi)).2
  refine Ev.succ ?_
  rw [allFromN_step _ _ i hi, Bool.and_assoc]
  generalize (allFromN l4.length (fun i => eqv (eqv (eqv eint 0) []) [] (l4.getD i []) (m4.getD i [])) (i + 1) && R) = E at ih ⊢
  conv => arg 2; arg 1; unfold eqv
  rw [Bool.and_assoc]
  simp only [spec_SameChoices.l1, if_pos (ilt hi), if_pos (i0 i), if_pos (ilt (show i < m4.length by omega)), e1]
  refine lenEv (fun hlen => ?_)
  rw [← allFromN_zero]
  refine down (P := fun j => Ev (fun k => spec_SameChoices.l2 k (i : Int) (j : Int) a l1 l2 l3 l4 l5 b m1 m2 m3 m4 m5) (allFromN (l4.getD i []).length (fun j => eqv (eqv eint 0) [] ((l4.getD i []).getD j []) ((m4.getD i []).getD j [])) j && E)) (l4.getD i []).length ?_ ?_ 0 (by omega)
  ·refine Ev.succ ?_
   rw [allFromN_end, Bool.true_and]
   simp only [spec_SameChoices.l2, if_pos (ilt hi), if_pos (i0 i), e1, if_neg inlt, up1 i (by omega)]
   exact ih
  ·intro j hj ih2
   refine Ev.succ ?_
   rw [allFromN_step _ _ j hj, Bool.and_assoc]
   simp only [spec_SameChoices.l2, if_pos (ilt hi), if_pos (i0 i), e1, if_pos (ilt hj), if_pos (i0 j), if_pos (ilt (show i < m4.length by omega)), if_pos (ilt (show j < (m4.getD i []).length by omega)), up1 j (by omega)]
   exact andEv (spec_l02Lists_ev _ _ (hm2 _ (getD_mem (l4.getD i []) j _ hj))) ih2
theorem specM_l0 (a b : Int) (l1 : List Int) (l2 : List Bool) (l3 : List (List (List S122))) (l4 : List (List (List (List Int)))) (l5 : List (List (List Int))) (m1 : List Int) (m2 : List Bool) (m3 : List (List (List S122))) (m4 : List (List (List (List Int)))) (m5 : List (List (List Int)))
  (h3 : sm2 l3) (e3 : l3.length = m3.length) (R : Bool) (hR : Ev (fun k => spec_SameChoices.l1 k 0 a l1 l2 l3 l4 l5 b m1 m2 m3 m4 m5) R) :
  Ev (fun k => spec_SameChoices.l0 k 0 a l1 l2 l3 l4 l5 b m1 m2 m3 m4 m5) (allN l3.length (fun i => eqv (eqv epush z122) [] (l3.getD i []) (m3.getD i [])) && R) := by
 have hl : l3.length ≤ 1048576 := h3.1
 rw [← allFromN_zero]
 refine down (P := fun i => Ev (fun k => spec_SameChoices.l0 k (i : Int) a l1 l2 l3 l4 l5 b m1 m2 m3 m4 m5) (allFromN l3.length (fun i => eqv (eqv epush z122) [] (l3.getD i []) (m3.getD i [])) i && R)) l3.length ?_ ?_ 0 (by omega)
 ·refine Ev.succ ?_
  rw [allFromN_end, Bool.true_and]
  simp only [spec_SameChoices.l0, if_neg inlt]
  exact hR
 ·intro i hi ih
  refine Ev.succ ?_
  rw [allFromN_step _ _ i hi, Bool.and_assoc]
  simp only [spec_SameChoices.l0, if_pos (ilt hi), if_pos (i0 i), if_pos (ilt (show i < m3.length by omega)), up1 i (by omega)]
  exact andEv (spec_l03SamePushes_ev _ _ (h3.2 _ (getD_mem l3 i _ hi))) ih
theorem eqv_len {α : Type} {e : α → α → Bool} {d : α} {x y : List α} (h : ¬ x.length = y.length) : eqv e d x y = false := by unfold eqv; rw [decide_eq_false h, Bool.false_and]
theorem eqv_all {α : Type} {e : α → α → Bool} {d : α} {x y : List α} (h : x.length = y.length) : eqv e d x y = allN x.length (fun i => e (x.getD i d) (y.getD i d)) := by unfold eqv; rw [decide_eq_true h, Bool.true_and]
theorem specSameM_ev (a b : Int) (l1 : List Int) (l2 : List Bool) (l3 : List (List (List S122))) (l4 : List (List (List (List Int)))) (l5 : List (List (List Int))) (m1 : List Int) (m2 : List Bool) (m3 : List (List (List S122))) (m4 : List (List (List (List Int)))) (m5 : List (List (List Int)))
  (h1 : sm0 l1) (h2 : sm0 l2) (h3 : sm2 l3) (h4 : sm3 l4) (h5 : sm2 l5) : Ev (fun k => spec_SameChoices.f k a l1 l2 l3 l4 l5 b m1 m2 m3 m4 m5) (sameM a l1 l2 l3 l4 l5 b m1 m2 m3 m4 m5) := by
 have hj := specM_j0 a b l1 l2 l3 l4 l5 m1 m2 m3 m4 m5
 unfold spec_SameChoices.f sameM
 by_cases ha : ¬ (a = b)
 ·rw [show (a == b) = false from beq_eq_false_iff_ne.2 ha, Bool.false_and]
  simp only [if_neg ha]; exact hj
 replace ha := Decidable.not_not.1 ha
 rw [beq_iff_eq.2 ha, Bool.true_and]
 simp only [if_pos ha]
 refine Ev.bind (spec_l00Same_ev l1 m1 h1) ?_
 cases q1 : eqv eint 0 l1 m1
 ·rw [Bool.false_and]
  simp only [Bool.false_eq_true, if_false]; exact hj
 rw [Bool.true_and]
 simp only [if_true]
 refine Ev.bind (spec_l02Bools_ev l2 m2 h2) ?_
 cases q2 : eqv ebool false l2 m2
 ·rw [Bool.false_and]
  simp only [Bool.false_eq_true, if_false]; exact hj
 rw [Bool.true_and]
 simp only [if_true]
 by_cases e3 : ¬ (l3.length = m3.length)
 ·rw [eqv_len e3, Bool.false_and]
  simp only [if_neg (show ¬ (l3.length : Int) = (m3.length : Int) by omega)]; exact hj
 replace e3 := Decidable.not_not.1 e3
 simp only [if_pos (show (l3.length : Int) = (m3.length : Int) by omega)]
 by_cases e4 : ¬ (l4.length = m4.length)
 ·rw [eqv_len (x := l4) e4, Bool.false_and, Bool.and_false]
  simp only [if_neg (show ¬ (l4.length : Int) = (m4.length : Int) by omega)]; exact hj
 replace e4 := Decidable.not_not.1 e4
 simp only [if_pos (show (l4.length : Int) = (m4.length : Int) by omega)]
 by_cases e5 : ¬ (l5.length = m5.length)
 ·rw [eqv_len (x := l5) e5, Bool.and_false, Bool.and_false]
  rw [show ((l5.length : Int) != (m5.length : Int)) = true by simp; omega]; exact hj
 replace e5 := Decidable.not_not.1 e5
 rw [show ((l5.length : Int) != (m5.length : Int)) = false by simp; omega]
 rw [eqv_all e3, eqv_all (x := l4) e4, eqv_all (x := l5) e5]
 refine Ev.succ ?_
 simp only [spec_SameChoices.j0, Bool.false_eq_true, if_false]
 exact specM_l0 a b l1 l2 l3 l4 l5 m1 m2 m3 m4 m5 h3 e3 _ (specM_l1 a b l1 l2 l3 l4 l5 m1 m2 m3 m4 m5 h4 e4 _ (specM_l3 a b l1 l2 l3 l4 l5 m1 m2 m3 m4 m5 h5 e5))
end Go.Proofs.Ytolmmfcofbhagaa.Br
