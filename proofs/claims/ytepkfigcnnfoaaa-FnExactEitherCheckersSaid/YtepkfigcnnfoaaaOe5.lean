/- Texts that this law leans on, several in one; written by programs of these sessions (print, wip/deep, gather.py). -/
import Derived.Test.YtepkfigcnnfoaaaOe4
import Derived.Test.YtepkfigcnnfoaaaRows
import Derived.WalkKit
import Derived.ProofKit
import Derived.OpenShut
import Derived.ShutString
import Derived.ChangeOld
import Derived.Below
import Derived.SizedLaws
import Derived.Deep.Slices
import Derived.ChangeArms
import Derived.DataReads
set_option linter.unusedVariables false
set_option linter.unusedSimpArgs false
set_option linter.unusedSectionVars false
set_option maxHeartbeats 4000000
set_option maxRecDepth 100000
namespace Go.Proofs.Ytepkfigcnnfoaaa.Th

def isC (b : Int) : Bool := b == 40 || b == 91
def isR (b : Int) : Bool := b == 41 || b == 93

structure St where
  p : List Int
  r : List Int
  c : List Int
  d : List Int
  q : List Int

def top (c : List Int) : Int := c.getLast?.getD (-1)

def step (s : St) (i b : Int) : St :=
  if isR b = true then
    if s.c = [] then ⟨s.p ++ [-2], s.r ++ [i], [], s.d ++ [0], s.q ++ [-1]⟩
    else ⟨s.p.set (top s.c).toNat i ++ [top s.c], s.r, s.c.dropLast, s.d ++ [(s.c.dropLast.length : Int)], s.q ++ [top s.c.dropLast]⟩
  else if isC b = true then ⟨s.p ++ [-2], s.r, s.c ++ [i], s.d ++ [(s.c.length : Int) + 1], s.q ++ [top s.c]⟩
  else ⟨s.p ++ [-1], s.r, s.c, s.d ++ [(s.c.length : Int)], s.q ++ [top s.c]⟩

def st (b : Int → Int) : Nat → St
  | 0 => ⟨[], [], [], [0], []⟩
  | n + 1 => step (st b n) n (b n)

def g (l : List Int) (j : Nat) : Int := l.getD j 0

end Go.Proofs.Ytepkfigcnnfoaaa.Th
namespace Go.Proofs.Ytepkfigcnnfoaaa.Br
open Go.RowKit Go.Proofs.Ytepkfigcnnfoaaa.P Go.Proofs.YtepkfigcnnfoaaaW.PrintWords Go.Proofs.YtepkfigcnnfoaaaW.PrintLast Go.Proofs.YtepkfigcnnfoaaaW.PrintMore Go.Proofs.Ytepkfigcnnfoaaa.Th
theorem Ev.succ {α : Type} {g : Nat → Option α} {r : α} (h : Ev (fun k => g (k + 1)) r) : Ev g r := by
  obtain ⟨K, hK⟩ := h
  refine ⟨K + 1, fun k hk => ?_⟩
  obtain ⟨m, rfl⟩ : ∃ m, k = m + 1 := ⟨k - 1, by omega⟩
  exact hK m (by omega)
theorem w64 {x : Int} (h0 : -9223372036854775808 ≤ x) (h1 : x ≤ 9223372036854775807) : wrap64 x = x := by unfold wrap64; omega

end Go.Proofs.Ytepkfigcnnfoaaa.Br
namespace Go.Proofs.Ytepkfigcnnfoaaa.Br
open Go.RowKit Go.Proofs.Ytepkfigcnnfoaaa.P Go.Proofs.YtepkfigcnnfoaaaW.PrintWords Go.Proofs.YtepkfigcnnfoaaaW.PrintLast Go.Proofs.YtepkfigcnnfoaaaW.PrintMore Go.Proofs.Ytepkfigcnnfoaaa.Th
theorem down {P : Nat → Prop} (n : Nat) (h0 : P n) (h1 : ∀ i, i < n → P (i + 1) → P i) : ∀ i, i ≤ n → P i := by
  have key : ∀ d i, i + d = n → P i := by
    intro d
    induction d with
    | zero => intro i hi; obtain rfl : i = n := by omega
              exact h0
    | succ d ih => intro i hi; exact h1 i (by omega) (ih (i + 1) (by omega))
  intro i hi
  exact key (n - i) i (by omega)
theorem up1 (i : Nat) (h : i < 9223372036854775807) : wrap64 ((i : Int) + 1) = ((i + 1 : Nat) : Int) := by
  rw [w64 (by omega) (by omega)]; rfl
theorem ilt {i n : Nat} (h : i < n) : (i : Int) < (n : Int) := by omega
theorem inlt {n : Nat} : ¬ ((n : Int) < (n : Int)) := by omega
theorem i0 (i : Nat) : 0 ≤ (i : Int) := by omega
theorem getD_mem {α : Type} (l : List α) (i : Nat) (d : α) (h : i < l.length) : l.getD i d ∈ l := by
  rw [List.getD_eq_getElem?_getD, List.getElem?_eq_getElem h]
  exact List.getElem_mem h
theorem take1 (a : Int) (n : Nat) (h0 : 0 ≤ a) (h1 : a ≤ 1048576) (hn : n ≤ 9223372036854775807) : wrap64 (a - (n : Int)) = a - (n : Int) := w64 (by omega) (by omega)

/-! ### loops, plainly -/
def allN (n : Nat) (e : Nat → Bool) : Bool := (List.range n).all e
def eqv {α : Type} (e : α → α → Bool) (d : α) (x y : List α) : Bool := decide (x.length = y.length) && allN x.length (fun i => e (x.getD i d) (y.getD i d))
theorem allN_true {n : Nat} {e : Nat → Bool} (h : ∀ i, i < n → e i = true) : allN n e = true := by
  unfold allN
  rw [List.all_eq_true]
  intro i hi
  exact h i (List.mem_range.1 hi)
theorem eqv_self {α : Type} (e : α → α → Bool) (d : α) (x : List α) (h : ∀ a ∈ x, e a a = true) : eqv e d x x = true := by
  unfold eqv
  rw [dT rfl, Bool.true_and]
  exact allN_true (fun i hi => h _ (getD_mem x i d hi))
def allFromN (n : Nat) (e : Nat → Bool) : Nat → Bool
  | i => (List.range n).all fun j => decide (j < i) || e j
theorem allFromN_zero (n : Nat) (e : Nat → Bool) : allFromN n e 0 = allN n e := by
  unfold allFromN allN
  simp
theorem allFromN_end (n : Nat) (e : Nat → Bool) : allFromN n e n = true := by
  unfold allFromN
  rw [List.all_eq_true]
  intro j hj
  simp [List.mem_range.1 hj]
theorem allFromN_step (n : Nat) (e : Nat → Bool) (i : Nat) (hi : i < n) : allFromN n e i = (e i && allFromN n e (i + 1)) := by
  unfold allFromN
  apply Bool.eq_iff_iff.2
  rw [Bool.and_eq_true, List.all_eq_true, List.all_eq_true]
  constructor
  · intro H
    refine ⟨by simpa using H i (List.mem_range.2 hi), fun j hj => ?_⟩
    have := H j hj
    simp only [Bool.or_eq_true, decide_eq_true_eq] at this ⊢
    rcases this with h1 | h1
    · exact .inl (by omega)
    · exact .inr h1
  · rintro ⟨H0, H⟩ j hj
    have := H j hj
    simp only [Bool.or_eq_true, decide_eq_true_eq] at this ⊢
    by_cases h : j = i
    · subst h; exact .inr H0
    · rcases this with h1 | h1
      · exact .inl (by omega)
      · exact .inr h1
theorem allLoop (n : Nat) (L : Nat → Nat → Option Bool) (e : Nat → Bool) (hend : Ev (L n) true) (hs : ∀ i, i < n → ∀ r, Ev (L (i + 1)) r → Ev (L i) (e i && r)) : Ev (L 0) (allN n e) := by
  rw [← allFromN_zero]
  refine down (P := fun i => Ev (L i) (allFromN n e i)) n ?_ ?_ 0 (by omega)
  · show Ev (L n) (allFromN n e n)
    rw [allFromN_end]; exact hend
  · intro i hi ih
    show Ev (L i) (allFromN n e i)
    rw [allFromN_step n e i hi]
    exact hs i hi _ ih
theorem andEv {g : Nat → Option Bool} {a r : Bool} {f : Nat → Option Bool} (h : Ev g a) (k : Ev f r) : Ev (fun n => (g n).bind fun t => if t = true then f n else some false) (a && r) := by
  refine Ev.bind h ?_
  cases a with
  | true => simp only [if_true, Bool.true_and]; exact k
  | false => simp only [Bool.false_eq_true, if_false, Bool.false_and]; exact Ev.now _
theorem iteEv {a r : Bool} {f : Nat → Option Bool} (k : Ev f r) : Ev (fun n => if a = true then f n else some false) (a && r) := by
  cases a with
  | true => simp only [if_true, Bool.true_and]; exact k
  | false => simp only [Bool.false_eq_true, if_false, Bool.false_and]; exact Ev.now _
theorem notEv {a r : Bool} {f : Nat → Option Bool} (k : Ev f r) : Ev (fun n => if a = true then some false else f n) (!a && r) := by
  cases a with
  | false => simp only [Bool.false_eq_true, if_false, Bool.not_false, Bool.true_and]; exact k
  | true => simp only [if_true, Bool.not_true, Bool.false_and]; exact Ev.now _
theorem eqEv {a b : Int} {r : Bool} {f : Nat → Option Bool} (k : Ev f r) : Ev (fun n => if a = b then f n else some false) (a == b && r) := by
  by_cases h : a = b
  · subst h; simp only [if_true, beq_self_eq_true, Bool.true_and]; exact k
  · simp only [if_neg h, beq_false_of_ne h, Bool.false_and]; exact Ev.now _
theorem lenEv {m n : Nat} {r : Bool} {f : Nat → Option Bool} (k : m = n → Ev f r) : Ev (fun q => if (m : Int) = (n : Int) then f q else some false) (decide (m = n) && r) := by
  by_cases h : m = n
  · simp only [if_pos (show (m : Int) = (n : Int) by omega), dT h, Bool.true_and]; exact k h
  · simp only [if_neg (show ¬ (m : Int) = (n : Int) by omega), dF h, Bool.false_and]; exact Ev.now _
theorem toLoop {β : Type} (n : Nat) (L : Nat → List β → Nat → Option (List β)) (v : List β) (d : β) (hv : v.length = n) (hend : ∀ o, Ev (L n o) o)
    (hs : ∀ i o, i < n → o.length = n → Ev (L (i + 1) (o.set i (v.getD i d))) v → Ev (L i o) v) : ∀ o, o.length = n → Ev (L 0 o) v := by
  have key : ∀ i, i ≤ n → ∀ o, o.length = n → o.take i = v.take i → Ev (L i o) v := by
    refine down n ?_ ?_
    · intro o ho ht
      have : o = v := by rw [← List.take_length (l := o), ho, ht, List.take_of_length_le (by omega)]
      subst this
      exact hend o
    · intro i hi ih o ho ht
      refine hs i o hi ho (ih _ (by simpa using ho) ?_)
      rw [List.take_add_one, List.take_add_one, List.take_set_of_le (by omega), ht, List.getElem?_set_self (by omega), List.getElem?_eq_getElem (show i < v.length by omega), List.getD_eq_getElem?_getD, List.getElem?_eq_getElem (show i < v.length by omega)]
      rfl
  intro o ho
  exact key 0 (by omega) o ho (by simp)
theorem szLoop {α : Type} (l : List α) (d : α) (ok : α → Prop) (L : Nat → Int → Nat → Option Int) (hend : ∀ a, Ev (L l.length a) a)
    (hs : ∀ i, i < l.length → ∀ a, 0 ≤ a → a ≤ 1048576 → Ev (L i a) (-1) ∨ (ok (l.getD i d) ∧ ∃ b, 0 ≤ b ∧ b ≤ a ∧ ∀ r, Ev (L (i + 1) b) r → Ev (L i a) r)) :
    ∀ a, 0 ≤ a → a ≤ 1048576 → ∃ r, Ev (L 0 a) r ∧ (r < 0 ∨ (0 ≤ r ∧ r ≤ a ∧ ∀ x ∈ l, ok x)) := by
  have key : ∀ i, i ≤ l.length → ∀ a, 0 ≤ a → a ≤ 1048576 → ∃ r, Ev (L i a) r ∧ (r < 0 ∨ (0 ≤ r ∧ r ≤ a ∧ ∀ j, i ≤ j → j < l.length → ok (l.getD j d))) := by
    refine down l.length ?_ ?_
    · intro a h0 h1
      exact ⟨a, hend a, .inr ⟨h0, by omega, fun j _ _ => by omega⟩⟩
    · intro i hi ih a h0 h1
      rcases hs i hi a h0 h1 with h | ⟨ho, b, b0, b1, h⟩
      · exact ⟨-1, h, .inl (by omega)⟩
      · obtain ⟨r, hr, hr2⟩ := ih b b0 (by omega)
        refine ⟨r, h r hr, ?_⟩
        rcases hr2 with h2 | ⟨q0, q1, q2⟩
        · exact .inl h2
        · refine .inr ⟨q0, by omega, fun j hj hj2 => ?_⟩
          by_cases e : j = i
          · subst e; exact ho
          · exact q2 j (by omega) hj2
  intro a h0 h1
  obtain ⟨r, hr, hr2⟩ := key 0 (by omega) a h0 h1
  refine ⟨r, hr, ?_⟩
  rcases hr2 with h2 | ⟨q0, q1, q2⟩
  · exact .inl h2
  · refine .inr ⟨q0, q1, fun x hx => ?_⟩
    obtain ⟨j, hj⟩ := List.getElem?_of_mem hx
    have := q2 j (by omega) (List.getElem?_eq_some_iff.1 hj).1
    rwa [List.getD_eq_getElem?_getD, hj] at this
end Go.Proofs.Ytepkfigcnnfoaaa.Br
namespace Go.Proofs.Ytepkfigcnnfoaaa.Br
open Go.RowKit Go.Proofs.Ytepkfigcnnfoaaa.P Go.Proofs.YtepkfigcnnfoaaaW.PrintWords Go.Proofs.YtepkfigcnnfoaaaW.PrintLast Go.Proofs.YtepkfigcnnfoaaaW.PrintMore Go.Proofs.Ytepkfigcnnfoaaa.Th
def eint (a b : Int) : Bool := a == b
def ebool (a b : Bool) : Bool := !(a != b)
def epush (x y : S47) : Bool := !(!(x.f0 == y.f0) || !(x.f1 == y.f1))
/-- How long a row is, and those inside. -/
def sm0 {α : Type} (l : List α) : Prop := l.length ≤ 1048576
def sm1 {α : Type} (l : List (List α)) : Prop := l.length ≤ 1048576 ∧ ∀ x ∈ l, sm0 x
def sm2 {α : Type} (l : List (List (List α))) : Prop := l.length ≤ 1048576 ∧ ∀ x ∈ l, sm1 x

theorem laws_eqPush_ev (x y : S47) : laws_eqPush.f x.f0 x.f1 y.f0 y.f1 = some (epush x y) := by
  unfold laws_eqPush.f epush
  by_cases h : x.f0 = y.f0
  · by_cases h2 : x.f1 = y.f1
    · simp [h, h2]
    · simp [h, h2]
  · simp [h]

theorem laws_eqInt64S_ev (x y : List Int) (hx : sm0 x) : Ev (fun k => laws_eqInt64S.f k x y) (eqv eint 0 x y) := by
  have hl : x.length ≤ 1048576 := hx
  unfold laws_eqInt64S.f eqv
  refine lenEv (fun h => allLoop x.length (fun i k => laws_eqInt64S.l0 k x y (i : Int)) _ ?_ ?_)
  · refine Ev.succ ?_
    simp only [laws_eqInt64S.l0, if_neg inlt]
    exact Ev.now _
  · intro i hi r hr
    refine Ev.succ ?_
    simp only [laws_eqInt64S.l0, if_pos (ilt hi), if_pos (i0 i), if_pos (ilt (show i < y.length by omega)), up1 i (by omega)]
    exact eqEv hr

theorem laws_eqBoolS_ev (x y : List Bool) (hx : sm0 x) : Ev (fun k => laws_eqBoolS.f k x y) (eqv ebool false x y) := by
  have hl : x.length ≤ 1048576 := hx
  unfold laws_eqBoolS.f eqv
  refine lenEv (fun h => allLoop x.length (fun i k => laws_eqBoolS.l0 k x y (i : Int)) _ ?_ ?_)
  · refine Ev.succ ?_
    simp only [laws_eqBoolS.l0, if_neg inlt]
    exact Ev.now _
  · intro i hi r hr
    refine Ev.succ ?_
    simp only [laws_eqBoolS.l0, if_pos (ilt hi), if_pos (i0 i), if_pos (ilt (show i < y.length by omega)), up1 i (by omega)]
    exact notEv hr

theorem laws_eqPushS_ev (x y : List S47) (hx : sm0 x) : Ev (fun k => laws_eqPushS.f k x y) (eqv epush z47 x y) := by
  have hl : x.length ≤ 1048576 := hx
  unfold laws_eqPushS.f eqv
  refine lenEv (fun h => allLoop x.length (fun i k => laws_eqPushS.l0 k x y (i : Int)) _ ?_ ?_)
  · refine Ev.succ ?_
    simp only [laws_eqPushS.l0, if_neg inlt]
    exact Ev.now _
  · intro i hi r hr
    refine Ev.succ ?_
    simp only [laws_eqPushS.l0, if_pos (ilt hi), if_pos (i0 i), if_pos (ilt (show i < y.length by omega)), up1 i (by omega)]
    exact andEv ⟨0, fun _ _ => laws_eqPush_ev (x.getD i z47) (y.getD i z47)⟩ hr

theorem laws_eqInt64SS_ev (x y : List (List Int)) (hx : sm1 x) : Ev (fun k => laws_eqInt64SS.f k x y) (eqv (eqv eint 0) ([] : (List Int)) x y) := by
  have hl : x.length ≤ 1048576 := hx.1
  unfold laws_eqInt64SS.f eqv
  refine lenEv (fun h => allLoop x.length (fun i k => laws_eqInt64SS.l0 k x y (i : Int)) _ ?_ ?_)
  · refine Ev.succ ?_
    simp only [laws_eqInt64SS.l0, if_neg inlt]
    exact Ev.now _
  · intro i hi r hr
    refine Ev.succ ?_
    simp only [laws_eqInt64SS.l0, if_pos (ilt hi), if_pos (i0 i), if_pos (ilt (show i < y.length by omega)), up1 i (by omega)]
    exact andEv (laws_eqInt64S_ev _ _ (hx.2 _ (getD_mem x i _ hi))) hr

theorem laws_eqInt64SSS_ev (x y : List (List (List Int))) (hx : sm2 x) : Ev (fun k => laws_eqInt64SSS.f k x y) (eqv (eqv (eqv eint 0) ([] : (List Int))) ([] : (List (List Int))) x y) := by
  have hl : x.length ≤ 1048576 := hx.1
  unfold laws_eqInt64SSS.f eqv
  refine lenEv (fun h => allLoop x.length (fun i k => laws_eqInt64SSS.l0 k x y (i : Int)) _ ?_ ?_)
  · refine Ev.succ ?_
    simp only [laws_eqInt64SSS.l0, if_neg inlt]
    exact Ev.now _
  · intro i hi r hr
    refine Ev.succ ?_
    simp only [laws_eqInt64SSS.l0, if_pos (ilt hi), if_pos (i0 i), if_pos (ilt (show i < y.length by omega)), up1 i (by omega)]
    exact andEv (laws_eqInt64SS_ev _ _ (hx.2 _ (getD_mem x i _ hi))) hr

theorem laws_eqPushSS_ev (x y : List (List S47)) (hx : sm1 x) : Ev (fun k => laws_eqPushSS.f k x y) (eqv (eqv epush z47) ([] : (List S47)) x y) := by
  have hl : x.length ≤ 1048576 := hx.1
  unfold laws_eqPushSS.f eqv
  refine lenEv (fun h => allLoop x.length (fun i k => laws_eqPushSS.l0 k x y (i : Int)) _ ?_ ?_)
  · refine Ev.succ ?_
    simp only [laws_eqPushSS.l0, if_neg inlt]
    exact Ev.now _
  · intro i hi r hr
    refine Ev.succ ?_
    simp only [laws_eqPushSS.l0, if_pos (ilt hi), if_pos (i0 i), if_pos (ilt (show i < y.length by omega)), up1 i (by omega)]
    exact andEv (laws_eqPushS_ev _ _ (hx.2 _ (getD_mem x i _ hi))) hr

end Go.Proofs.Ytepkfigcnnfoaaa.Br
namespace Go.Proofs.Ytepkfigcnnfoaaa.Br
open Go.RowKit Go.Proofs.Ytepkfigcnnfoaaa.P Go.Proofs.YtepkfigcnnfoaaaW.PrintWords Go.Proofs.YtepkfigcnnfoaaaW.PrintLast Go.Proofs.YtepkfigcnnfoaaaW.PrintMore Go.Proofs.Ytepkfigcnnfoaaa.Th
theorem getD_map {α β : Type} (f : α → β) (l : List α) (i : Nat) (d : α) (d' : β) (h : i < l.length) : (l.map f).getD i d' = f (l.getD i d) := by
  rw [List.getD_eq_getElem?_getD, List.getD_eq_getElem?_getD, List.getElem?_map, List.getElem?_eq_getElem h]
  rfl
theorem laws_toInt64S_ev (l : List Int) (hl : sm0 l) : Ev (fun k => laws_toInt64S.f k l) l := by
  have hl' : l.length ≤ 1048576 := hl
  unfold laws_toInt64S.f
  simp only [if_pos (i0 l.length), Int.toNat_natCast, if_pos (show l.length ≤ 35184372088832 by omega)]
  refine toLoop l.length (fun i o k => laws_toInt64S.l0 k l o i) l 0 rfl ?_ ?_ _ (by simp)
  · intro o
    refine Ev.succ ?_
    simp only [laws_toInt64S.l0, if_neg inlt]
    exact Ev.now _
  · intro i o hi ho h
    refine Ev.succ ?_
    simp only [laws_toInt64S.l0, if_pos (ilt hi), if_pos (i0 i), if_pos (ilt (show i < o.length by omega)), up1 i (by omega), Int.toNat_natCast]
    exact h
theorem laws_toBoolS_ev (l : List Bool) (hl : sm0 l) : Ev (fun k => laws_toBoolS.f k l) l := by
  have hl' : l.length ≤ 1048576 := hl
  unfold laws_toBoolS.f
  simp only [if_pos (i0 l.length), Int.toNat_natCast, if_pos (show l.length ≤ 281474976710656 by omega)]
  refine toLoop l.length (fun i o k => laws_toBoolS.l0 k l o i) l false rfl ?_ ?_ _ (by simp)
  · intro o
    refine Ev.succ ?_
    simp only [laws_toBoolS.l0, if_neg inlt]
    exact Ev.now _
  · intro i o hi ho h
    refine Ev.succ ?_
    simp only [laws_toBoolS.l0, if_pos (ilt hi), if_pos (i0 i), if_pos (ilt (show i < o.length by omega)), up1 i (by omega), Int.toNat_natCast]
    exact h
def cPush (x : S101) : S47 := ⟨x.f0, x.f1⟩
theorem laws_toPushS_ev (l : List S101) (hl : sm0 l) : Ev (fun k => laws_toPushS.f k l) (l.map cPush) := by
  have hl' : l.length ≤ 1048576 := hl
  unfold laws_toPushS.f
  simp only [if_pos (i0 l.length), Int.toNat_natCast, if_pos (show l.length ≤ 17592186044416 by omega)]
  refine toLoop l.length (fun i o k => laws_toPushS.l0 k l o i) (l.map cPush) z47 (by simp) ?_ ?_ _ (by simp)
  · intro o
    refine Ev.succ ?_
    simp only [laws_toPushS.l0, if_neg inlt]
    exact Ev.now _
  · intro i o hi ho h
    refine Ev.succ ?_
    rw [getD_map cPush l i z101 _ hi] at h
    simp only [laws_toPushS.l0, if_pos (ilt hi), if_pos (i0 i), if_pos (ilt (show i < o.length by omega)), up1 i (by omega), Int.toNat_natCast, laws_toPush.f, Option.bind_some]
    exact h
theorem laws_toInt64SS_ev (l : List (List Int)) (hl : sm1 l) : Ev (fun k => laws_toInt64SS.f k l) l := by
  have hl' : l.length ≤ 1048576 := hl.1
  unfold laws_toInt64SS.f
  simp only [if_pos (i0 l.length), Int.toNat_natCast, if_pos (show l.length ≤ 11728124029610 by omega)]
  refine toLoop l.length (fun i o k => laws_toInt64SS.l0 k l o i) l [] rfl ?_ ?_ _ (by simp)
  · intro o
    refine Ev.succ ?_
    simp only [laws_toInt64SS.l0, if_neg inlt]
    exact Ev.now _
  · intro i o hi ho h
    refine Ev.succ ?_
    simp only [laws_toInt64SS.l0, if_pos (ilt hi), if_pos (i0 i), if_pos (ilt (show i < o.length by omega)), up1 i (by omega), Int.toNat_natCast]
    exact Ev.bind (laws_toInt64S_ev (l.getD i []) (hl.2 _ (getD_mem l i _ hi))) h
theorem laws_toInt64SSS_ev (l : List (List (List Int))) (hl : sm2 l) : Ev (fun k => laws_toInt64SSS.f k l) l := by
  have hl' : l.length ≤ 1048576 := hl.1
  unfold laws_toInt64SSS.f
  simp only [if_pos (i0 l.length), Int.toNat_natCast, if_pos (show l.length ≤ 11728124029610 by omega)]
  refine toLoop l.length (fun i o k => laws_toInt64SSS.l0 k l o i) l [] rfl ?_ ?_ _ (by simp)
  · intro o
    refine Ev.succ ?_
    simp only [laws_toInt64SSS.l0, if_neg inlt]
    exact Ev.now _
  · intro i o hi ho h
    refine Ev.succ ?_
    simp only [laws_toInt64SSS.l0, if_pos (ilt hi), if_pos (i0 i), if_pos (ilt (show i < o.length by omega)), up1 i (by omega), Int.toNat_natCast]
    exact Ev.bind (laws_toInt64SS_ev (l.getD i []) (hl.2 _ (getD_mem l i _ hi))) h
theorem laws_toPushSS_ev (l : List (List S101)) (hl : sm1 l) : Ev (fun k => laws_toPushSS.f k l) (l.map (List.map cPush)) := by
  have hl' : l.length ≤ 1048576 := hl.1
  unfold laws_toPushSS.f
  simp only [if_pos (i0 l.length), Int.toNat_natCast, if_pos (show l.length ≤ 11728124029610 by omega)]
  refine toLoop l.length (fun i o k => laws_toPushSS.l0 k l o i) (l.map (List.map cPush)) [] (by simp) ?_ ?_ _ (by simp)
  · intro o
    refine Ev.succ ?_
    simp only [laws_toPushSS.l0, if_neg inlt]
    exact Ev.now _
  · intro i o hi ho h
    refine Ev.succ ?_
    rw [getD_map (List.map cPush) l i [] _ hi] at h
    simp only [laws_toPushSS.l0, if_pos (ilt hi), if_pos (i0 i), if_pos (ilt (show i < o.length by omega)), up1 i (by omega), Int.toNat_natCast]
    exact Ev.bind (laws_toPushS_ev (l.getD i []) (hl.2 _ (getD_mem l i _ hi))) h
theorem eint_self (a : Int) : eint a a = true := by simp [eint]
theorem ebool_self (a : Bool) : ebool a a = true := by simp [ebool]
theorem epush_self (a : S47) : epush a a = true := by simp [epush]
theorem laws_eqChecker_ev (a b : Int) (l2 : List Bool) (l3 : List (List S47)) (l4 : List (List (List Int))) (l5 : List (List Int)) (h2 : sm0 l2) (h3 : sm1 l3) (h4 : sm2 l4) (h5 : sm1 l5) :
    Ev (fun k => laws_eqChecker.f k a b l2 l3 l4 l5 a b l2 l3 l4 l5) true := by
  unfold laws_eqChecker.f
  simp only [if_true]
  have e2 := laws_eqBoolS_ev l2 l2 h2
  rw [eqv_self _ _ _ (fun a _ => ebool_self a)] at e2
  have e3 := laws_eqPushSS_ev l3 l3 h3
  rw [eqv_self _ _ _ (fun a _ => eqv_self _ _ _ (fun a _ => epush_self a))] at e3
  have e4 := laws_eqInt64SSS_ev l4 l4 h4
  rw [eqv_self _ _ _ (fun a _ => eqv_self _ _ _ (fun a _ => eqv_self _ _ _ (fun a _ => eint_self a)))] at e4
  have e5 := laws_eqInt64SS_ev l5 l5 h5
  rw [eqv_self _ _ _ (fun a _ => eqv_self _ _ _ (fun a _ => eint_self a))] at e5
  refine Ev.bind e2 ?_
  simp only [if_true]
  refine Ev.bind e3 ?_
  simp only [if_true]
  refine Ev.bind e4 ?_
  simp only [if_true]
  refine Ev.bind e5 ?_
  simp only [if_true]
  exact Ev.now _
theorem laws_szBoolS_ev (l : List Bool) (a : Int) (h0 : 0 ≤ a) (h1 : a ≤ 1048576) (hl : l.length ≤ 9223372036854775807) : ∃ r, laws_szBoolS.f l a = some r ∧ (r < 0 ∨ (0 ≤ r ∧ r ≤ a ∧ sm0 l)) := by
  unfold laws_szBoolS.f
  rw [take1 a _ h0 h1 hl]
  by_cases h : a - (l.length : Int) < 0
  · exact ⟨-1, by rw [if_pos h], .inl (by omega)⟩
  · exact ⟨_, by rw [if_neg h], .inr ⟨by omega, by omega, by show l.length ≤ 1048576; omega⟩⟩
theorem laws_szPushS_ev (l : List S101) (a : Int) (h0 : 0 ≤ a) (h1 : a ≤ 1048576) (hl : l.length ≤ 9223372036854775807) : ∃ r, laws_szPushS.f l a = some r ∧ (r < 0 ∨ (0 ≤ r ∧ r ≤ a ∧ sm0 l)) := by
  unfold laws_szPushS.f
  rw [take1 a _ h0 h1 hl]
  by_cases h : a - (l.length : Int) < 0
  · exact ⟨-1, by rw [if_pos h], .inl (by omega)⟩
  · exact ⟨_, by rw [if_neg h], .inr ⟨by omega, by omega, by show l.length ≤ 1048576; omega⟩⟩
theorem laws_szInt64S_ev (l : List Int) (a : Int) (h0 : 0 ≤ a) (h1 : a ≤ 1048576) (hl : l.length ≤ 9223372036854775807) : ∃ r, laws_szInt64S.f l a = some r ∧ (r < 0 ∨ (0 ≤ r ∧ r ≤ a ∧ sm0 l)) := by
  unfold laws_szInt64S.f
  rw [take1 a _ h0 h1 hl]
  by_cases h : a - (l.length : Int) < 0
  · exact ⟨-1, by rw [if_pos h], .inl (by omega)⟩
  · exact ⟨_, by rw [if_neg h], .inr ⟨by omega, by omega, by show l.length ≤ 1048576; omega⟩⟩
theorem laws_szPushSS_ev (l : List (List S101)) (a : Int) (h0 : 0 ≤ a) (h1 : a ≤ 1048576) (hl : l.length ≤ 9223372036854775807) (hi : ∀ x ∈ l, x.length ≤ 9223372036854775807) :
    ∃ r, Ev (fun k => laws_szPushSS.f k l a) r ∧ (r < 0 ∨ (0 ≤ r ∧ r ≤ a ∧ sm1 l)) := by
  unfold laws_szPushSS.f
  rw [take1 a _ h0 h1 hl]
  by_cases h : a - (l.length : Int) < 0
  · exact ⟨-1, by simp only [if_pos h]; exact Ev.now _, .inl (by omega)⟩
  · obtain ⟨r, hr, hr2⟩ := szLoop l [] sm0 (fun i c k => laws_szPushSS.l0 k l c i) (fun c => by
        refine Ev.succ ?_
        simp only [laws_szPushSS.l0, if_neg inlt]
        exact Ev.now _) (fun i hi' c c0 c1 => by
        have hm := getD_mem l i [] hi'
        obtain ⟨r, hr, hr2⟩ := laws_szPushS_ev (l.getD i []) c c0 c1 (hi _ hm)
        by_cases hn : r < 0
        · refine .inl (Ev.succ ?_)
          simp only [laws_szPushSS.l0, if_pos (ilt hi'), if_pos (i0 i)]
          exact Ev.bind ⟨0, fun _ _ => hr⟩ (by simp only [if_pos hn]; exact Ev.now _)
        · rcases hr2 with h2 | ⟨q0, q1, q2⟩
          · exact absurd h2 hn
          · refine .inr ⟨q2, r, q0, q1, fun s hs => Ev.succ ?_⟩
            simp only [laws_szPushSS.l0, if_pos (ilt hi'), if_pos (i0 i), up1 i (by omega)]
            exact Ev.bind ⟨0, fun _ _ => hr⟩ (by simp only [if_neg hn]; exact hs)) (a - (l.length : Int)) (by omega) (by omega)
    refine ⟨r, by simp only [if_neg h]; exact hr, ?_⟩
    rcases hr2 with h2 | ⟨q0, q1, q2⟩
    · exact .inl h2
    · exact .inr ⟨q0, by omega, ⟨by omega, q2⟩⟩
theorem laws_szInt64SS_ev (l : List (List Int)) (a : Int) (h0 : 0 ≤ a) (h1 : a ≤ 1048576) (hl : l.length ≤ 9223372036854775807) (hi : ∀ x ∈ l, x.length ≤ 9223372036854775807) :
    ∃ r, Ev (fun k => laws_szInt64SS.f k l a) r ∧ (r < 0 ∨ (0 ≤ r ∧ r ≤ a ∧ sm1 l)) := by
  unfold laws_szInt64SS.f
  rw [take1 a _ h0 h1 hl]
  by_cases h : a - (l.length : Int) < 0
  · exact ⟨-1, by simp only [if_pos h]; exact Ev.now _, .inl (by omega)⟩
  · obtain ⟨r, hr, hr2⟩ := szLoop l [] sm0 (fun i c k => laws_szInt64SS.l0 k l c i) (fun c => by
        refine Ev.succ ?_
        simp only [laws_szInt64SS.l0, if_neg inlt]
        exact Ev.now _) (fun i hi' c c0 c1 => by
        have hm := getD_mem l i [] hi'
        obtain ⟨r, hr, hr2⟩ := laws_szInt64S_ev (l.getD i []) c c0 c1 (hi _ hm)
        by_cases hn : r < 0
        · refine .inl (Ev.succ ?_)
          simp only [laws_szInt64SS.l0, if_pos (ilt hi'), if_pos (i0 i)]
          exact Ev.bind ⟨0, fun _ _ => hr⟩ (by simp only [if_pos hn]; exact Ev.now _)
        · rcases hr2 with h2 | ⟨q0, q1, q2⟩
          · exact absurd h2 hn
          · refine .inr ⟨q2, r, q0, q1, fun s hs => Ev.succ ?_⟩
            simp only [laws_szInt64SS.l0, if_pos (ilt hi'), if_pos (i0 i), up1 i (by omega)]
            exact Ev.bind ⟨0, fun _ _ => hr⟩ (by simp only [if_neg hn]; exact hs)) (a - (l.length : Int)) (by omega) (by omega)
    refine ⟨r, by simp only [if_neg h]; exact hr, ?_⟩
    rcases hr2 with h2 | ⟨q0, q1, q2⟩
    · exact .inl h2
    · exact .inr ⟨q0, by omega, ⟨by omega, q2⟩⟩
theorem laws_szInt64SSS_ev (l : List (List (List Int))) (a : Int) (h0 : 0 ≤ a) (h1 : a ≤ 1048576) (hl : l.length ≤ 9223372036854775807) (hi : ∀ x ∈ l, (x.length ≤ 9223372036854775807 ∧ ∀ y ∈ x, y.length ≤ 9223372036854775807)) :
    ∃ r, Ev (fun k => laws_szInt64SSS.f k l a) r ∧ (r < 0 ∨ (0 ≤ r ∧ r ≤ a ∧ sm2 l)) := by
  unfold laws_szInt64SSS.f
  rw [take1 a _ h0 h1 hl]
  by_cases h : a - (l.length : Int) < 0
  · exact ⟨-1, by simp only [if_pos h]; exact Ev.now _, .inl (by omega)⟩
  · obtain ⟨r, hr, hr2⟩ := szLoop l [] sm1 (fun i c k => laws_szInt64SSS.l0 k l c i) (fun c => by
        refine Ev.succ ?_
        simp only [laws_szInt64SSS.l0, if_neg inlt]
        exact Ev.now _) (fun i hi' c c0 c1 => by
        have hm := getD_mem l i [] hi'
        obtain ⟨r, hr, hr2⟩ := laws_szInt64SS_ev (l.getD i []) c c0 c1 (hi _ hm).1 (hi _ hm).2
        by_cases hn : r < 0
        · refine .inl (Ev.succ ?_)
          simp only [laws_szInt64SSS.l0, if_pos (ilt hi'), if_pos (i0 i)]
          exact Ev.bind hr (by simp only [if_pos hn]; exact Ev.now _)
        · rcases hr2 with h2 | ⟨q0, q1, q2⟩
          · exact absurd h2 hn
          · refine .inr ⟨q2, r, q0, q1, fun s hs => Ev.succ ?_⟩
            simp only [laws_szInt64SSS.l0, if_pos (ilt hi'), if_pos (i0 i), up1 i (by omega)]
            exact Ev.bind hr (by simp only [if_neg hn]; exact hs)) (a - (l.length : Int)) (by omega) (by omega)
    refine ⟨r, by simp only [if_neg h]; exact hr, ?_⟩
    rcases hr2 with h2 | ⟨q0, q1, q2⟩
    · exact .inl h2
    · exact .inr ⟨q0, by omega, ⟨by omega, q2⟩⟩
theorem laws_szChecker_ev (a b : Int) (l2 : List Bool) (l3 : List (List S101)) (l4 : List (List (List Int))) (l5 : List (List Int)) (c : Int) (h0 : 0 ≤ c) (h1 : c ≤ 1048576)
    (h2 : l2.length ≤ 9223372036854775807) (h3 : l3.length ≤ 9223372036854775807 ∧ ∀ x ∈ l3, x.length ≤ 9223372036854775807)
    (h4 : l4.length ≤ 9223372036854775807 ∧ ∀ x ∈ l4, (x.length ≤ 9223372036854775807 ∧ ∀ y ∈ x, y.length ≤ 9223372036854775807)) (h5 : l5.length ≤ 9223372036854775807 ∧ ∀ x ∈ l5, x.length ≤ 9223372036854775807) :
    ∃ r, Ev (fun k => laws_szChecker.f k a b l2 l3 l4 l5 c) r ∧ (r < 0 ∨ (0 ≤ r ∧ r ≤ c ∧ sm0 l2 ∧ sm1 l3 ∧ sm2 l4 ∧ sm1 l5)) := by
  unfold laws_szChecker.f
  obtain ⟨r2, e2, q2⟩ := laws_szBoolS_ev l2 c h0 h1 h2
  by_cases n2 : r2 < 0
  · exact ⟨-1, Ev.bind ⟨0, fun _ _ => e2⟩ (by simp only [if_pos n2]; exact Ev.now _), .inl (by omega)⟩
  obtain ⟨r3, e3, q3⟩ := laws_szPushSS_ev l3 r2 (by omega) (by omega) h3.1 h3.2
  by_cases n3 : r3 < 0
  · exact ⟨-1, Ev.bind ⟨0, fun _ _ => e2⟩ (by simp only [if_neg n2]; exact Ev.bind e3 (by simp only [if_pos n3]; exact Ev.now _)), .inl (by omega)⟩
  obtain ⟨r4, e4, q4⟩ := laws_szInt64SSS_ev l4 r3 (by omega) (by omega) h4.1 h4.2
  by_cases n4 : r4 < 0
  · exact ⟨-1, Ev.bind ⟨0, fun _ _ => e2⟩ (by simp only [if_neg n2]; exact Ev.bind e3 (by simp only [if_neg n3]; exact Ev.bind e4 (by simp only [if_pos n4]; exact Ev.now _))), .inl (by omega)⟩
  obtain ⟨r5, e5, q5⟩ := laws_szInt64SS_ev l5 r4 (by omega) (by omega) h5.1 h5.2
  by_cases n5 : r5 < 0
  · exact ⟨-1, Ev.bind ⟨0, fun _ _ => e2⟩ (by simp only [if_neg n2]; exact Ev.bind e3 (by simp only [if_neg n3]; exact Ev.bind e4 (by simp only [if_neg n4]; exact Ev.bind e5 (by simp only [if_pos n5]; exact Ev.now _)))), .inl (by omega)⟩
  · refine ⟨r5, Ev.bind ⟨0, fun _ _ => e2⟩ (by simp only [if_neg n2]; exact Ev.bind e3 (by simp only [if_neg n3]; exact Ev.bind e4 (by simp only [if_neg n4]; exact Ev.bind e5 (by simp only [if_neg n5]; exact Ev.now _)))), .inr ?_⟩
    rcases q2 with q2 | q2
    · omega
    rcases q3 with q3 | q3
    · omega
    rcases q4 with q4 | q4
    · omega
    rcases q5 with q5 | q5
    · omega
    exact ⟨by omega, by omega, q2.2.2, q3.2.2, q4.2.2, q5.2.2⟩
end Go.Proofs.Ytepkfigcnnfoaaa.Br
namespace Go.Proofs.Ytepkfigcnnfoaaa.Br
open Go.RowKit Go.Proofs.Ytepkfigcnnfoaaa.P Go.Proofs.YtepkfigcnnfoaaaW.PrintWords Go.Proofs.YtepkfigcnnfoaaaW.PrintLast Go.Proofs.YtepkfigcnnfoaaaW.PrintMore Go.Proofs.Ytepkfigcnnfoaaa.Th
theorem in_eq (a lo hi : Int) : spec_l00In.f a lo hi = some (decide (lo ≤ a ∧ a ≤ hi)) := by
  unfold spec_l00In.f
  by_cases h : a ≥ lo
  · rw [if_pos h]; congr 1; simp; omega
  · rw [if_neg h]; congr 1; simp; omega
theorem within_eq (a lo hi : Int) : impl_within.f a lo hi = some (decide (lo ≤ a ∧ a ≤ hi)) := by
  unfold impl_within.f
  by_cases h : a ≥ lo
  · rw [if_pos h]; congr 1; simp; omega
  · rw [if_neg h]; congr 1; simp; omega

end Go.Proofs.Ytepkfigcnnfoaaa.Br
namespace Go.Proofs.Ytepkfigcnnfoaaa.Br
open Go.RowKit Go.Proofs.Ytepkfigcnnfoaaa.P Go.Proofs.YtepkfigcnnfoaaaW.PrintWords Go.Proofs.YtepkfigcnnfoaaaW.PrintLast Go.Proofs.YtepkfigcnnfoaaaW.PrintMore Go.Proofs.Ytepkfigcnnfoaaa.Th
def inR (n x : Int) : Bool := decide (0 ≤ x ∧ x ≤ n - 1)
def lst (n len : Int) (l : List Int) : Bool := decide ((l.length : Int) = len) && allN l.length (fun i => inR n (l.getD i 0))
theorem rd_getD (l : List Int) (i : Nat) : rd l i = l.getD i 0 := by unfold rd; rw [Int.toNat_natCast]
theorem specList_ev (l : List Int) (len n : Int) (hl : l.length ≤ 1048576) (h0 : -1000000 ≤ n) (h1 : n ≤ 1000000) : Ev (fun k => spec_l02List.f k l len n) (lst n len l) := by
  have f1 : wrap64 (n - 1) = n - 1 := w64 (by omega) (by omega)
  unfold spec_l02List.f lst
  by_cases h : (l.length : Int) = len
  · rw [dT h, Bool.true_and]
    simp only [if_pos h]
    refine allLoop l.length (fun i k => spec_l02List.l0 k l n (i : Int)) _ ?_ ?_
    · refine Ev.succ ?_
      simp only [spec_l02List.l0, if_neg inlt]
      exact Ev.now _
    · intro i hi r hr
      refine Ev.succ ?_
      simp only [spec_l02List.l0, if_pos (ilt hi), if_pos (i0 i), in_eq, Option.bind_some, f1, rd_getD, up1 i (by clear f1; omega)]
      exact iteEv hr
  · rw [dF h, Bool.false_and]
    simp only [if_neg h]
    exact Ev.now _
theorem isState_eq (a b : Int) (l2 : List Bool) (l3 : List (List S47)) (l4 : List (List (List Int))) (l5 : List (List Int)) (x : Int) (h : l2.length ≤ 1048576) : impl_Checker_isState.f a b l2 l3 l4 l5 x = some (inR (l2.length : Int) x) := by
  have f1 : wrap64 ((l2.length : Int) - 1) = (l2.length : Int) - 1 := w64 (by omega) (by omega)
  unfold impl_Checker_isState.f impl_size_bool.f
  simp only [Option.bind_some, within_eq, f1]
  rfl
theorem isMark_eq (a b : Int) (l2 : List Bool) (l3 : List (List S47)) (l4 : List (List (List Int))) (l5 : List (List Int)) (x : Int) (h0 : -1000000 ≤ a) (h1 : a ≤ 1000000) : impl_Checker_isMark.f a b l2 l3 l4 l5 x = some (inR a x) := by
  have f1 : wrap64 (a - 1) = a - 1 := w64 (by omega) (by omega)
  unfold impl_Checker_isMark.f
  simp only [Option.bind_some, within_eq, f1]
  rfl
theorem implList_ev (a b : Int) (l2 : List Bool) (l3 : List (List S47)) (l4 : List (List (List Int))) (l5 : List (List Int)) (l : List Int) (len : Int) (hl : l.length ≤ 1048576) (h : l2.length ≤ 1048576) : Ev (fun k => impl_ValidChecker_1_c.f k l len a b l2 l3 l4 l5) (lst (l2.length : Int) len l) := by
  have loop : ∀ i, i ≤ l.length → ∃ r : Int, Ev (fun k => slices_IndexFunc_Lint64_int64_at_impl_ValidChecker_1_1.l0 k l (l.length : Int) i a b l2 l3 l4 l5) r ∧ (allFromN l.length (fun i => inR (l2.length : Int) (l.getD i 0)) i = !(decide (r ≥ 0))) := by
    refine down l.length ?_ ?_
    · refine ⟨-1, Ev.succ ?_, by rw [allFromN_end]; rfl⟩
      simp only [slices_IndexFunc_Lint64_int64_at_impl_ValidChecker_1_1.l0, if_neg inlt]
      exact Ev.now _
    · intro i hi ih
      obtain ⟨r, hr, he⟩ := ih
      cases e : inR (l2.length : Int) (l.getD i 0)
      · refine ⟨(i : Int), Ev.succ ?_, ?_⟩
        · simp only [slices_IndexFunc_Lint64_int64_at_impl_ValidChecker_1_1.l0, if_pos (ilt hi), if_pos (i0 i), impl_ValidChecker_1_1_c.f, isState_eq a b l2 l3 l4 l5 _ h, Option.bind_some, rd_getD, e, Bool.not_false, if_true]
          exact Ev.now _
        · rw [allFromN_step _ _ i hi, e, Bool.false_and]
          simp
      · refine ⟨r, Ev.succ ?_, ?_⟩
        · simp only [slices_IndexFunc_Lint64_int64_at_impl_ValidChecker_1_1.l0, if_pos (ilt hi), if_pos (i0 i), impl_ValidChecker_1_1_c.f, isState_eq a b l2 l3 l4 l5 _ h, Option.bind_some, rd_getD, e, Bool.not_true, Bool.false_eq_true, if_false, up1 i (by omega)]
          exact hr
        · rw [allFromN_step _ _ i hi, e, Bool.true_and, he]
  unfold impl_ValidChecker_1_c.f impl_size_int64.f lst
  simp only [Option.bind_some]
  by_cases hh : (l.length : Int) = len
  · rw [dT hh, Bool.true_and, ← allFromN_zero]
    simp only [if_pos hh]
    obtain ⟨r, hr, he⟩ := loop 0 (by omega)
    rw [he]
    unfold slices_ContainsFunc_Lint64_int64_at_impl_ValidChecker_1_1.f slices_IndexFunc_Lint64_int64_at_impl_ValidChecker_1_1.f
    exact Ev.bind (Ev.bind hr (Ev.now _)) (Ev.now _)
  · rw [dF hh, Bool.false_and]
    simp only [if_neg hh]
    exact Ev.now _
def rowC (a b : Int) (l2 : List Bool) (l3 : List (List S47)) (l4 : List (List (List Int))) (l5 : List (List Int)) (i q : Nat) : Bool := inR (l2.length : Int) ((l3.getD i []).getD q z47).f0 && (inR a ((l3.getD i []).getD q z47).f1 && lst (l2.length : Int) (a + 1) ((l4.getD i []).getD q []))
def stC (a b : Int) (l2 : List Bool) (l3 : List (List S47)) (l4 : List (List (List Int))) (l5 : List (List Int)) (i : Nat) : Bool := decide ((l3.getD i []).length = 2) && (decide ((l4.getD i []).length = 2) && (lst (l2.length : Int) 2 (l5.getD i []) && (rowC a b l2 l3 l4 l5 i 0 && rowC a b l2 l3 l4 l5 i 1)))
def okC (a b : Int) (l2 : List Bool) (l3 : List (List S47)) (l4 : List (List (List Int))) (l5 : List (List Int)) : Bool := decide (1 ≤ (l2.length : Int) ∧ (l2.length : Int) ≤ 40) && (decide (1 ≤ a ∧ a ≤ 80) && (inR (l2.length : Int) b && (decide (l3.length = l2.length) && (decide (l4.length = l2.length) && (decide (l5.length = l2.length) && allN l2.length (stC a b l2 l3 l4 l5))))))
section
variable (a b : Int) (l2 : List Bool) (l3 : List (List S47)) (l4 : List (List (List Int))) (l5 : List (List Int)) (hn : l2.length ≤ 40) (ha0 : 1 ≤ a) (ha1 : a ≤ 80) (h4 : sm2 l4) (h5 : sm1 l5) (e3 : l3.length = l2.length) (e4 : l4.length = l2.length) (e5 : l5.length = l2.length)
include hn ha0 ha1 h4 h5 e3 e4 e5
theorem specRow_ev (i q : Nat) (hi : i < l2.length) (hq : q < 2) (g3 : (l3.getD i []).length = 2) (g4 : (l4.getD i []).length = 2) (R : Bool) (hR : Ev (fun k => spec_l02Ok.l1 k (l2.length : Int) i ((q + 1 : Nat) : Int) a b l2 l3 l4 l5) R) :
    Ev (fun k => spec_l02Ok.l1 k (l2.length : Int) i q a b l2 l3 l4 l5) (rowC a b l2 l3 l4 l5 i q && R) := by
  have r3 : Zd l3 (i : Int) = l3.getD i [] := by unfold Zd; rw [Int.toNat_natCast]
  have r4 : rd_L5 l4 (i : Int) = l4.getD i [] := by unfold rd_L5; rw [Int.toNat_natCast]
  have r5 : ∀ l : List (List Int), rd_L4 l (q : Int) = l.getD q [] := fun l => by unfold rd_L4; rw [Int.toNat_natCast]
  have r6 : ∀ l : List S47, Zb l (q : Int) = l.getD q z47 := fun l => by unfold Zb; rw [Int.toNat_natCast]
  have hsm : ((l4.getD i []).getD q []).length ≤ 1048576 := (h4.2 _ (getD_mem l4 i [] (by omega))).2 _ (getD_mem _ q _ (by omega))
  have c1 : (q : Int) < 2 := by omega
  have c2 : (i : Int) < (l3.length : Int) := by omega
  have c3 : (q : Int) < ((l3.getD i []).length : Int) := by omega
  have c4 : (i : Int) < (l4.length : Int) := by omega
  have c5 : (q : Int) < ((l4.getD i []).length : Int) := by omega
  have hl := specList_ev ((l4.getD i []).getD q []) (a + 1) (l2.length : Int) hsm (by omega) (by omega)
  have u1 := up1 q (by omega)
  have f1 : wrap64 ((l2.length : Int) - 1) = (l2.length : Int) - 1 := by clear u1; exact w64 (by omega) (by omega)
  have f2 : wrap64 (a - 1) = a - 1 := by clear u1 f1; exact w64 (by omega) (by omega)
  have f3 : wrap64 (a + 1) = a + 1 := by clear u1 f1 f2; exact w64 (by omega) (by omega)
  have no : Ev (fun k => spec_l02Ok.j4 k (l2.length : Int) i q true a b l2 l3 l4 l5) false := by
    refine Ev.succ ?_
    simp only [spec_l02Ok.j4, if_true]
    exact Ev.now _
  refine Ev.succ ?_
  simp only [spec_l02Ok.l1, if_pos c1, if_pos (i0 i), if_pos c2, if_pos (i0 q), r3, r4, r5, r6, if_pos c3, in_eq, Option.bind_some, f1, f2, f3, if_pos c4, if_pos c5]
  unfold rowC inR
  by_cases q1 : 0 ≤ ((l3.getD i []).getD q z47).f0 ∧ ((l3.getD i []).getD q z47).f0 ≤ (l2.length : Int) - 1
  · rw [dT q1, Bool.true_and]
    simp only [if_true]
    by_cases q2 : 0 ≤ ((l3.getD i []).getD q z47).f1 ∧ ((l3.getD i []).getD q z47).f1 ≤ a - 1
    · rw [dT q2, Bool.true_and]
      simp only [if_true]
      refine Ev.bind hl ?_
      cases lst (l2.length : Int) (a + 1) ((l4.getD i []).getD q [])
      · exact no
      · refine Ev.succ ?_
        simp only [spec_l02Ok.j4, Bool.not_true, Bool.false_eq_true, if_false, u1, Bool.true_and]
        exact hR
    · rw [dF q2, Bool.false_and, Bool.false_and]
      simp only [Bool.false_eq_true, if_false]
      exact no
  · rw [dF q1, Bool.false_and, Bool.false_and]
    simp only [Bool.false_eq_true, if_false]
    exact no
theorem implRow_ev (i q : Nat) (hi : i < l2.length) (hq : q < 2) (g3 : (l3.getD i []).length = 2) (g4 : (l4.getD i []).length = 2) (R : Bool) (hR : Ev (fun k => impl_ValidChecker.l1 k i (l2.length : Int) i ((q + 1 : Nat) : Int) a b l2 l3 l4 l5) R) :
    Ev (fun k => impl_ValidChecker.l1 k i (l2.length : Int) i q a b l2 l3 l4 l5) (rowC a b l2 l3 l4 l5 i q && R) := by
  have r3 : Zd l3 (i : Int) = l3.getD i [] := by unfold Zd; rw [Int.toNat_natCast]
  have r4 : rd_L5 l4 (i : Int) = l4.getD i [] := by unfold rd_L5; rw [Int.toNat_natCast]
  have r5 : ∀ l : List (List Int), rd_L4 l (q : Int) = l.getD q [] := fun l => by unfold rd_L4; rw [Int.toNat_natCast]
  have r6 : ∀ l : List S47, Zb l (q : Int) = l.getD q z47 := fun l => by unfold Zb; rw [Int.toNat_natCast]
  have hsm : ((l4.getD i []).getD q []).length ≤ 1048576 := (h4.2 _ (getD_mem l4 i [] (by omega))).2 _ (getD_mem _ q _ (by omega))
  have c1 : (q : Int) < 2 := by omega
  have c2 : (i : Int) < (l3.length : Int) := by omega
  have c3 : (q : Int) < ((l3.getD i []).length : Int) := by omega
  have c4 : (i : Int) < (l4.length : Int) := by omega
  have c5 : (q : Int) < ((l4.getD i []).length : Int) := by omega
  have hb : l2.length ≤ 1048576 := by omega
  have hb0 : -1000000 ≤ a := by omega
  have hb1 : a ≤ 1000000 := by omega
  have hl := implList_ev a b l2 l3 l4 l5 ((l4.getD i []).getD q []) (a + 1) hsm hb
  have u1 := up1 q (by omega)
  have f3 : wrap64 (a + 1) = a + 1 := by clear u1; exact w64 (by omega) (by omega)
  refine Ev.succ ?_
  simp only [impl_ValidChecker.l1, if_pos c1, if_pos (i0 i), if_pos c2, if_pos (i0 q), r3, r4, r5, r6, if_pos c3, isState_eq a b l2 l3 l4 l5 _ hb, isMark_eq a b l2 l3 l4 l5 _ hb0 hb1, Option.bind_some, f3, if_pos c4, if_pos c5, u1]
  unfold rowC
  cases inR (l2.length : Int) ((l3.getD i []).getD q z47).f0
  · simp only [Bool.false_eq_true, if_false, Bool.false_and]
    exact Ev.now _
  · simp only [if_true, Bool.true_and]
    cases inR a ((l3.getD i []).getD q z47).f1
    · simp only [Bool.false_eq_true, if_false, Bool.false_and]
      exact Ev.now _
    · simp only [if_true, Bool.true_and]
      exact andEv hl hR
theorem specOk_l0 : ∀ i, i ≤ l2.length → Ev (fun k => spec_l02Ok.l0 k (l2.length : Int) i a b l2 l3 l4 l5) (allFromN l2.length (stC a b l2 l3 l4 l5) i) := by
  refine down l2.length ?_ ?_
  · refine Ev.succ ?_
    rw [allFromN_end]
    simp only [spec_l02Ok.l0, if_neg inlt]
    exact Ev.now _
  · intro i hi ih
    have r3 : Zd l3 (i : Int) = l3.getD i [] := by unfold Zd; rw [Int.toNat_natCast]
    have r4 : rd_L5 l4 (i : Int) = l4.getD i [] := by unfold rd_L5; rw [Int.toNat_natCast]
    have r5 : rd_L4 l5 (i : Int) = l5.getD i [] := by unfold rd_L4; rw [Int.toNat_natCast]
    have c1 : (i : Int) < (l3.length : Int) := by omega
    have c2 : (i : Int) < (l4.length : Int) := by omega
    have c3 : (i : Int) < (l5.length : Int) := by omega
    have hsm : (l5.getD i []).length ≤ 1048576 := h5.2 _ (getD_mem l5 i [] (by omega))
    have hl := specList_ev (l5.getD i []) 2 (l2.length : Int) hsm (by omega) (by omega)
    have no : Ev (fun k => spec_l02Ok.j2 k (l2.length : Int) i true a b l2 l3 l4 l5) false := by
      refine Ev.succ ?_
      simp only [spec_l02Ok.j2, if_true]
      exact Ev.now _
    rw [allFromN_step _ _ i hi]
    unfold stC
    refine Ev.succ ?_
    simp only [spec_l02Ok.l0, if_pos (ilt hi), if_pos (i0 i), if_pos c1, if_pos c2, if_pos c3, r3, r4, r5]
    by_cases g3 : (l3.getD i []).length = 2
    · rw [dT g3, Bool.true_and]
      simp only [if_pos (show ((l3.getD i []).length : Int) = 2 by omega)]
      by_cases g4 : (l4.getD i []).length = 2
      · rw [dT g4, Bool.true_and]
        simp only [if_pos (show ((l4.getD i []).length : Int) = 2 by omega)]
        refine Ev.bind hl ?_
        cases lst (l2.length : Int) 2 (l5.getD i [])
        · exact no
        · refine Ev.succ ?_
          simp only [spec_l02Ok.j2, Bool.not_true, Bool.false_eq_true, if_false, Bool.true_and]
          rw [Bool.and_assoc]
          refine specRow_ev a b l2 l3 l4 l5 hn ha0 ha1 h4 h5 e3 e4 e5 i 0 hi (by decide) g3 g4 _ (specRow_ev a b l2 l3 l4 l5 hn ha0 ha1 h4 h5 e3 e4 e5 i 1 hi (by decide) g3 g4 _ ?_)
          refine Ev.succ ?_
          simp only [spec_l02Ok.l1, show ¬ (((1 + 1 : Nat) : Int) < 2) by decide, if_false, up1 i (by omega)]
          exact ih
      · rw [dF g4, Bool.false_and, Bool.false_and]
        simp only [if_neg (show ¬ ((l4.getD i []).length : Int) = 2 by omega)]
        exact no
    · rw [dF g3, Bool.false_and, Bool.false_and]
      simp only [if_neg (show ¬ ((l3.getD i []).length : Int) = 2 by omega)]
      exact no
theorem implOk_l0 : ∀ i, i ≤ l2.length → Ev (fun k => impl_ValidChecker.l0 k (l2.length : Int) i a b l2 l3 l4 l5) (allFromN l2.length (stC a b l2 l3 l4 l5) i) := by
  refine down l2.length ?_ ?_
  · refine Ev.succ ?_
    rw [allFromN_end]
    simp only [impl_ValidChecker.l0, if_neg inlt]
    exact Ev.now _
  · intro i hi ih
    have r3 : Zd l3 (i : Int) = l3.getD i [] := by unfold Zd; rw [Int.toNat_natCast]
    have r4 : rd_L5 l4 (i : Int) = l4.getD i [] := by unfold rd_L5; rw [Int.toNat_natCast]
    have r5 : rd_L4 l5 (i : Int) = l5.getD i [] := by unfold rd_L4; rw [Int.toNat_natCast]
    have c1 : (i : Int) < (l3.length : Int) := by omega
    have c2 : (i : Int) < (l4.length : Int) := by omega
    have c3 : (i : Int) < (l5.length : Int) := by omega
    have hsm : (l5.getD i []).length ≤ 1048576 := h5.2 _ (getD_mem l5 i [] (by omega))
    have hl := implList_ev a b l2 l3 l4 l5 (l5.getD i []) 2 hsm (by omega)
    have no : Ev (fun k => impl_ValidChecker.j2 k i (l2.length : Int) i true a b l2 l3 l4 l5) false := by
      refine Ev.succ ?_
      simp only [impl_ValidChecker.j2, if_true]
      exact Ev.now _
    rw [allFromN_step _ _ i hi]
    unfold stC
    refine Ev.succ ?_
    simp only [impl_ValidChecker.l0, if_pos (ilt hi), if_pos (i0 i), if_pos c1, if_pos c2, if_pos c3, r3, r4, r5]
    by_cases g3 : (l3.getD i []).length = 2
    · rw [dT g3, Bool.true_and]
      simp only [if_pos (show ((l3.getD i []).length : Int) = 2 by omega)]
      by_cases g4 : (l4.getD i []).length = 2
      · rw [dT g4, Bool.true_and]
        simp only [if_pos (show ((l4.getD i []).length : Int) = 2 by omega)]
        refine Ev.bind hl ?_
        cases lst (l2.length : Int) 2 (l5.getD i [])
        · exact no
        · refine Ev.succ ?_
          simp only [impl_ValidChecker.j2, Bool.not_true, Bool.false_eq_true, if_false, Bool.true_and]
          rw [Bool.and_assoc]
          refine implRow_ev a b l2 l3 l4 l5 hn ha0 ha1 h4 h5 e3 e4 e5 i 0 hi (by decide) g3 g4 _ (implRow_ev a b l2 l3 l4 l5 hn ha0 ha1 h4 h5 e3 e4 e5 i 1 hi (by decide) g3 g4 _ ?_)
          refine Ev.succ ?_
          simp only [impl_ValidChecker.l1, show ¬ (((1 + 1 : Nat) : Int) < 2) by decide, if_false, up1 i (by omega)]
          exact ih
      · rw [dF g4, Bool.false_and, Bool.false_and]
        simp only [if_neg (show ¬ ((l4.getD i []).length : Int) = 2 by omega)]
        exact no
    · rw [dF g3, Bool.false_and, Bool.false_and]
      simp only [if_neg (show ¬ ((l3.getD i []).length : Int) = 2 by omega)]
      exact no
end
theorem specOkC_ev (a b : Int) (l2 : List Bool) (l3 : List (List S47)) (l4 : List (List (List Int))) (l5 : List (List Int)) (h4 : sm2 l4) (h5 : sm1 l5) : Ev (fun k => spec_l02Ok.f k a b l2 l3 l4 l5) (okC a b l2 l3 l4 l5) := by
  have no : Ev (fun k => spec_l02Ok.j0 k (l2.length : Int) true a b l2 l3 l4 l5) false := by
    refine Ev.succ ?_
    simp only [spec_l02Ok.j0, if_true]
    exact Ev.now _
  unfold spec_l02Ok.f okC
  simp only [in_eq, Option.bind_some]
  by_cases c1 : 1 ≤ (l2.length : Int) ∧ (l2.length : Int) ≤ 40
  · have f1 : wrap64 ((l2.length : Int) - 1) = (l2.length : Int) - 1 := w64 (by omega) (by omega)
    rw [dT c1, Bool.true_and]
    simp only [if_true, f1]
    clear f1
    by_cases c2 : 1 ≤ a ∧ a ≤ 80
    · rw [dT c2, Bool.true_and]
      simp only [if_true]
      unfold inR
      by_cases c3 : 0 ≤ b ∧ b ≤ (l2.length : Int) - 1
      · rw [dT c3, Bool.true_and]
        simp only [if_true]
        by_cases e3 : l3.length = l2.length
        · rw [dT e3, Bool.true_and]
          simp only [if_pos (show (l3.length : Int) = (l2.length : Int) by omega)]
          by_cases e4 : l4.length = l2.length
          · rw [dT e4, Bool.true_and]
            simp only [if_pos (show (l4.length : Int) = (l2.length : Int) by omega)]
            by_cases e5 : l5.length = l2.length
            · rw [dT e5, Bool.true_and, ← allFromN_zero]
              rw [show ((l5.length : Int) != (l2.length : Int)) = false by simp; omega]
              refine Ev.succ ?_
              simp only [spec_l02Ok.j0, Bool.false_eq_true, if_false]
              exact specOk_l0 a b l2 l3 l4 l5 (by omega) c2.1 c2.2 h4 h5 e3 e4 e5 0 (by omega)
            · rw [dF e5, Bool.false_and]
              rw [show ((l5.length : Int) != (l2.length : Int)) = true by simp; omega]
              exact no
          · rw [dF e4, Bool.false_and]
            simp only [if_neg (show ¬ (l4.length : Int) = (l2.length : Int) by omega)]
            exact no
        · rw [dF e3, Bool.false_and]
          simp only [if_neg (show ¬ (l3.length : Int) = (l2.length : Int) by omega)]
          exact no
      · rw [dF c3, Bool.false_and]
        simp only [Bool.false_eq_true, if_false]
        exact no
    · rw [dF c2, Bool.false_and]
      simp only [Bool.false_eq_true, if_false]
      exact no
  · rw [dF c1, Bool.false_and]
    simp only [Bool.false_eq_true, if_false]
    exact no
theorem implOkC_ev (a b : Int) (l2 : List Bool) (l3 : List (List S47)) (l4 : List (List (List Int))) (l5 : List (List Int)) (h2 : sm0 l2) (h4 : sm2 l4) (h5 : sm1 l5) : Ev (fun k => impl_ValidChecker.f k a b l2 l3 l4 l5) (okC a b l2 l3 l4 l5) := by
  have no : Ev (fun k => impl_ValidChecker.j0 k (l2.length : Int) true a b l2 l3 l4 l5) false := by
    refine Ev.succ ?_
    simp only [impl_ValidChecker.j0, if_true]
    exact Ev.now _
  have hb : l2.length ≤ 1048576 := h2
  unfold impl_ValidChecker.f okC impl_size_bool.f impl_size_Limpl_Push.f impl_size_LLint64.f impl_size_Lint64.f
  simp only [within_eq, Option.bind_some, isState_eq a b l2 l3 l4 l5 _ hb]
  by_cases c1 : 1 ≤ (l2.length : Int) ∧ (l2.length : Int) ≤ 40
  · rw [dT c1, Bool.true_and]
    simp only [if_true]
    by_cases c2 : 1 ≤ a ∧ a ≤ 80
    · rw [dT c2, Bool.true_and]
      simp only [if_true]
      cases inR (l2.length : Int) b
      · rw [Bool.false_and]
        simp only [Bool.false_eq_true, if_false]
        exact no
      · rw [Bool.true_and]
        simp only [if_true]
        by_cases e3 : l3.length = l2.length
        · rw [dT e3, Bool.true_and]
          simp only [if_pos (show (l3.length : Int) = (l2.length : Int) by omega)]
          by_cases e4 : l4.length = l2.length
          · rw [dT e4, Bool.true_and]
            simp only [if_pos (show (l4.length : Int) = (l2.length : Int) by omega)]
            by_cases e5 : l5.length = l2.length
            · rw [dT e5, Bool.true_and, ← allFromN_zero]
              rw [show ((l5.length : Int) != (l2.length : Int)) = false by simp; omega]
              refine Ev.succ ?_
              simp only [impl_ValidChecker.j0, Bool.false_eq_true, if_false]
              exact implOk_l0 a b l2 l3 l4 l5 (by omega) c2.1 c2.2 h4 h5 e3 e4 e5 0 (by omega)
            · rw [dF e5, Bool.false_and]
              rw [show ((l5.length : Int) != (l2.length : Int)) = true by simp; omega]
              exact no
          · rw [dF e4, Bool.false_and]
            simp only [if_neg (show ¬ (l4.length : Int) = (l2.length : Int) by omega)]
            exact no
        · rw [dF e3, Bool.false_and]
          simp only [if_neg (show ¬ (l3.length : Int) = (l2.length : Int) by omega)]
          exact no
    · rw [dF c2, Bool.false_and]
      simp only [Bool.false_eq_true, if_false]
      exact no
  · rw [dF c1, Bool.false_and]
    simp only [Bool.false_eq_true, if_false]
    exact no
end Go.Proofs.Ytepkfigcnnfoaaa.Br
namespace Go.Proofs.Ytepkfigcnnfoaaa.Br
open Go.RowKit Go.Proofs.Ytepkfigcnnfoaaa.P Go.Proofs.YtepkfigcnnfoaaaW.PrintWords Go.Proofs.YtepkfigcnnfoaaaW.PrintLast Go.Proofs.YtepkfigcnnfoaaaW.PrintMore Go.Proofs.Ytepkfigcnnfoaaa.Th
theorem getD_map_range {α : Type} (f : Nat → α) (n i : Nat) (d : α) (h : i < n) : ((List.range n).map f).getD i d = f i := by
  rw [List.getD_eq_getElem?_getD, List.getElem?_map, List.getElem?_range h]; rfl
theorem inR_true {n x : Int} (h : 0 ≤ x ∧ x ≤ n - 1) : inR n x = true := dT h
theorem lst2 {n x y : Int} (hx : 0 ≤ x ∧ x ≤ n - 1) (hy : 0 ≤ y ∧ y ≤ n - 1) : lst n 2 [x, y] = true := by
  unfold lst
  rw [dT (by rfl), Bool.true_and]
  refine allN_true fun i hi => inR_true ?_
  have : i = 0 ∨ i = 1 := by simp only [List.length_cons, List.length_nil] at hi; omega
  rcases this with rfl | rfl
  · exact hx
  · exact hy
theorem lst_row {n : Int} (kk : Nat) (f : Nat → Int) (h : ∀ z, z < kk + 1 → 0 ≤ f z ∧ f z ≤ n - 1) : lst n ((kk : Int) + 1) ((List.range (kk + 1)).map f) = true := by
  unfold lst
  rw [dT (by rw [List.length_map, List.length_range]; omega), Bool.true_and, List.length_map, List.length_range]
  refine allN_true fun i hi => inR_true ?_
  rw [getD_map_range _ _ _ _ hi]
  exact h i hi
/-- a checker of N states and kk marks whose entries are all in range is right just where N and kk are within the limits -/
theorem okC_made (N kk : Nat) (st : Int) (acc : Nat → Bool) (call : Nat → Nat → S47) (back : Nat → Nat → Nat → Int) (inner : Nat → Nat → Int) (hN : 1 ≤ N) (hk : 1 ≤ kk) (hst : 0 ≤ st ∧ st ≤ (N : Int) - 1)
    (hc : ∀ i q, i < N → q < 2 → (0 ≤ (call i q).f0 ∧ (call i q).f0 ≤ (N : Int) - 1) ∧ (0 ≤ (call i q).f1 ∧ (call i q).f1 ≤ (kk : Int) - 1))
    (hb : ∀ i q z, i < N → q < 2 → z < kk + 1 → 0 ≤ back i q z ∧ back i q z ≤ (N : Int) - 1)
    (hi : ∀ i q, i < N → q < 2 → 0 ≤ inner i q ∧ inner i q ≤ (N : Int) - 1) :
    okC (kk : Int) st ((List.range N).map acc) ((List.range N).map fun i => [call i 0, call i 1]) ((List.range N).map fun i => [(List.range (kk + 1)).map (back i 0), (List.range (kk + 1)).map (back i 1)]) ((List.range N).map fun i => [inner i 0, inner i 1]) = (decide (N ≤ 40) && decide (kk ≤ 80)) := by
  unfold okC
  simp only [List.length_map, List.length_range]
  have e1 : decide (1 ≤ (N : Int) ∧ (N : Int) ≤ 40) = decide (N ≤ 40) := by apply decide_eq_decide.2; omega
  have e2 : decide (1 ≤ (kk : Int) ∧ (kk : Int) ≤ 80) = decide (kk ≤ 80) := by apply decide_eq_decide.2; omega
  have e3 : inR (N : Int) st = true := inR_true hst
  rw [e1, e2, e3, allN_true (n := N)]
  · simp
  · intro i h
    unfold stC rowC
    simp only [getD_map_range _ _ _ _ h, List.length_map, List.length_range]
    have r0 := lst_row kk (back i 0) (fun z hz => hb i 0 z h (by omega) hz)
    have r1 := lst_row kk (back i 1) (fun z hz => hb i 1 z h (by omega) hz)
    have s := lst2 (hi i 0 h (by omega)) (hi i 1 h (by omega))
    have c0 := hc i 0 h (by omega)
    have c1 := hc i 1 h (by omega)
    simp only [List.getD_cons_zero, List.getD_cons_succ, List.length_cons, List.length_nil, s, r0, r1, inR_true c0.1, inR_true c0.2, inR_true c1.1, inR_true c1.2]
    rfl
theorem bw' (x : Int) (h0 : 0 ≤ x) (h1 : x ≤ 1000000) : wrap64 x = x := by unfold wrap64; omega
theorem pair_lt {x y n n' : Nat} (hx : x < n) (hy : y < n') : x * n' + y < n * n' := by
  have h := Nat.mul_le_mul_right n' (show x + 1 ≤ n by omega)
  rw [Nat.succ_mul] at h
  omega
theorem pair_in {x y : Int} {n n' : Nat} (hx : 0 ≤ x ∧ x ≤ (n : Int) - 1) (hy : 0 ≤ y ∧ y ≤ (n' : Int) - 1) (hn : n ≤ 80) (hn' : n' ≤ 80) : 0 ≤ wrap64 (wrap64 (x * (n' : Int)) + y) ∧ wrap64 (wrap64 (x * (n' : Int)) + y) ≤ ((n * n' : Nat) : Int) - 1 := by
  obtain ⟨u, rfl⟩ := Int.eq_ofNat_of_zero_le hx.1
  obtain ⟨v, rfl⟩ := Int.eq_ofNat_of_zero_le hy.1
  have h := pair_lt (x := u) (y := v) (n := n) (n' := n') (by omega) (by omega)
  have h2 := Nat.mul_le_mul hn hn'
  rw [← Int.natCast_mul, bw' ((u * n' : Nat) : Int) (by omega) (by omega), ← Int.natCast_add, bw' ((u * n' + v : Nat) : Int) (by omega) (by omega)]
  omega
theorem lst_parts {n len : Int} {l : List Int} (h : lst n len l = true) : (l.length : Int) = len ∧ ∀ z, z < l.length → 0 ≤ l.getD z 0 ∧ l.getD z 0 ≤ n - 1 := by
  unfold lst allN at h
  rw [Bool.and_eq_true, decide_eq_true_eq, List.all_eq_true] at h
  exact ⟨h.1, fun z hz => oT (h.2 z (List.mem_range.2 hz))⟩
theorem okC_parts {a b : Int} {l2 : List Bool} {l3 : List (List S47)} {l4 : List (List (List Int))} {l5 : List (List Int)} (h : okC a b l2 l3 l4 l5 = true) : (1 ≤ (l2.length : Int) ∧ (l2.length : Int) ≤ 40) ∧ (1 ≤ a ∧ a ≤ 80) ∧ (0 ≤ b ∧ b ≤ (l2.length : Int) - 1) ∧ l3.length = l2.length ∧ l4.length = l2.length ∧ l5.length = l2.length ∧ ∀ i, i < l2.length → stC a b l2 l3 l4 l5 i = true := by
  unfold okC inR allN at h
  simp only [Bool.and_eq_true, decide_eq_true_eq, List.all_eq_true, List.mem_range] at h
  exact h
theorem stC_parts {a b : Int} {l2 : List Bool} {l3 : List (List S47)} {l4 : List (List (List Int))} {l5 : List (List Int)} {i : Nat} (h : stC a b l2 l3 l4 l5 i = true) (q : Nat) (hq : q < 2) : ((l3.getD i []).length = 2 ∧ (l4.getD i []).length = 2 ∧ (l5.getD i []).length = 2) ∧ (0 ≤ ((l3.getD i []).getD q z47).f0 ∧ ((l3.getD i []).getD q z47).f0 ≤ (l2.length : Int) - 1) ∧ (0 ≤ ((l3.getD i []).getD q z47).f1 ∧ ((l3.getD i []).getD q z47).f1 ≤ a - 1) ∧ ((((l4.getD i []).getD q []).length : Int) = a + 1 ∧ ∀ z, z < ((l4.getD i []).getD q []).length → 0 ≤ ((l4.getD i []).getD q []).getD z 0 ∧ ((l4.getD i []).getD q []).getD z 0 ≤ (l2.length : Int) - 1) ∧ (0 ≤ (l5.getD i []).getD q 0 ∧ (l5.getD i []).getD q 0 ≤ (l2.length : Int) - 1) := by
  unfold stC at h
  simp only [Bool.and_eq_true, decide_eq_true_eq] at h
  obtain ⟨h3, h4, h5, r0, r1⟩ := h
  have H5 := lst_parts h5
  have L5 : (l5.getD i []).length = 2 := by have := H5.1; omega
  have hr : rowC a b l2 l3 l4 l5 i q = true := by
    have : q = 0 ∨ q = 1 := by omega
    rcases this with rfl | rfl
    · exact r0
    · exact r1
  unfold rowC inR at hr
  simp only [Bool.and_eq_true, decide_eq_true_eq] at hr
  exact ⟨⟨h3, h4, L5⟩, hr.1, hr.2.1, lst_parts hr.2.2, H5.2 q (by omega)⟩
/-- the checker of pairs of two right checkers is right just where it is within the limits -/
theorem okC_pairs {mn mm : Nat} {st st' : Int} {l2 p2 : List Bool} {l3 p3 : List (List S47)} {l4 p4 : List (List (List Int))} {l5 p5 : List (List Int)} (h : okC (mn : Int) st l2 l3 l4 l5 = true) (h' : okC (mm : Int) st' p2 p3 p4 p5 = true) (acc : Nat → Bool) (call : Nat → Nat → S47) (back : Nat → Nat → Nat → Int) (inner : Nat → Nat → Int)
    (hcall : ∀ i q, call i q = ⟨wrap64 (wrap64 ((Zb (Zd l3 ((i / p2.length : Nat) : Int)) (q : Int)).f0 * (p2.length : Int)) + (Zb (Zd p3 ((i % p2.length : Nat) : Int)) (q : Int)).f0), wrap64 (wrap64 ((Zb (Zd l3 ((i / p2.length : Nat) : Int)) (q : Int)).f1 * (mm : Int)) + (Zb (Zd p3 ((i % p2.length : Nat) : Int)) (q : Int)).f1)⟩)
    (hback : ∀ i q z, back i q z = wrap64 (wrap64 (rd (rd_L4 (rd_L5 l4 ((i / p2.length : Nat) : Int)) (q : Int)) ((if z = mn * mm then mn else z / mm : Nat) : Int) * (p2.length : Int)) + rd (rd_L4 (rd_L5 p4 ((i % p2.length : Nat) : Int)) (q : Int)) ((if z = mn * mm then mm else z % mm : Nat) : Int)))
    (hinner : ∀ i q, inner i q = wrap64 (wrap64 (rd (rd_L4 l5 ((i / p2.length : Nat) : Int)) (q : Int) * (p2.length : Int)) + rd (rd_L4 p5 ((i % p2.length : Nat) : Int)) (q : Int))) :
    okC ((mn * mm : Nat) : Int) (wrap64 (wrap64 (st * (p2.length : Int)) + st')) ((List.range (l2.length * p2.length)).map acc) ((List.range (l2.length * p2.length)).map fun i => [call i 0, call i 1]) ((List.range (l2.length * p2.length)).map fun i => [(List.range (mn * mm + 1)).map (back i 0), (List.range (mn * mm + 1)).map (back i 1)]) ((List.range (l2.length * p2.length)).map fun i => [inner i 0, inner i 1]) = (decide (l2.length * p2.length ≤ 40) && decide (mn * mm ≤ 80)) := by
  obtain ⟨n1, a1, s1, -, -, -, t1⟩ := okC_parts h
  obtain ⟨n2, a2, s2, -, -, -, t2⟩ := okC_parts h'
  have N1 : 1 ≤ l2.length * p2.length := Nat.mul_pos (by omega) (by omega)
  have N2 : 1 ≤ mn * mm := Nat.mul_pos (by omega) (by omega)
  have at_ : ∀ i, i < l2.length * p2.length → i / p2.length < l2.length ∧ i % p2.length < p2.length := fun i hi => ⟨Nat.div_lt_of_lt_mul (by rw [Nat.mul_comm]; exact hi), Nat.mod_lt _ (by omega)⟩
  refine okC_made _ _ _ acc call back inner N1 N2 (pair_in s1 s2 (by omega) (by omega)) ?_ ?_ ?_
  · intro i q hi hq
    obtain ⟨-, u0, u1, -⟩ := stC_parts (t1 _ (at_ i hi).1) q hq
    obtain ⟨-, v0, v1, -⟩ := stC_parts (t2 _ (at_ i hi).2) q hq
    rw [hcall]
    unfold Zb Zd
    simp only [Int.toNat_natCast]
    exact ⟨pair_in u0 v0 (by omega) (by omega), pair_in u1 v1 (by omega) (by omega)⟩
  · intro i q z hi hq hz
    obtain ⟨-, -, -, u, -⟩ := stC_parts (t1 _ (at_ i hi).1) q hq
    obtain ⟨-, -, -, v, -⟩ := stC_parts (t2 _ (at_ i hi).2) q hq
    rw [hback]
    unfold rd rd_L4 rd_L5
    simp only [Int.toNat_natCast]
    refine pair_in (u.2 _ ?_) (v.2 _ ?_) (by omega) (by omega)
    · have := u.1
      split
      · omega
      · have : z / mm < mn := Nat.div_lt_of_lt_mul (by rw [Nat.mul_comm]; omega)
        omega
    · have := v.1
      split
      · omega
      · have : z % mm < mm := Nat.mod_lt _ (by omega)
        omega
  · intro i q hi hq
    obtain ⟨-, -, -, -, u⟩ := stC_parts (t1 _ (at_ i hi).1) q hq
    obtain ⟨-, -, -, -, v⟩ := stC_parts (t2 _ (at_ i hi).2) q hq
    rw [hinner]
    unfold rd rd_L4
    simp only [Int.toNat_natCast]
    exact pair_in u v (by omega) (by omega)
theorem pairs_small {mn mm : Nat} {st st' : Int} {l2 p2 : List Bool} {l3 p3 : List (List S47)} {l4 p4 : List (List (List Int))} {l5 p5 : List (List Int)} (h : okC (mn : Int) st l2 l3 l4 l5 = true) (h' : okC (mm : Int) st' p2 p3 p4 p5 = true) (back : Nat → Nat → Nat → Int) (inner : Nat → Nat → Int) : sm2 ((List.range (l2.length * p2.length)).map fun i => [(List.range (mn * mm + 1)).map (back i 0), (List.range (mn * mm + 1)).map (back i 1)]) ∧ sm1 ((List.range (l2.length * p2.length)).map fun i => [inner i 0, inner i 1]) := by
  obtain ⟨n1, a1, -⟩ := okC_parts h
  obtain ⟨n2, a2, -⟩ := okC_parts h'
  have e1 : l2.length * p2.length ≤ 40 * 40 := Nat.mul_le_mul (by omega) (by omega)
  have e2 : mn * mm ≤ 80 * 80 := Nat.mul_le_mul (by omega) (by omega)
  refine ⟨⟨?_, fun x hx => ?_⟩, ⟨?_, fun x hx => ?_⟩⟩
  · rw [List.length_map, List.length_range]; omega
  · obtain ⟨i, -, rfl⟩ := List.mem_map.1 hx
    refine ⟨?_, fun y hy => ?_⟩
    · simp only [List.length_cons, List.length_nil]; omega
    · simp only [List.mem_cons, List.not_mem_nil, or_false] at hy
      unfold sm0
      rcases hy with rfl | rfl <;> (rw [List.length_map, List.length_range]; omega)
  · rw [List.length_map, List.length_range]; omega
  · obtain ⟨i, -, rfl⟩ := List.mem_map.1 hx
    unfold sm0
    simp only [List.length_cons, List.length_nil]; omega
end Go.Proofs.Ytepkfigcnnfoaaa.Br
namespace Go.Proofs.Ytepkfigcnnfoaaa.Pure
open Go.RowKit Go.Proofs.Ytepkfigcnnfoaaa.P Go.Proofs.YtepkfigcnnfoaaaW.PrintWords Go.Proofs.YtepkfigcnnfoaaaW.PrintLast Go.Proofs.YtepkfigcnnfoaaaW.PrintMore Go.Proofs.Ytepkfigcnnfoaaa.Br Go.Proofs.Ytepkfigcnnfoaaa.Th

theorem sm1_map {α β : Type} (f : α → β) (l : List (List α)) (h : sm1 l) : sm1 (l.map (List.map f)) := by
  refine ⟨by simpa using h.1, fun x hx => ?_⟩
  obtain ⟨y, hy, rfl⟩ := List.mem_map.1 hx
  have := h.2 y hy
  unfold sm0 at this ⊢
  simpa using this
/-- what is known of one checker that came in -/
structure CF (K : Nat) (a b : Int) (l2 : List Bool) (l3 : List (List S101)) (l4 : List (List (List Int))) (l5 : List (List Int)) : Prop where
  toB : laws_toBoolS.f K l2 = some l2
  toP : laws_toPushSS.f K l3 = some (l3.map (List.map cPush))
  toR : laws_toInt64SSS.f K l4 = some l4
  toI : laws_toInt64SS.f K l5 = some l5
  specOk : spec_l02Ok.f K a b l2 (l3.map (List.map cPush)) l4 l5 = some (Br.okC a b l2 (l3.map (List.map cPush)) l4 l5)
  implOk : impl_ValidChecker.f K a b l2 (l3.map (List.map cPush)) l4 l5 = some (Br.okC a b l2 (l3.map (List.map cPush)) l4 l5)
  eq : laws_eqChecker.f K a b l2 (l3.map (List.map cPush)) l4 l5 a b l2 (l3.map (List.map cPush)) l4 l5 = some true
theorem cf (a b : Int) (l2 : List Bool) (l3 : List (List S101)) (l4 : List (List (List Int))) (l5 : List (List Int)) (h2 : sm0 l2) (h3 : sm1 l3) (h4 : sm2 l4) (h5 : sm1 l5) : ∃ n, ∀ K, n ≤ K → CF K a b l2 l3 l4 l5 := by
  have h3' := sm1_map cPush l3 h3
  obtain ⟨n0, e0⟩ := laws_toBoolS_ev l2 h2
  obtain ⟨n1, e1⟩ := laws_toPushSS_ev l3 h3
  obtain ⟨n2, e2⟩ := laws_toInt64SSS_ev l4 h4
  obtain ⟨n3, e3⟩ := laws_toInt64SS_ev l5 h5
  obtain ⟨n4, e4⟩ := specOkC_ev a b l2 (l3.map (List.map cPush)) l4 l5 h4 h5
  obtain ⟨n5, e5⟩ := implOkC_ev a b l2 (l3.map (List.map cPush)) l4 l5 h2 h4 h5
  obtain ⟨n6, e6⟩ := laws_eqChecker_ev a b l2 _ l4 l5 h2 h3' h4 h5
  exact ⟨n0 + n1 + n2 + n3 + n4 + n5 + n6, fun K hK => ⟨e0 _ (by omega), e1 _ (by omega), e2 _ (by omega), e3 _ (by omega), e4 _ (by omega), e5 _ (by omega), e6 _ (by omega)⟩⟩
/-- what is known of the checker that is answered -/
theorem cg (a b : Int) (l2 : List Bool) (l3 : List (List S47)) (l4 : List (List (List Int))) (l5 : List (List Int)) (h2 : sm0 l2) (h3 : sm1 l3) (h4 : sm2 l4) (h5 : sm1 l5) : ∃ n, ∀ K, n ≤ K → spec_l02Ok.f K a b l2 l3 l4 l5 = some (Br.okC a b l2 l3 l4 l5) ∧ laws_eqChecker.f K a b l2 l3 l4 l5 a b l2 l3 l4 l5 = some true := by
  obtain ⟨n4, e4⟩ := specOkC_ev a b l2 l3 l4 l5 h4 h5
  obtain ⟨n6, e6⟩ := laws_eqChecker_ev a b l2 _ l4 l5 h2 h3 h4 h5
  exact ⟨n4 + n6, fun K hK => ⟨e4 _ (by omega), e6 _ (by omega)⟩⟩
/-- two checkers' sizes within one bound -/
theorem facts_sz2 (a b : Int) (l2 : List Bool) (l3 : List (List S101)) (l4 : List (List (List Int))) (l5 : List (List Int)) (z : Int) (hz0 : 0 ≤ z) (hz1 : z ≤ 1048576)
    (h2 : l2.length ≤ 9223372036854775807) (h3 : l3.length ≤ 9223372036854775807 ∧ ∀ x ∈ l3, x.length ≤ 9223372036854775807)
    (h4 : l4.length ≤ 9223372036854775807 ∧ ∀ x ∈ l4, (x.length ≤ 9223372036854775807 ∧ ∀ y ∈ x, y.length ≤ 9223372036854775807)) (h5 : l5.length ≤ 9223372036854775807 ∧ ∀ x ∈ l5, x.length ≤ 9223372036854775807) :
    ∃ r n, (∀ K, n ≤ K → laws_szChecker.f K a b l2 l3 l4 l5 z = some r) ∧ (r < 0 ∨ (0 ≤ r ∧ r ≤ 1048576 ∧ sm0 l2 ∧ sm1 l3 ∧ sm2 l4 ∧ sm1 l5)) := by
  obtain ⟨r, ⟨n, e⟩, h⟩ := laws_szChecker_ev a b l2 l3 l4 l5 z (by omega) (by omega) h2 h3 h4 h5
  exact ⟨r, n, e, h.imp_right (fun h => ⟨by omega, by omega, h.2.2⟩)⟩
/-- What a right checker's rows are like. -/
theorem shape (a b : Int) (l2 : List Bool) (l3 : List (List S47)) (l4 : List (List (List Int))) (l5 : List (List Int)) (h : Br.okC a b l2 l3 l4 l5 = true) :
    (l2.length ≤ 40 ∧ 1 ≤ a ∧ a ≤ 80) ∧ l3.length = l2.length ∧ (∀ x ∈ l3, x.length = 2) ∧ l4.length = l2.length ∧ (∀ x ∈ l4, x.length = 2 ∧ ∀ y ∈ x, (y.length : Int) = a + 1) ∧ l5.length = l2.length ∧ ∀ x ∈ l5, x.length = 2 := by
  unfold Br.okC at h
  simp only [Bool.and_eq_true, decide_eq_true_eq] at h
  obtain ⟨⟨_, hn⟩, ⟨ha0, ha1⟩, _, e3, e4, e5, hall⟩ := h
  have hst : ∀ i, i < l2.length → stC a b l2 l3 l4 l5 i = true := fun i hi => List.all_eq_true.1 hall i (List.mem_range.2 hi)
  have at_ : ∀ {α : Type} (l : List α) (d : α) (x : α), x ∈ l → ∃ i, i < l.length ∧ l.getD i d = x := by
    intro α l d x hx
    obtain ⟨i, hi, e⟩ := List.mem_iff_getElem.1 hx
    exact ⟨i, hi, by rw [List.getD_eq_getElem?_getD, List.getElem?_eq_getElem hi]; exact e⟩
  refine ⟨⟨by omega, ha0, ha1⟩, e3, fun x hx => ?_, e4, fun x hx => ?_, e5, fun x hx => ?_⟩
  · obtain ⟨i, hi, rfl⟩ := at_ l3 [] x hx
    have := hst i (by omega)
    unfold stC at this
    simp only [Bool.and_eq_true, decide_eq_true_eq] at this
    exact this.1
  · obtain ⟨i, hi, rfl⟩ := at_ l4 [] x hx
    have := hst i (by omega)
    unfold stC rowC lst at this
    simp only [Bool.and_eq_true, decide_eq_true_eq] at this
    obtain ⟨_, g4, _, ⟨_, _, r0, _⟩, _, _, r1, _⟩ := this
    refine ⟨g4, fun y hy => ?_⟩
    obtain ⟨q, hq, rfl⟩ := at_ _ [] y hy
    rcases (by omega : q = 0 ∨ q = 1) with rfl | rfl
    · exact r0
    · exact r1
  · obtain ⟨i, hi, rfl⟩ := at_ l5 [] x hx
    have := hst i (by omega)
    unfold stC lst at this
    simp only [Bool.and_eq_true, decide_eq_true_eq] at this
    have := this.2.2.1.1
    omega
end Go.Proofs.Ytepkfigcnnfoaaa.Pure
namespace Go.Proofs.Ytepkfigcnnfoaaa.P
open Go.RowKit Go.Proofs.YtepkfigcnnfoaaaW.PrintWords Go.Proofs.YtepkfigcnnfoaaaW.PrintLast Go.Proofs.YtepkfigcnnfoaaaW.PrintMore Go.Proofs.Ytepkfigcnnfoaaa.Deep
theorem tot_bound {α : Type} (sz : α → Nat) (B : Nat) : ∀ xs : List α, (∀ x ∈ xs, sz x ≤ B) → tot sz xs ≤ xs.length * B
 | [], _ => by simp [tot]
 | x :: xs, h => by
  have h1 := h x (List.mem_cons_self ..)
  have h2 := tot_bound sz B xs (fun y hy => h y (List.mem_cons_of_mem _ hy))
  simp only [tot, List.length_cons, Nat.succ_mul]
  omega
open Go.Proofs.Ytepkfigcnnfoaaa.Br in
theorem ok_of (l2 : List Bool) (l3 : List (List S47)) (l4 : List (List (List Int))) (l5 : List (List Int)) (h2 : sm0 l2) (h3 : sm1 l3) (h4 : sm2 l4) (h5 : sm1 l5) : P.okC l2 l3 l4 l5 := by
 have b3 : tot szP l3 ≤ l3.length * 2097152 := tot_bound szP _ l3 (fun x hx => by have : x.length ≤ 1048576 := h3.2 x hx; unfold szP; omega)
 have q1 : ∀ x : List (List Int), sm1 x → szII x ≤ 1099511627776 := fun x hx => by
  have h := tot_bound szI 1048576 x (fun y hy => hx.2 y hy)
  have : x.length ≤ 1048576 := hx.1
  have h9 := Nat.mul_le_mul_right 1048576 this
  show tot szI x ≤ _
  omega
 have b4 : tot szII l4 ≤ l4.length * 1099511627776 := tot_bound szII _ l4 (fun x hx => q1 x (h4.2 x hx))
 have b5 := q1 l5 h5
 have n2 : l2.length ≤ 1048576 := h2
 have n3 : l3.length ≤ 1048576 := h3.1
 have n4 : l4.length ≤ 1048576 := h4.1
 have m3 := Nat.mul_le_mul_right 2097152 n3
 have m4 := Nat.mul_le_mul_right 1099511627776 n4
 exact ⟨n2, n3, fun x hx => h3.2 x hx, n4, fun x hx => ⟨(h4.2 x hx).1, fun y hy => (h4.2 x hx).2 y hy⟩, ⟨h5.1, fun y hy => h5.2 y hy⟩, by omega⟩
theorem ok_nil : okC [] [] [] [] := ⟨by decide, by decide, fun _ h => (by cases h), by decide, fun _ h => (by cases h), ⟨by decide, fun _ h => (by cases h)⟩, by decide⟩
open Go.Proofs.Ytepkfigcnnfoaaa.Br in
theorem nu_small (l2 : List Bool) (l3 : List (List S47)) (l4 : List (List (List Int))) (l5 : List (List Int)) (h2 : sm0 l2) (h3 : sm1 l3) (h4 : sm2 l4) (h5 : sm1 l5) : nuE 1 l2 l3 l4 l5 ≤ 2305843009213693952 := by
 obtain ⟨q2, q3, -, q4, -, -, q⟩ := ok_of l2 l3 l4 l5 h2 h3 h4 h5
 have b3 : tot szP l3 ≤ l3.length * 2097152 := tot_bound szP _ l3 (fun x hx => by have : x.length ≤ 1048576 := h3.2 x hx; unfold szP; omega)
 have r1 : ∀ x : List (List Int), sm1 x → szII x ≤ 1099511627776 := fun x hx => by
  have h := tot_bound szI 1048576 x (fun y hy => hx.2 y hy)
  have : x.length ≤ 1048576 := hx.1
  have h9 := Nat.mul_le_mul_right 1048576 this
  show tot szI x ≤ _
  omega
 have b4 : tot szII l4 ≤ l4.length * 1099511627776 := tot_bound szII _ l4 (fun x hx => r1 x (h4.2 x hx))
 have b5 := r1 l5 h5
 have n2 : l2.length ≤ 1048576 := h2
 have n3 : l3.length ≤ 1048576 := h3.1
 have n4 : l4.length ≤ 1048576 := h4.1
 have m3 := Nat.mul_le_mul_right 2097152 n3
 have m4 := Nat.mul_le_mul_right 1099511627776 n4
 unfold nuE nuI nuR nuC
 omega
theorem reads_ch {W : World} {vA vC vR vI : Value} {l2 : List Bool} {l3 : List (List S47)} {l4 : List (List (List Int))} {l5 : List (List Int)} (h : Reads W vA vC vR vI l2 l3 l4 l5) : ∃ A2 c2 A3 c3 A4 c4 A5 c5, vA = .slice A2 l2.length c2 ∧ vC = .slice A3 l3.length c3 ∧ vR = .slice A4 l4.length c4 ∧ vI = .slice A5 l5.length c5 ∧ CH W A2 c2 l2 A3 c3 l3 A4 c4 l4 A5 c5 l5 := by
 obtain ⟨⟨A0, c0, rfl, l0, g0⟩, ⟨A1, c1, rfl, l1, g1⟩, ⟨B2, d2, rfl, r2, p2⟩, ⟨B3, d3, rfl, r3, p3⟩⟩ := h
 exact ⟨A0, c0, A1, c1, B2, d2, B3, d3, rfl, rfl, rfl, rfl, ⟨g0, l0, g1, l1, p2, r2, p3, r3⟩⟩
theorem sh_of (mn : Nat) (st : Int) (l2 : List Bool) (l3 : List (List S47)) (l4 : List (List (List Int))) (l5 : List (List Int)) (h : Br.okC (mn : Int) st l2 l3 l4 l5 = true) : Sh mn l2 l3 l4 l5 := by
 obtain ⟨⟨q1, q2, q3⟩, t3, u3, t4, u4, t5, u5⟩ := Pure.shape (mn : Int) st l2 l3 l4 l5 h
 exact ⟨by omega, q1, t3, u3, t4, fun x hx => ⟨(u4 x hx).1, fun y hy => by have := (u4 x hx).2 y hy; omega⟩, t5, u5⟩
theorem some_of {α : Type} {d : Kd α} {w : World} {A : Option Addr} {n : Nat} {xs : List α} (h : Kd.C d w A n xs) (hn : 0 < n) : ∃ a, A = some a := by
 obtain ⟨a, e, -⟩ := h.2.2 hn
 exact ⟨a, e⟩
theorem wmul (x y : Nat) (hx : x ≤ 80) (hy : y ≤ 80) : wrap64 ((x : Int) * (y : Int)) = ((x * y : Nat) : Int) := by
 have h := Nat.mul_le_mul hx hy
 rw [← Int.natCast_mul]
 exact Br.bw' _ (by omega) (by omega)
namespace Eith
theorem small4 (mn mm : Nat) (st st' : Int) (l2 : List Bool) (l3 : List (List S47)) (l4 : List (List (List Int))) (l5 : List (List Int)) (p2 : List Bool) (p3 : List (List S47)) (p4 : List (List (List Int))) (p5 : List (List Int)) (h : Br.okC (mn : Int) st l2 l3 l4 l5 = true) (h' : Br.okC (mm : Int) st' p2 p3 p4 p5 = true) : Br.sm0 (LAs (pacc p2.length l2 p2) (l2.length * p2.length)) ∧ Br.sm1 (LCs (pcall p2.length mm l3 p3) (l2.length * p2.length)) ∧ Br.sm2 (LRs (mn * mm) (pback p2.length mn mm l4 p4) (l2.length * p2.length)) ∧ Br.sm1 (LIs (pinner p2.length l5 p5) (l2.length * p2.length)) := by
 have hp := Br.pairs_small h h' (pback p2.length mn mm l4 p4) (pinner p2.length l5 p5)
 obtain ⟨n1, -⟩ := Br.okC_parts h
 obtain ⟨n2, -⟩ := Br.okC_parts h'
 have e1 : l2.length * p2.length ≤ 40 * 40 := Nat.mul_le_mul (by omega) (by omega)
 refine ⟨?_, ⟨?_, fun x hx => ?_⟩, hp.1, hp.2⟩
 ·show ((List.range _).map _).length ≤ 1048576
  rw [List.length_map, List.length_range]; omega
 ·show ((List.range _).map _).length ≤ 1048576
  rw [List.length_map, List.length_range]; omega
 ·obtain ⟨i, -, rfl⟩ := List.mem_map.1 hx
  show ([_, _] : List S47).length ≤ 1048576
  simp only [List.length_cons, List.length_nil]; omega
theorem spec_two (K : Nat) (mn mm : Nat) (st st' : Int) (A2 : Option Addr) (c2 : Nat) (l2 : List Bool) (A3 : Option Addr) (c3 : Nat) (l3 : List (List S47)) (A4 : Option Addr) (c4 : Nat) (l4 : List (List (List Int))) (A5 : Option Addr) (c5 : Nat) (l5 : List (List Int)) (B2 : Option Addr) (d2 : Nat) (p2 : List Bool) (B3 : Option Addr) (d3 : Nat) (p3 : List (List S47)) (B4 : Option Addr) (d4 : Nat) (p4 : List (List (List Int))) (B5 : Option Addr) (d5 : Nat) (p5 : List (List Int)) (w : World) (hC : CH w A2 c2 l2 A3 c3 l3 A4 c4 l4 A5 c5 l5) (hD : CH w B2 d2 p2 B3 d3 p3 B4 d4 p4 B5 d5 p5) (h : Br.okC (mn : Int) st l2 l3 l4 l5 = true) (h' : Br.okC (mm : Int) st' p2 p3 p4 p5 = true) (hv : spec_l02Ok.f K (mn : Int) st l2 l3 l4 l5 = some true) (hu : spec_l02Ok.f K (mm : Int) st' p2 p3 p4 p5 = some true)
  (gm gs gk : Int) (GA : List Bool) (GC : List (List S47)) (GR : List (List (List Int))) (GI : List (List Int))
  (ht : ∀ (W : World) (B : Nat) (vA vC vR vI : Value), OwnC W B vA vC vR vI (LAs (pacc p2.length l2 p2) (l2.length * p2.length)) (LCs (pcall p2.length mm l3 p3) (l2.length * p2.length)) (LRs (mn * mm) (pback p2.length mn mm l4 p4) (l2.length * p2.length)) (LIs (pinner p2.length l5 p5) (l2.length * p2.length)) → Calls Try.prog 79 #[.agg (cellsI ((mn * mm : Nat) : Int) (wrap64 (wrap64 (st * (p2.length : Int)) + st')) vA vC vR vI)] W fun e W' => ∃ uA uC uR uI : Value, e = .returned (.tuple #[.agg #[.int .i64 gm, .int .i64 gs, uA, uC, uR, uI], .int .i64 gk]) ∧ OwnC W' B uA uC uR uI GA GC GR GI ∧ Below W.heap.size W W') :
  Calls Try.prog 27 #[.agg #[.int .i64 (mn : Int), .int .i64 st, .slice A2 l2.length c2, .slice A3 l3.length c3, .slice A4 l4.length c4, .slice A5 l5.length c5], .agg #[.int .i64 (mm : Int), .int .i64 st', .slice B2 p2.length d2, .slice B3 p3.length d3, .slice B4 p4.length d4, .slice B5 p5.length d5]] w fun e w' => ∃ uA uC uR uI : Value, e = .returned (.tuple #[.agg #[.int .i64 gm, .int .i64 gs, uA, uC, uR, uI], .int .i64 gk]) ∧ OwnC w' w.heap.size uA uC uR uI GA GC GR GI ∧ Below w.heap.size w w' := by
 have sh1 := sh_of _ _ _ _ _ _ h
 have sh2 := sh_of _ _ _ _ _ _ h'
 obtain ⟨n1, -, -, y3, y4, y5, -⟩ := Br.okC_parts h
 obtain ⟨n2, -, -, x3, x4, x5, -⟩ := Br.okC_parts h'
 obtain ⟨a2, rfl⟩ := some_of hC.r2 (by omega)
 obtain ⟨a3, rfl⟩ := some_of hC.r3 (by omega)
 obtain ⟨a4, rfl⟩ := some_of hC.r4 (by omega)
 obtain ⟨a5, rfl⟩ := some_of hC.r5 (by omega)
 obtain ⟨b2, rfl⟩ := some_of hD.r2 (by omega)
 obtain ⟨b3, rfl⟩ := some_of hD.r3 (by omega)
 obtain ⟨b4, rfl⟩ := some_of hD.r4 (by omega)
 obtain ⟨b5, rfl⟩ := some_of hD.r5 (by omega)
 refine specp_ok K (mn : Int) st _ c2 l2 _ c3 l3 _ c4 l4 _ c5 l5 (mm : Int) st' _ d2 p2 _ d3 p3 _ d4 p4 _ d5 p5 w hC hD hv hu ((mn * mm : Nat) : Int) (wrap64 (wrap64 (st * (p2.length : Int)) + st')) (LAs (pacc p2.length l2 p2) (l2.length * p2.length)) (LCs (pcall p2.length mm l3 p3) (l2.length * p2.length)) (LRs (mn * mm) (pback p2.length mn mm l4 p4) (l2.length * p2.length)) (LIs (pinner p2.length l5 p5) (l2.length * p2.length)) gm gs gk GA GC GR GI ?_ ht
 intro W gC gD hC hD bC bD
 rw [← wmul mn mm sh1.a sh2.a]
 exact pairs_calls gC gD (mn : Int) st a2 c2 l2 a3 c3 l3 a4 c4 l4 a5 c5 l5 (mm : Int) st' b2 d2 p2 b3 d3 p3 b4 d4 p4 b5 d5 p5 mn mm (mn * mm) W sh1 sh2 bC bD hC.r2 hD.r2 hC.r3 hC.r4 hC.r5 hD.r3 hD.r4 hD.r5 rfl rfl rfl _ _ _ _ (pacc_at l2 p2) (fun s t q hs ht hq => pcall_at _ mm l3 p3 s t q ht) (fun s t q x y hs ht hq hx hy => pback_at _ mn mm l4 p4 s t q x y ht hx hy) (fun s t q hs ht hq => pback_end _ mn mm l4 p4 s t q ht) (fun s t q hs ht hq => pinner_at _ l5 p5 s t q ht)
theorem impl_two (K : Nat) (mn mm : Nat) (st st' : Int) (A2 : Option Addr) (c2 : Nat) (l2 : List Bool) (A3 : Option Addr) (c3 : Nat) (l3 : List (List S47)) (A4 : Option Addr) (c4 : Nat) (l4 : List (List (List Int))) (A5 : Option Addr) (c5 : Nat) (l5 : List (List Int)) (B2 : Option Addr) (d2 : Nat) (p2 : List Bool) (B3 : Option Addr) (d3 : Nat) (p3 : List (List S47)) (B4 : Option Addr) (d4 : Nat) (p4 : List (List (List Int))) (B5 : Option Addr) (d5 : Nat) (p5 : List (List Int)) (w : World) (hC : CH w A2 c2 l2 A3 c3 l3 A4 c4 l4 A5 c5 l5) (hD : CH w B2 d2 p2 B3 d3 p3 B4 d4 p4 B5 d5 p5) (h : Br.okC (mn : Int) st l2 l3 l4 l5 = true) (h' : Br.okC (mm : Int) st' p2 p3 p4 p5 = true) (hv : impl_ValidChecker.f K (mn : Int) st l2 l3 l4 l5 = some true) (hu : impl_ValidChecker.f K (mm : Int) st' p2 p3 p4 p5 = some true) (k1 : l2.length * p2.length ≤ 40) (k2 : mn * mm ≤ 80) :
  Calls Try.prog 81 #[.agg #[.int .i64 (mn : Int), .int .i64 st, .slice A2 l2.length c2, .slice A3 l3.length c3, .slice A4 l4.length c4, .slice A5 l5.length c5], .agg #[.int .i64 (mm : Int), .int .i64 st', .slice B2 p2.length d2, .slice B3 p3.length d3, .slice B4 p4.length d4, .slice B5 p5.length d5], .func (.func 83) #[] #[]] w fun e w' => ∃ uA uC uR uI : Value, e = .returned (.tuple #[.agg #[.int .i64 ((mn * mm : Nat) : Int), .int .i64 (wrap64 (wrap64 (st * (p2.length : Int)) + st')), uA, uC, uR, uI], .int .i64 0]) ∧ OwnC w' w.heap.size uA uC uR uI (LAs (pacc p2.length l2 p2) (l2.length * p2.length)) (LCs (pcall p2.length mm l3 p3) (l2.length * p2.length)) (LRs (mn * mm) (pback p2.length mn mm l4 p4) (l2.length * p2.length)) (LIs (pinner p2.length l5 p5) (l2.length * p2.length)) ∧ Below w.heap.size w w' := by
 have sh1 := sh_of _ _ _ _ _ _ h
 have sh2 := sh_of _ _ _ _ _ _ h'
 obtain ⟨n1, m1, -⟩ := Br.okC_parts h
 obtain ⟨n2, m2, -⟩ := Br.okC_parts h'
 have hn : 0 < p2.length := by omega
 have e1 := wmul l2.length p2.length (by omega) (by omega)
 have e2 := wmul mn mm sh1.a sh2.a
 refine paired_ok K (mn : Int) st A2 c2 l2 A3 c3 l3 A4 c4 l4 A5 c5 l5 (mm : Int) st' B2 d2 p2 B3 d3 p3 B4 d4 p4 B5 d5 p5 83 w hC hD hv hu (by rw [e1]; omega) (by rw [e2]; omega) (l2.length * p2.length) (mn * mm) (wrap64 (wrap64 (st * (p2.length : Int)) + st')) (by omega) (by omega) e1 e2 rfl (pacc p2.length l2 p2) (pcall p2.length mm l3 p3) (pback p2.length mn mm l4 p4) (pinner p2.length l5 p5) ?_ ?_ ?_ ?_
 ·intro s W gF gC gN gD hs hC hD bF bC bN bD
  exact impl_paired_1_c_2.calls (s : Int) gF gC (mn : Int) st A2 c2 l2 A3 c3 l3 A4 c4 l4 A5 c5 l5 gN (p2.length : Int) gD (mm : Int) st' B2 d2 p2 B3 d3 p3 B4 d4 p4 B5 d5 p5 _ W hC.r2 hC.d2 hC.r3 hC.d3 hC.r4 hC.d4 hC.r5 hC.d5 hD.r2 hD.d2 hD.r3 hD.d3 hD.r4 hD.d4 hD.r5 hD.d5 bF bC bN bD (clo1 sh1 sh2 hn (mn : Int) (mm : Int) s hs)
 ·intro s q W gC gN gD gM hs hq hC hD bC bN bD bM
  exact clo2_calls gC gN gD gM (mn : Int) st A2 c2 l2 A3 c3 l3 A4 c4 l4 A5 c5 l5 (mm : Int) st' B2 d2 p2 B3 d3 p3 B4 d4 p4 B5 d5 p5 s q W hC hD bC bN bD bM sh1 sh2 rfl hn hs hq
 ·intro s q x W gM gC gN gD hs hq hx hC hD bM bC bN bD
  exact (impl_paired_3_c.calls (s : Int) (q : Int) (x : Int) gM (mm : Int) gC (mn : Int) st A2 c2 l2 A3 c3 l3 A4 c4 l4 A5 c5 l5 gN (p2.length : Int) gD (mm : Int) st' B2 d2 p2 B3 d3 p3 B4 d4 p4 B5 d5 p5 _ W hC.r2 hC.d2 hC.r3 hC.d3 hC.r4 hC.d4 hC.r5 hC.d5 hD.r2 hD.d2 hD.r3 hD.d3 hD.r4 hD.d4 hD.r5 hD.d5 bM bC bN bD (clo3 sh1 sh2 hn (by omega) s q x hs hq hx)).mono fun e W' hp => ⟨hp.1, hp.2.below⟩
 ·intro s q W gC gN gD hs hq hC hD bC bN bD
  exact (impl_paired_4_c.calls (s : Int) (q : Int) gC (mn : Int) st A2 c2 l2 A3 c3 l3 A4 c4 l4 A5 c5 l5 gN (p2.length : Int) gD (mm : Int) st' B2 d2 p2 B3 d3 p3 B4 d4 p4 B5 d5 p5 _ W hC.r2 hC.d2 hC.r3 hC.d3 hC.r4 hC.d4 hC.r5 hC.d5 hD.r2 hD.d2 hD.r3 hD.d3 hD.r4 hD.d4 hD.r5 hD.d5 bC bN bD (clo4 sh1 sh2 hn (mn : Int) (mm : Int) s q hs hq)).mono fun e W' hp => ⟨hp.1, hp.2.below⟩
open Go.Proofs.Ytepkfigcnnfoaaa.Br in
theorem walk (a b : Int) (A2 : Option Addr) (c2 : Nat) (l2 : List Bool) (A3 : Option Addr) (c3 : Nat) (l3 : List (List S101)) (A4 : Option Addr) (c4 : Nat) (l4 : List (List (List Int))) (A5 : Option Addr) (c5 : Nat) (l5 : List (List Int)) (a' b' : Int) (B2 : Option Addr) (d2 : Nat) (p2 : List Bool) (B3 : Option Addr) (d3 : Nat) (p3 : List (List S101)) (B4 : Option Addr) (d4 : Nat) (p4 : List (List (List Int))) (B5 : Option Addr) (d5 : Nat) (p5 : List (List Int)) (w : World)
  (hc2 : Kd.C Kd.bool w A2 l2.length l2) (hd2 : l2.length ≤ c2) (hc3 : Kd.C (Kd.slice 101 k101) w A3 l3.length l3) (hd3 : l3.length ≤ c3) (hc4 : Kd.C (Kd.slice 49 (Kd.slice 2 (Kd.int .i64))) w A4 l4.length l4) (hd4 : l4.length ≤ c4) (hc5 : Kd.C (Kd.slice 2 (Kd.int .i64)) w A5 l5.length l5) (hd5 : l5.length ≤ c5)
  (he2 : Kd.C Kd.bool w B2 p2.length p2) (hf2 : p2.length ≤ d2) (he3 : Kd.C (Kd.slice 101 k101) w B3 p3.length p3) (hf3 : p3.length ≤ d3) (he4 : Kd.C (Kd.slice 49 (Kd.slice 2 (Kd.int .i64))) w B4 p4.length p4) (hf4 : p4.length ≤ d4) (he5 : Kd.C (Kd.slice 2 (Kd.int .i64)) w B5 p5.length p5) (hf5 : p5.length ≤ d5)
  (h2 : l2.length ≤ 9223372036854775807) (h3 : l3.length ≤ 9223372036854775807 ∧ ∀ x ∈ l3, x.length ≤ 9223372036854775807) (h4 : l4.length ≤ 9223372036854775807 ∧ ∀ x ∈ l4, (x.length ≤ 9223372036854775807 ∧ ∀ y ∈ x, y.length ≤ 9223372036854775807)) (h5 : l5.length ≤ 9223372036854775807 ∧ ∀ x ∈ l5, x.length ≤ 9223372036854775807)
  (i2 : p2.length ≤ 9223372036854775807) (i3 : p3.length ≤ 9223372036854775807 ∧ ∀ x ∈ p3, x.length ≤ 9223372036854775807) (i4 : p4.length ≤ 9223372036854775807 ∧ ∀ x ∈ p4, (x.length ≤ 9223372036854775807 ∧ ∀ y ∈ x, y.length ≤ 9223372036854775807)) (i5 : p5.length ≤ 9223372036854775807 ∧ ∀ x ∈ p5, x.length ≤ 9223372036854775807) :
  Calls Try.prog 9 #[.agg #[.int .i64 a, .int .i64 b, .slice A2 l2.length c2, .slice A3 l3.length c3, .slice A4 l4.length c4, .slice A5 l5.length c5], .agg #[.int .i64 a', .int .i64 b', .slice B2 p2.length d2, .slice B3 p3.length d3, .slice B4 p4.length d4, .slice B5 p5.length d5]] w fun e w' => e = .returned (.bool true) ∧ Below w.heap.size w w' := by
 obtain ⟨z, n0, hz, hh⟩ := Pure.facts_sz2 a b l2 l3 l4 l5 1048576 (by decide) (by decide) h2 h3 h4 h5
 have hzc : ∀ W, Below w.heap.size w W → Calls Try.prog 21 #[.agg #[.int .i64 a, .int .i64 b, .slice A2 l2.length c2, .slice A3 l3.length c3, .slice A4 l4.length c4, .slice A5 l5.length c5], .int .i64 1048576] W fun e W' => e = .returned (.int .i64 z) ∧ Below W.heap.size W W' := fun W hb =>
  laws_szChecker.calls n0 a b A2 c2 l2 A3 c3 l3 A4 c4 l4 A5 c5 l5 1048576 z W (Kd.C_below hc2 hb) hd2 (Kd.C_below hc3 hb) hd3 (Kd.C_below hc4 hb) hd4 (Kd.C_below hc5 hb) hd5 (hz n0 (Nat.le_refl _))
 rcases hh with hh | ⟨z0, z1, s2, s3, s4, s5⟩
 ·exact walk_out1 a b l2 l4 l5 a' b' p2 p4 p5 _ _ rfl rfl w z hh hzc
 obtain ⟨z', n0', hz', hh'⟩ := Pure.facts_sz2 a' b' p2 p3 p4 p5 z z0 z1 i2 i3 i4 i5
 have hzc' : ∀ W, Below w.heap.size w W → Calls Try.prog 21 #[.agg #[.int .i64 a', .int .i64 b', .slice B2 p2.length d2, .slice B3 p3.length d3, .slice B4 p4.length d4, .slice B5 p5.length d5], .int .i64 z] W fun e W' => e = .returned (.int .i64 z') ∧ Below W.heap.size W W' := fun W hb =>
  laws_szChecker.calls n0' a' b' B2 d2 p2 B3 d3 p3 B4 d4 p4 B5 d5 p5 z z' W (Kd.C_below he2 hb) hf2 (Kd.C_below he3 hb) hf3 (Kd.C_below he4 hb) hf4 (Kd.C_below he5 hb) hf5 (hz' n0' (Nat.le_refl _))
 rcases hh' with hh' | ⟨z0', z1', t2, t3, t4, t5⟩
 ·exact walk_out2 a b l2 l4 l5 a' b' p2 p4 p5 _ _ rfl rfl w z z' (by omega) hh' hzc hzc'
 clear hz hz'
 have s3' := Pure.sm1_map cPush l3 s3
 have t3' := Pure.sm1_map cPush p3 t3
 obtain ⟨n1, f1⟩ := Pure.cf a b l2 l3 l4 l5 s2 s3 s4 s5
 obtain ⟨n2, f2⟩ := Pure.cf a' b' p2 p3 p4 p5 t2 t3 t4 t5
 obtain ⟨n3, f3⟩ := Pure.cg 0 0 [] [] [] [] (by unfold sm0; decide) ⟨by decide, fun _ h => (by cases h)⟩ ⟨by decide, fun _ h => (by cases h)⟩ ⟨by decide, fun _ h => (by cases h)⟩
 have hT : ∀ K, Pure.CF K a b l2 l3 l4 l5 → ∀ W, Below w.heap.size w W → Calls Try.prog 23 #[.agg #[.int .i64 a, .int .i64 b, .slice A2 l2.length c2, .slice A3 l3.length c3, .slice A4 l4.length c4, .slice A5 l5.length c5]] W fun e W' => ∃ vA vC vR vI : Value, e = .returned (.agg #[.int .i64 a, .int .i64 b, vA, vC, vR, vI]) ∧ OwnC W' W.heap.size vA vC vR vI l2 (l3.map (List.map cPush)) l4 l5 ∧ Below W.heap.size W W' := fun K F W hb =>
  toChecker_calls K a b A2 c2 l2 A3 c3 l3 A4 c4 l4 A5 c5 l5 _ _ _ _ W (Kd.C_below hc2 hb) hd2 (Kd.C_below hc3 hb) hd3 (Kd.C_below hc4 hb) hd4 (Kd.C_below hc5 hb) hd5 F.toB F.toP F.toR F.toI
 have hT' : ∀ K, Pure.CF K a' b' p2 p3 p4 p5 → ∀ W, Below w.heap.size w W → Calls Try.prog 23 #[.agg #[.int .i64 a', .int .i64 b', .slice B2 p2.length d2, .slice B3 p3.length d3, .slice B4 p4.length d4, .slice B5 p5.length d5]] W fun e W' => ∃ vA vC vR vI : Value, e = .returned (.agg #[.int .i64 a', .int .i64 b', vA, vC, vR, vI]) ∧ OwnC W' W.heap.size vA vC vR vI p2 (p3.map (List.map cPush)) p4 p5 ∧ Below W.heap.size W W' := fun K F W hb =>
  toChecker_calls K a' b' B2 d2 p2 B3 d3 p3 B4 d4 p4 B5 d5 p5 _ _ _ _ W (Kd.C_below he2 hb) hf2 (Kd.C_below he3 hb) hf3 (Kd.C_below he4 hb) hf4 (Kd.C_below he5 hb) hf5 F.toB F.toP F.toR F.toI
 have o1 := ok_of _ _ _ _ s2 s3' s4 s5
 have o2 := ok_of _ _ _ _ t2 t3' t4 t5
 have nn := nu_small _ _ _ _ s2 s3' s4 s5
 clear hc2 hc3 hc4 hc5 he2 he3 he4 he5
 by_cases hok : Br.okC a b l2 (l3.map (List.map cPush)) l4 l5 = true
 case neg =>
  rw [Bool.not_eq_true] at hok
  obtain ⟨K, hK1, hK2, hK3⟩ : ∃ K, n1 ≤ K ∧ n2 ≤ K ∧ n3 ≤ K := ⟨n1 + n2 + n3, by omega, by omega, by omega⟩
  have F1 := f1 K hK1
  have F2 := f2 K hK2
  have es := F1.specOk
  have ei := F1.implOk
  rw [hok] at es ei
  refine walkin a b l2 l4 l5 a' b' p2 p4 p5 _ _ rfl rfl w z z' (by omega) (by omega) (l3.map (List.map cPush)) (p3.map (List.map cPush)) 0 0 1 [] [] [] [] K hzc hzc' (hT K F1) (hT' K F2) ?_ ?_ o1 o2 ok_nil nn F1.eq F2.eq (f3 K hK3).2
  ·intro W vA vC vR vI zA zC zR zI hr hr'
   obtain ⟨A2, c2, A3, c3, A4, c4, A5, c5, rfl, rfl, rfl, rfl, hC⟩ := reads_ch hr
   obtain ⟨B2, d2, B3, d3, B4, d4, B5, d5, rfl, rfl, rfl, rfl, hD⟩ := reads_ch hr'
   exact specp_bad1 K a b A2 c2 l2 A3 c3 _ A4 c4 l4 A5 c5 l5 a' b' B2 d2 p2 B3 d3 _ B4 d4 p4 B5 d5 p5 W hC hD es
  ·intro W vA vC vR vI zA zC zR zI hr hr'
   obtain ⟨A2, c2, A3, c3, A4, c4, A5, c5, rfl, rfl, rfl, rfl, hC⟩ := reads_ch hr
   obtain ⟨B2, d2, B3, d3, B4, d4, B5, d5, rfl, rfl, rfl, rfl, hD⟩ := reads_ch hr'
   exact implp a b A2 c2 l2 A3 c3 _ A4 c4 l4 A5 c5 l5 a' b' B2 d2 p2 B3 d3 _ B4 d4 p4 B5 d5 p5 W hC hD 0 0 1 [] [] [] [] fun W hC hD => paired_bad1 K a b A2 c2 l2 A3 c3 _ A4 c4 l4 A5 c5 l5 a' b' B2 d2 p2 B3 d3 _ B4 d4 p4 B5 d5 p5 83 W hC hD ei
 by_cases hok' : Br.okC a' b' p2 (p3.map (List.map cPush)) p4 p5 = true
 case neg =>
  rw [Bool.not_eq_true] at hok'
  obtain ⟨K, hK1, hK2, hK3⟩ : ∃ K, n1 ≤ K ∧ n2 ≤ K ∧ n3 ≤ K := ⟨n1 + n2 + n3, by omega, by omega, by omega⟩
  have F1 := f1 K hK1
  have F2 := f2 K hK2
  have es := F1.specOk
  have ei := F1.implOk
  have es' := F2.specOk
  have ei' := F2.implOk
  rw [hok] at es ei
  rw [hok'] at es' ei'
  refine walkin a b l2 l4 l5 a' b' p2 p4 p5 _ _ rfl rfl w z z' (by omega) (by omega) (l3.map (List.map cPush)) (p3.map (List.map cPush)) 0 0 1 [] [] [] [] K hzc hzc' (hT K F1) (hT' K F2) ?_ ?_ o1 o2 ok_nil nn F1.eq F2.eq (f3 K hK3).2
  ·intro W vA vC vR vI zA zC zR zI hr hr'
   obtain ⟨A2, c2, A3, c3, A4, c4, A5, c5, rfl, rfl, rfl, rfl, hC⟩ := reads_ch hr
   obtain ⟨B2, d2, B3, d3, B4, d4, B5, d5, rfl, rfl, rfl, rfl, hD⟩ := reads_ch hr'
   exact specp_bad2 K a b A2 c2 l2 A3 c3 _ A4 c4 l4 A5 c5 l5 a' b' B2 d2 p2 B3 d3 _ B4 d4 p4 B5 d5 p5 W hC hD es es'
  ·intro W vA vC vR vI zA zC zR zI hr hr'
   obtain ⟨A2, c2, A3, c3, A4, c4, A5, c5, rfl, rfl, rfl, rfl, hC⟩ := reads_ch hr
   obtain ⟨B2, d2, B3, d3, B4, d4, B5, d5, rfl, rfl, rfl, rfl, hD⟩ := reads_ch hr'
   exact implp a b A2 c2 l2 A3 c3 _ A4 c4 l4 A5 c5 l5 a' b' B2 d2 p2 B3 d3 _ B4 d4 p4 B5 d5 p5 W hC hD 0 0 1 [] [] [] [] fun W hC hD => paired_bad2 K a b A2 c2 l2 A3 c3 _ A4 c4 l4 A5 c5 l5 a' b' B2 d2 p2 B3 d3 _ B4 d4 p4 B5 d5 p5 83 W hC hD ei ei'
 obtain ⟨r1, m1, -⟩ := okC_parts hok
 obtain ⟨r2, m2, -⟩ := okC_parts hok'
 obtain ⟨mn, rfl⟩ : ∃ m : Nat, a = (m : Int) := ⟨a.toNat, by omega⟩
 obtain ⟨mm, rfl⟩ : ∃ m : Nat, a' = (m : Int) := ⟨a'.toNat, by omega⟩
 obtain ⟨y2, y3, y4, y5⟩ := small4 mn mm b b' l2 _ l4 l5 p2 _ p4 p5 hok hok'
 obtain ⟨n4, f4⟩ := Pure.cg ((mn * mm : Nat) : Int) (wrap64 (wrap64 (b * (p2.length : Int)) + b')) _ _ _ _ y2 y3 y4 y5
 have hpairs := okC_pairs hok hok' (pacc p2.length l2 p2) (pcall p2.length mm (l3.map (List.map cPush)) (p3.map (List.map cPush))) (pback p2.length mn mm l4 p4) (pinner p2.length l5 p5) (fun i q => rfl) (fun i q z => rfl) (fun i q => rfl)
 obtain ⟨K, hK1, hK2, hK3, hK4⟩ : ∃ K, n1 ≤ K ∧ n2 ≤ K ∧ n3 ≤ K ∧ n4 ≤ K := ⟨n1 + n2 + n3 + n4, by omega, by omega, by omega, by omega⟩
 have F1 := f1 K hK1
 have F2 := f2 K hK2
 have es := F1.specOk
 have ei := F1.implOk
 have es' := F2.specOk
 have ei' := F2.implOk
 rw [hok] at es ei
 rw [hok'] at es' ei'
 have eg : spec_l02Ok.f K ((mn * mm : Nat) : Int) (wrap64 (wrap64 (b * (p2.length : Int)) + b')) (LAs (pacc p2.length l2 p2) (l2.length * p2.length)) (LCs (pcall p2.length mm (l3.map (List.map cPush)) (p3.map (List.map cPush))) (l2.length * p2.length)) (LRs (mn * mm) (pback p2.length mn mm l4 p4) (l2.length * p2.length)) (LIs (pinner p2.length l5 p5) (l2.length * p2.length)) = some (decide (l2.length * p2.length ≤ 40) && decide (mn * mm ≤ 80)) := (f4 K hK4).1.trans (congrArg some hpairs)
 have e1 := wmul l2.length p2.length (by omega) (by omega)
 have e2 := wmul mn mm (by omega) (by omega)
 by_cases k1 : l2.length * p2.length ≤ 40 ∧ mn * mm ≤ 80
 ·rw [dT k1.1, dT k1.2] at eg
  refine walkin (mn : Int) b l2 l4 l5 (mm : Int) b' p2 p4 p5 _ _ rfl rfl w z z' (by omega) (by omega) (l3.map (List.map cPush)) (p3.map (List.map cPush)) ((mn * mm : Nat) : Int) (wrap64 (wrap64 (b * (p2.length : Int)) + b')) 0 (LAs (pacc p2.length l2 p2) (l2.length * p2.length)) (LCs (pcall p2.length mm (l3.map (List.map cPush)) (p3.map (List.map cPush))) (l2.length * p2.length)) (LRs (mn * mm) (pback p2.length mn mm l4 p4) (l2.length * p2.length)) (LIs (pinner p2.length l5 p5) (l2.length * p2.length)) K hzc hzc' (hT K F1) (hT' K F2) ?_ ?_ o1 o2 (ok_of _ _ _ _ y2 y3 y4 y5) nn F1.eq F2.eq (f4 K hK4).2
  ·intro W vA vC vR vI zA zC zR zI hr hr'
   obtain ⟨A2, c2, A3, c3, A4, c4, A5, c5, rfl, rfl, rfl, rfl, hC⟩ := reads_ch hr
   obtain ⟨B2, d2, B3, d3, B4, d4, B5, d5, rfl, rfl, rfl, rfl, hD⟩ := reads_ch hr'
   refine spec_two K mn mm b b' A2 c2 l2 A3 c3 _ A4 c4 l4 A5 c5 l5 B2 d2 p2 B3 d3 _ B4 d4 p4 B5 d5 p5 W hC hD hok hok' es es' _ _ _ _ _ _ _ ?_
   intro W B vA vC vR vI hO
   obtain ⟨A2, c2, A3, c3, A4, c4, A5, c5, rfl, rfl, rfl, rfl, hG⟩ := reads_ch (Reads.own hO)
   exact (told_true K _ _ A2 c2 _ A3 c3 _ A4 c4 _ A5 c5 _ W hG B hO eg).mono fun e W' hp => ⟨_, _, _, _, hp.1, hp.2.1, hp.2.2⟩
  ·intro W vA vC vR vI zA zC zR zI hr hr'
   obtain ⟨A2, c2, A3, c3, A4, c4, A5, c5, rfl, rfl, rfl, rfl, hC⟩ := reads_ch hr
   obtain ⟨B2, d2, B3, d3, B4, d4, B5, d5, rfl, rfl, rfl, rfl, hD⟩ := reads_ch hr'
   exact implp (mn : Int) b A2 c2 l2 A3 c3 _ A4 c4 l4 A5 c5 l5 (mm : Int) b' B2 d2 p2 B3 d3 _ B4 d4 p4 B5 d5 p5 W hC hD _ _ 0 _ _ _ _ fun W hC hD => impl_two K mn mm b b' A2 c2 l2 A3 c3 _ A4 c4 l4 A5 c5 l5 B2 d2 p2 B3 d3 _ B4 d4 p4 B5 d5 p5 W hC hD hok hok' ei ei' k1.1 k1.2
 ·have eb : (decide (l2.length * p2.length ≤ 40) && decide (mn * mm ≤ 80)) = false := by
   rw [Bool.and_eq_false_iff, decide_eq_false_iff_not, decide_eq_false_iff_not]
   omega
  rw [eb] at eg
  refine walkin (mn : Int) b l2 l4 l5 (mm : Int) b' p2 p4 p5 _ _ rfl rfl w z z' (by omega) (by omega) (l3.map (List.map cPush)) (p3.map (List.map cPush)) 0 0 3 [] [] [] [] K hzc hzc' (hT K F1) (hT' K F2) ?_ ?_ o1 o2 ok_nil nn F1.eq F2.eq (f3 K hK3).2
  ·intro W vA vC vR vI zA zC zR zI hr hr'
   obtain ⟨A2, c2, A3, c3, A4, c4, A5, c5, rfl, rfl, rfl, rfl, hC⟩ := reads_ch hr
   obtain ⟨B2, d2, B3, d3, B4, d4, B5, d5, rfl, rfl, rfl, rfl, hD⟩ := reads_ch hr'
   refine spec_two K mn mm b b' A2 c2 l2 A3 c3 _ A4 c4 l4 A5 c5 l5 B2 d2 p2 B3 d3 _ B4 d4 p4 B5 d5 p5 W hC hD hok hok' es es' _ _ _ _ _ _ _ ?_
   intro W B vA vC vR vI hO
   obtain ⟨A2, c2, A3, c3, A4, c4, A5, c5, rfl, rfl, rfl, rfl, hG⟩ := reads_ch (Reads.own hO)
   exact (told_false K _ _ A2 c2 _ A3 c3 _ A4 c4 _ A5 c5 _ W hG eg).mono fun e W' hp => ⟨nilV, nilV, nilV, nilV, hp.1, own_nil' _ _, hp.2⟩
  ·intro W vA vC vR vI zA zC zR zI hr hr'
   obtain ⟨A2, c2, A3, c3, A4, c4, A5, c5, rfl, rfl, rfl, rfl, hC⟩ := reads_ch hr
   obtain ⟨B2, d2, B3, d3, B4, d4, B5, d5, rfl, rfl, rfl, rfl, hD⟩ := reads_ch hr'
   refine implp (mn : Int) b A2 c2 l2 A3 c3 _ A4 c4 l4 A5 c5 l5 (mm : Int) b' B2 d2 p2 B3 d3 _ B4 d4 p4 B5 d5 p5 W hC hD 0 0 3 [] [] [] [] fun W hC hD => ?_
   by_cases k3 : l2.length * p2.length ≤ 40
   ·exact paired_lim2 K (mn : Int) b A2 c2 l2 A3 c3 _ A4 c4 l4 A5 c5 l5 (mm : Int) b' B2 d2 p2 B3 d3 _ B4 d4 p4 B5 d5 p5 83 W hC hD ei ei' (by rw [e1]; omega) (by rw [e2]; omega)
   ·exact paired_lim1 K (mn : Int) b A2 c2 l2 A3 c3 _ A4 c4 l4 A5 c5 l5 (mm : Int) b' B2 d2 p2 B3 d3 _ B4 d4 p4 B5 d5 p5 83 W hC hD ei ei' (by rw [e1]; omega)
end Eith
end Go.Proofs.Ytepkfigcnnfoaaa.P
namespace Go.Proofs.Ytepkfigcnnfoaaa.fnExactEitherCheckers
open Go.ChangeShapes Go.WideShapes Go.ChangeAt Go.RowKit Go.Proofs.YtepkfigcnnfoaaaW.PrintWords Go.Proofs.YtepkfigcnnfoaaaW.PrintLast Go.Proofs.Ytepkfigcnnfoaaa.P
open Go.ChangeMaps (open_string shut_string)
def Of (P : Program) (t : TypeId) {α : Type} (d : Kd α) (ok : α → Prop) : Prop :=
 ∀ (H : Type) (enc : TypeId × Value → H) (W : World) (n : Nat) (cs : List Value) (x : DataW H × List MemPlace), DataW.trod enc P W 0 (fun _ => true) true n t cs = some x → ∃ v, d.K W v cs ∧ ok v
def OfFs (P : Program) (off : Nat) (fs : List Field) {α : Type} (d : Kd α) (ok : α → Prop) : Prop :=
 ∀ (H : Type) (enc : TypeId × Value → H) (W : World) (n : Nat) (cs : List Value), cs.length = off + d.sz →
  (∀ f ∈ fs, ∃ y, DataW.trod enc P W 0 (fun _ => true) true n f.type ((cs.drop f.offset).take (P.cellsOf f.type)) = some y) → ∃ v, d.K W v (cs.drop off) ∧ ok v
section
variable {P : Program} {t : TypeId}
theorem of_int {k : IntKind} (ht : P.underlying t = some (.int k)) : Of P t (Kd.int k) (fun n => (Lit.int k n).wf = true) := by
 intro H enc W n cs x h
 obtain ⟨v, rfl, _, hw⟩ := DataW.trod_int ht h
 exact ⟨v, rfl, hw⟩
theorem of_bool (ht : P.underlying t = some .bool) : Of P t Kd.bool (fun _ => True) := by
 intro H enc W n cs x h
 obtain ⟨v, rfl, _⟩ := DataW.trod_bool ht h
 exact ⟨v, rfl, trivial⟩
theorem of_iso {α β : Type} {d : Kd α} {f : β → α} {ok : α → Prop} (h : Of P t d ok) (g : α → β) (hg : ∀ y, f (g y) = y) : Of P t (Kd.iso d f) (fun x => ok (f x)) := by
 intro H enc W n cs x hx
 obtain ⟨v, hK, ho⟩ := h H enc W n cs x hx
 exact ⟨g v, by show d.K W (f (g v)) cs; rw [hg]; exact hK, by show ok (f (g v)); rw [hg]; exact ho⟩
theorem of_slice {e : TypeId} {α : Type} {d : Kd α} {ok : α → Prop} (ht : P.underlying t = some (.slice e)) (hC : P.cellsOf e = d.sz) (he : Of P e d ok) :
  Of P t (Kd.slice e d) (fun l => l.length ≤ maxLen ∧ ∀ x ∈ l, ok x) := by
 intro H enc W fuel cs x h
 rcases Go.Deep.open_slice ht h with ⟨rfl, _⟩ | ⟨a, len, cap, m, n, D, Pl, rfl, _, hl, hm, hmm, _, hi⟩
 ·exact ⟨[], ⟨none, 0, rfl, Nat.le_refl _, Kd.C_nil _ _⟩, by simp, by simp⟩
 ·have hle : len ≤ m := by rw [hmm]; simpa using hl
  have key : ∀ q, q ≤ len → ∃ l : List α, l.length = q ∧ ∀ j p, l[j]? = some p → ∃ cs', W.cells? 0 (a.add (j * d.sz)) d.sz = some cs' ∧ d.K W p cs' ∧ ok p := by
   intro q
   induction q with
   | zero => exact fun _ => ⟨[], rfl, fun j p hj => by simp at hj⟩
   | succ q ih =>
    intro hq
    obtain ⟨l, hll, hp⟩ := ih (by omega)
    obtain ⟨cs', h1, h2⟩ := hi q (by omega)
    rw [hC] at h1
    obtain ⟨v, hK, ho⟩ := he H enc W n cs' _ h2
    refine ⟨l ++ [v], by simp [hll], fun j p hj => ?_⟩
    by_cases hjl : j < l.length
    ·rw [List.getElem?_append_left hjl] at hj
     exact hp j p hj
    ·have hj2 : j = l.length := by
      have := (List.getElem?_eq_some_iff.1 hj).1
      simp at this
      omega
     subst hj2
     simp at hj
     subst hj
     exact ⟨cs', by rw [hll]; exact h1, hK, ho⟩
  obtain ⟨l, hll, hp⟩ := key len (Nat.le_refl _)
  have hlm : l.length ≤ maxLen := by rw [hll]; exact Nat.le_trans hl hm
  refine ⟨l, ⟨some a, cap, by rw [hll], by omega, ⟨rfl, hlm, fun _ => ⟨a, rfl, fun j p hj => ?_⟩⟩⟩, hlm, fun p hpm => ?_⟩
  ·obtain ⟨cs', h1, hK, _⟩ := hp j p hj
   obtain ⟨_, hlen, hat⟩ := World.cells?_some h1
   refine ⟨cs', hlen, hK, fun i u hu => ?_⟩
   have hlt : i < d.sz := by rw [← hlen]; exact (List.getElem?_eq_some_iff.1 hu).1
   rw [← Go.Deep.add_add, hat i hlt, hu]
  ·obtain ⟨j, hj⟩ := List.getElem?_of_mem hpm
   obtain ⟨_, _, _, ho⟩ := hp j p hj
   exact ho
theorem fs_one {f : Field} {off : Nat} {α : Type} {d : Kd α} {ok : α → Prop} (ho : f.offset = off) (hC : P.cellsOf f.type = d.sz) (h : Of P f.type d ok) : OfFs P off [f] d ok := by
 intro H enc W n cs hl hf
 obtain ⟨y, hy⟩ := hf f (by simp)
 rw [ho, hC, List.take_of_length_le (by simp; omega)] at hy
 exact h H enc W n _ y hy
theorem fs_more {f : Field} {fs : List Field} {off : Nat} {α β : Type} {d : Kd α} {d2 : Kd β} {ok : α → Prop} {ok2 : β → Prop} (ho : f.offset = off) (hC : P.cellsOf f.type = d.sz) (h : Of P f.type d ok) (h2 : OfFs P (off + d.sz) fs d2 ok2) :
  OfFs P off (f :: fs) (Kd.pair d d2) (fun p => ok p.1 ∧ ok2 p.2) := by
 intro H enc W n cs hl hf
 have hl' : cs.length = off + d.sz + d2.sz := hl.trans (Nat.add_assoc _ _ _).symm
 obtain ⟨y, hy⟩ := hf f (by simp)
 rw [ho, hC] at hy
 obtain ⟨v, hK, hv⟩ := h H enc W n _ y hy
 obtain ⟨v2, hK2, hv2⟩ := h2 H enc W n cs hl' (fun g hg => hf g (List.mem_cons_of_mem _ hg))
 refine ⟨(v, v2), ⟨(cs.drop off).take d.sz, cs.drop (off + d.sz), ?_, hK, hK2⟩, hv, hv2⟩
 rw [← List.drop_drop, List.take_append_drop]
theorem of_struct {fs : Array Field} {α : Type} {d : Kd α} {ok : α → Prop} (ht : P.underlying t = some (.struct fs)) (hC : P.cellsOf t = d.sz) (h : OfFs P 0 fs.toList d ok) : Of P t d ok := by
 intro H enc W fuel cs x hx
 obtain ⟨xs, n, _, _, hlen, hxl, hf⟩ := DataW.trod_struct ht hx
 refine h H enc W n cs (by omega) (fun f hfm => ?_)
 obtain ⟨j, hj⟩ := List.getElem?_of_mem hfm
 have hj2 : fs[j]? = some f := by simpa using hj
 have hlt : j < xs.length := by rw [hxl]; exact (Array.getElem?_eq_some_iff.1 hj2).1
 exact ⟨_, (hf j f hj2).trans (List.getElem?_eq_getElem hlt)⟩
end
theorem own : ownKnob Try.prog.godebug = none := by kernel_rfl
theorem laidOut : laidOutB Try.prog = true := by kernel_rfl
theorem of2 : Of Try.prog 2 (Kd.int .i64) (fun n : Int => (Lit.int .i64 n).wf = true) := of_int Try.underlying2
theorem of4 : Of Try.prog 4 Kd.bool (fun _ : Bool => True) := of_bool Try.underlying4
theorem of22 : Of Try.prog 22 (Kd.slice 4 Kd.bool) (fun l : List Bool => l.length ≤ maxLen ∧ ∀ x ∈ l, (fun _ : Bool => True) x) := of_slice Try.underlying22 (by kernel_rfl) of4
theorem of101 : Of Try.prog 101 k101 (fun x : S101 => (fun p : ((Int) × (Int)) => (fun n : Int => (Lit.int .i64 n).wf = true) p.1 ∧ (fun n : Int => (Lit.int .i64 n).wf = true) p.2) (x.f0, x.f1)) := of_iso (f := fun x : S101 => (x.f0, x.f1)) (of_struct Try.underlying101 (by kernel_rfl) (fs_more (ok := (fun n : Int => (Lit.int .i64 n).wf = true)) (ok2 := (fun n : Int => (Lit.int .i64 n).wf = true)) (by rfl) (by kernel_rfl) of2 (fs_one (by rfl) (by kernel_rfl) of2))) (fun y => ⟨y.1, y.2⟩) (fun _ => rfl)
theorem of88 : Of Try.prog 88 (Kd.slice 101 k101) (fun l : List (S101) => l.length ≤ maxLen ∧ ∀ x ∈ l, (fun x : S101 => (fun p : ((Int) × (Int)) => (fun n : Int => (Lit.int .i64 n).wf = true) p.1 ∧ (fun n : Int => (Lit.int .i64 n).wf = true) p.2) (x.f0, x.f1)) x) := of_slice Try.underlying88 (by kernel_rfl) of101
theorem of37 : Of Try.prog 37 (Kd.slice 88 (Kd.slice 101 k101)) (fun l : List (List (S101)) => l.length ≤ maxLen ∧ ∀ x ∈ l, (fun l : List (S101) => l.length ≤ maxLen ∧ ∀ x ∈ l, (fun x : S101 => (fun p : ((Int) × (Int)) => (fun n : Int => (Lit.int .i64 n).wf = true) p.1 ∧ (fun n : Int => (Lit.int .i64 n).wf = true) p.2) (x.f0, x.f1)) x) x) := of_slice Try.underlying37 (by kernel_rfl) of88
theorem of49 : Of Try.prog 49 (Kd.slice 2 (Kd.int .i64)) (fun l : List Int => l.length ≤ maxLen ∧ ∀ x ∈ l, (fun n : Int => (Lit.int .i64 n).wf = true) x) := of_slice Try.underlying49 (by kernel_rfl) of2
theorem of25 : Of Try.prog 25 (Kd.slice 49 (Kd.slice 2 (Kd.int .i64))) (fun l : List (List Int) => l.length ≤ maxLen ∧ ∀ x ∈ l, (fun l : List Int => l.length ≤ maxLen ∧ ∀ x ∈ l, (fun n : Int => (Lit.int .i64 n).wf = true) x) x) := of_slice Try.underlying25 (by kernel_rfl) of49
theorem of24 : Of Try.prog 24 (Kd.slice 25 (Kd.slice 49 (Kd.slice 2 (Kd.int .i64)))) (fun l : List (List (List Int)) => l.length ≤ maxLen ∧ ∀ x ∈ l, (fun l : List (List Int) => l.length ≤ maxLen ∧ ∀ x ∈ l, (fun l : List Int => l.length ≤ maxLen ∧ ∀ x ∈ l, (fun n : Int => (Lit.int .i64 n).wf = true) x) x) x) := of_slice Try.underlying24 (by kernel_rfl) of25
theorem of39t : Of Try.prog 39 (Kd.pair (Kd.int .i64) (Kd.pair (Kd.int .i64) (Kd.pair (Kd.slice 4 Kd.bool) (Kd.pair (Kd.slice 88 (Kd.slice 101 k101)) (Kd.pair (Kd.slice 25 (Kd.slice 49 (Kd.slice 2 (Kd.int .i64)))) (Kd.slice 49 (Kd.slice 2 (Kd.int .i64)))))))) (fun p : ((Int) × (((Int) × (((List Bool) × (((List (List (S101))) × (((List (List (List Int))) × (List (List Int))))))))))) => (fun n : Int => (Lit.int .i64 n).wf = true) p.1 ∧ (fun p : ((Int) × (((List Bool) × (((List (List (S101))) × (((List (List (List Int))) × (List (List Int))))))))) => (fun n : Int => (Lit.int .i64 n).wf = true) p.1 ∧ (fun p : ((List Bool) × (((List (List (S101))) × (((List (List (List Int))) × (List (List Int))))))) => (fun l : List Bool => l.length ≤ maxLen ∧ ∀ x ∈ l, (fun _ : Bool => True) x) p.1 ∧ (fun p : ((List (List (S101))) × (((List (List (List Int))) × (List (List Int))))) => (fun l : List (List (S101)) => l.length ≤ maxLen ∧ ∀ x ∈ l, (fun l : List (S101) => l.length ≤ maxLen ∧ ∀ x ∈ l, (fun x : S101 => (fun p : ((Int) × (Int)) => (fun n : Int => (Lit.int .i64 n).wf = true) p.1 ∧ (fun n : Int => (Lit.int .i64 n).wf = true) p.2) (x.f0, x.f1)) x) x) p.1 ∧ (fun p : ((List (List (List Int))) × (List (List Int))) => (fun l : List (List (List Int)) => l.length ≤ maxLen ∧ ∀ x ∈ l, (fun l : List (List Int) => l.length ≤ maxLen ∧ ∀ x ∈ l, (fun l : List Int => l.length ≤ maxLen ∧ ∀ x ∈ l, (fun n : Int => (Lit.int .i64 n).wf = true) x) x) x) p.1 ∧ (fun l : List (List Int) => l.length ≤ maxLen ∧ ∀ x ∈ l, (fun l : List Int => l.length ≤ maxLen ∧ ∀ x ∈ l, (fun n : Int => (Lit.int .i64 n).wf = true) x) x) p.2) p.2) p.2) p.2) p.2) := by
 refine of_struct Try.underlying39 (by kernel_rfl) ?_
 exact (fs_more (ok := (fun n : Int => (Lit.int .i64 n).wf = true)) (ok2 := (fun p : ((Int) × (((List Bool) × (((List (List (S101))) × (((List (List (List Int))) × (List (List Int))))))))) => (fun n : Int => (Lit.int .i64 n).wf = true) p.1 ∧ (fun p : ((List Bool) × (((List (List (S101))) × (((List (List (List Int))) × (List (List Int))))))) => (fun l : List Bool => l.length ≤ maxLen ∧ ∀ x ∈ l, (fun _ : Bool => True) x) p.1 ∧ (fun p : ((List (List (S101))) × (((List (List (List Int))) × (List (List Int))))) => (fun l : List (List (S101)) => l.length ≤ maxLen ∧ ∀ x ∈ l, (fun l : List (S101) => l.length ≤ maxLen ∧ ∀ x ∈ l, (fun x : S101 => (fun p : ((Int) × (Int)) => (fun n : Int => (Lit.int .i64 n).wf = true) p.1 ∧ (fun n : Int => (Lit.int .i64 n).wf = true) p.2) (x.f0, x.f1)) x) x) p.1 ∧ (fun p : ((List (List (List Int))) × (List (List Int))) => (fun l : List (List (List Int)) => l.length ≤ maxLen ∧ ∀ x ∈ l, (fun l : List (List Int) => l.length ≤ maxLen ∧ ∀ x ∈ l, (fun l : List Int => l.length ≤ maxLen ∧ ∀ x ∈ l, (fun n : Int => (Lit.int .i64 n).wf = true) x) x) x) p.1 ∧ (fun l : List (List Int) => l.length ≤ maxLen ∧ ∀ x ∈ l, (fun l : List Int => l.length ≤ maxLen ∧ ∀ x ∈ l, (fun n : Int => (Lit.int .i64 n).wf = true) x) x) p.2) p.2) p.2) p.2)) (by rfl) (by kernel_rfl) of2 (fs_more (ok := (fun n : Int => (Lit.int .i64 n).wf = true)) (ok2 := (fun p : ((List Bool) × (((List (List (S101))) × (((List (List (List Int))) × (List (List Int))))))) => (fun l : List Bool => l.length ≤ maxLen ∧ ∀ x ∈ l, (fun _ : Bool => True) x) p.1 ∧ (fun p : ((List (List (S101))) × (((List (List (List Int))) × (List (List Int))))) => (fun l : List (List (S101)) => l.length ≤ maxLen ∧ ∀ x ∈ l, (fun l : List (S101) => l.length ≤ maxLen ∧ ∀ x ∈ l, (fun x : S101 => (fun p : ((Int) × (Int)) => (fun n : Int => (Lit.int .i64 n).wf = true) p.1 ∧ (fun n : Int => (Lit.int .i64 n).wf = true) p.2) (x.f0, x.f1)) x) x) p.1 ∧ (fun p : ((List (List (List Int))) × (List (List Int))) => (fun l : List (List (List Int)) => l.length ≤ maxLen ∧ ∀ x ∈ l, (fun l : List (List Int) => l.length ≤ maxLen ∧ ∀ x ∈ l, (fun l : List Int => l.length ≤ maxLen ∧ ∀ x ∈ l, (fun n : Int => (Lit.int .i64 n).wf = true) x) x) x) p.1 ∧ (fun l : List (List Int) => l.length ≤ maxLen ∧ ∀ x ∈ l, (fun l : List Int => l.length ≤ maxLen ∧ ∀ x ∈ l, (fun n : Int => (Lit.int .i64 n).wf = true) x) x) p.2) p.2) p.2)) (by rfl) (by kernel_rfl) of2 (fs_more (ok := (fun l : List Bool => l.length ≤ maxLen ∧ ∀ x ∈ l, (fun _ : Bool => True) x)) (ok2 := (fun p : ((List (List (S101))) × (((List (List (List Int))) × (List (List Int))))) => (fun l : List (List (S101)) => l.length ≤ maxLen ∧ ∀ x ∈ l, (fun l : List (S101) => l.length ≤ maxLen ∧ ∀ x ∈ l, (fun x : S101 => (fun p : ((Int) × (Int)) => (fun n : Int => (Lit.int .i64 n).wf = true) p.1 ∧ (fun n : Int => (Lit.int .i64 n).wf = true) p.2) (x.f0, x.f1)) x) x) p.1 ∧ (fun p : ((List (List (List Int))) × (List (List Int))) => (fun l : List (List (List Int)) => l.length ≤ maxLen ∧ ∀ x ∈ l, (fun l : List (List Int) => l.length ≤ maxLen ∧ ∀ x ∈ l, (fun l : List Int => l.length ≤ maxLen ∧ ∀ x ∈ l, (fun n : Int => (Lit.int .i64 n).wf = true) x) x) x) p.1 ∧ (fun l : List (List Int) => l.length ≤ maxLen ∧ ∀ x ∈ l, (fun l : List Int => l.length ≤ maxLen ∧ ∀ x ∈ l, (fun n : Int => (Lit.int .i64 n).wf = true) x) x) p.2) p.2)) (by rfl) (by kernel_rfl) of22 (fs_more (ok := (fun l : List (List (S101)) => l.length ≤ maxLen ∧ ∀ x ∈ l, (fun l : List (S101) => l.length ≤ maxLen ∧ ∀ x ∈ l, (fun x : S101 => (fun p : ((Int) × (Int)) => (fun n : Int => (Lit.int .i64 n).wf = true) p.1 ∧ (fun n : Int => (Lit.int .i64 n).wf = true) p.2) (x.f0, x.f1)) x) x)) (ok2 := (fun p : ((List (List (List Int))) × (List (List Int))) => (fun l : List (List (List Int)) => l.length ≤ maxLen ∧ ∀ x ∈ l, (fun l : List (List Int) => l.length ≤ maxLen ∧ ∀ x ∈ l, (fun l : List Int => l.length ≤ maxLen ∧ ∀ x ∈ l, (fun n : Int => (Lit.int .i64 n).wf = true) x) x) x) p.1 ∧ (fun l : List (List Int) => l.length ≤ maxLen ∧ ∀ x ∈ l, (fun l : List Int => l.length ≤ maxLen ∧ ∀ x ∈ l, (fun n : Int => (Lit.int .i64 n).wf = true) x) x) p.2)) (by rfl) (by kernel_rfl) of37 (fs_more (ok := (fun l : List (List (List Int)) => l.length ≤ maxLen ∧ ∀ x ∈ l, (fun l : List (List Int) => l.length ≤ maxLen ∧ ∀ x ∈ l, (fun l : List Int => l.length ≤ maxLen ∧ ∀ x ∈ l, (fun n : Int => (Lit.int .i64 n).wf = true) x) x) x)) (ok2 := (fun l : List (List Int) => l.length ≤ maxLen ∧ ∀ x ∈ l, (fun l : List Int => l.length ≤ maxLen ∧ ∀ x ∈ l, (fun n : Int => (Lit.int .i64 n).wf = true) x) x)) (by rfl) (by kernel_rfl) of24 (fs_one (by rfl) (by kernel_rfl) of25))))))
theorem lifted (os : Os) (started : os.Started) (H : Type) (enc : TypeId × Value → H) :
  ReturnsInHanded {} Try.checked os 9 .any (Rows.fnExactEitherCheckersSpec.pre6 enc Try.prog Try.f9 Rows.fnExactEitherCheckersRow.domain false) (Rows.fnExactEitherCheckersSpec.post enc Try.prog Try.f9 false true false false) := by
 refine returnsInHanded_of_change_sized (C := Try.checked) own started (by kernel_rfl) Try.func9
  (ChangeSpec.witness6 (enc := enc) (C := Try.checked) false ⟨#[], #[.agg #[.int .i64 0, .int .i64 0, .slice none 0 0, .slice none 0 0, .slice none 0 0, .slice none 0 0], .agg #[.int .i64 0, .int .i64 0, .slice none 0 0, .slice none 0 0, .slice none 0 0, .slice none 0 0]], []⟩ 8 (by kernel_rfl) (by kernel_rfl) (by kernel_rfl) (by kernel_rfl)) ?_
 intro W base args ds gs before hval0 hW hcnd hsz0 _
 have hval : ∀ (j : Nat) t v, Try.f9.params[j]? = some t → args[j]? = some v → Value.okWide Try.prog W .any base t v := hval0
 have hW' := hW
 obtain ⟨p, q, hA0, hV, rfl, hfz, hnd⟩ := hW
 have hA : DataW.TrodAll enc Try.prog W 0 (fun _ => true) true Try.f9.params.toList args.toList ds p := hA0
 rw [Try.params9] at hA hval
 obtain ⟨v0, vs0, d0, ds0, p0, q0, hargs, rfl, rfl, h0, r0⟩ := trodAll_cons hA
 obtain ⟨v1, vs1, d1, ds1, p1, q1, rfl, rfl, rfl, h1, r1⟩ := trodAll_cons r0
 obtain ⟨rfl, rfl, rfl⟩ := trodAll_nil r1
 obtain rfl : args = #[v0, v1] := by cases args; simp_all
 obtain ⟨rfl, rfl⟩ := trodVars_none hV
 have k0 := h0
 have lt0 : ∀ x ∈ p0, x.block < W.heap.size := by obtain ⟨m, hm⟩ := k0; exact DataW.trod_lt m _ _ _ hm
 obtain ⟨fu0, hf0⟩ := h0
 obtain ⟨x0, hK0, ho0⟩ := of39t H enc W _ _ _ hf0
 obtain ⟨cs0, rfl, _⟩ := okWide_struct Try.underlying39 (hval 0 39 v0 rfl rfl)
 obtain ⟨_, _, hcs0, rfl, ⟨_, _, rfl, rfl, ⟨_, _, rfl, ⟨A0_2, c0_2, rfl, hc0_2, hr0_2⟩, ⟨_, _, rfl, ⟨A0_3, c0_3, rfl, hc0_3, hr0_3⟩, ⟨_, _, rfl, ⟨A0_4, c0_4, rfl, hc0_4, hr0_4⟩, ⟨A0_5, c0_5, rfl, hc0_5, hr0_5⟩⟩⟩⟩⟩⟩ := hK0
 obtain rfl : cs0 = #[.int .i64 ((x0).1), .int .i64 (((x0).2).1), .slice A0_2 (((x0).2).2).1.length c0_2, .slice A0_3 ((((x0).2).2).2).1.length c0_3, .slice A0_4 (((((x0).2).2).2).2).1.length c0_4, .slice A0_5 (((((x0).2).2).2).2).2.length c0_5] := by
  have hcs_ : cs0.toList = _ := hcs0
  exact Array.toList_inj.1 (hcs_.trans rfl)
 have k1 := h1
 have lt1 : ∀ x ∈ p1, x.block < W.heap.size := by obtain ⟨m, hm⟩ := k1; exact DataW.trod_lt m _ _ _ hm
 obtain ⟨fu1, hf1⟩ := h1
 obtain ⟨x1, hK1, ho1⟩ := of39t H enc W _ _ _ hf1
 obtain ⟨cs1, rfl, _⟩ := okWide_struct Try.underlying39 (hval 1 39 v1 rfl rfl)
 obtain ⟨_, _, hcs1, rfl, ⟨_, _, rfl, rfl, ⟨_, _, rfl, ⟨A1_2, c1_2, rfl, hc1_2, hr1_2⟩, ⟨_, _, rfl, ⟨A1_3, c1_3, rfl, hc1_3, hr1_3⟩, ⟨_, _, rfl, ⟨A1_4, c1_4, rfl, hc1_4, hr1_4⟩, ⟨A1_5, c1_5, rfl, hc1_5, hr1_5⟩⟩⟩⟩⟩⟩ := hK1
 obtain rfl : cs1 = #[.int .i64 ((x1).1), .int .i64 (((x1).2).1), .slice A1_2 (((x1).2).2).1.length c1_2, .slice A1_3 ((((x1).2).2).2).1.length c1_3, .slice A1_4 (((((x1).2).2).2).2).1.length c1_4, .slice A1_5 (((((x1).2).2).2).2).2.length c1_5] := by
  have hcs_ : cs1.toList = _ := hcs1
  exact Array.toList_inj.1 (hcs_.trans rfl)
 clear hA0 hval0 hsz0
 refine (P.Eith.walk ((x0).1) (((x0).2).1) A0_2 c0_2 ((((x0).2).2).1) A0_3 c0_3 (((((x0).2).2).2).1) A0_4 c0_4 ((((((x0).2).2).2).2).1) A0_5 c0_5 ((((((x0).2).2).2).2).2) ((x1).1) (((x1).2).1) A1_2 c1_2 ((((x1).2).2).1) A1_3 c1_3 (((((x1).2).2).2).1) A1_4 c1_4 ((((((x1).2).2).2).2).1) A1_5 c1_5 ((((((x1).2).2).2).2).2) W hr0_2 hc0_2 hr0_3 hc0_3 hr0_4 hc0_4 hr0_5 hc0_5 hr1_2 hc1_2 hr1_3 hc1_3 hr1_4 hc1_4 hr1_5 hc1_5 ho0.2.2.1.1 ⟨ho0.2.2.2.1.1, fun x hx => (ho0.2.2.2.1.2 x hx).1⟩ ⟨ho0.2.2.2.2.1.1, fun x hx => ⟨(ho0.2.2.2.2.1.2 x hx).1, fun y hy => ((ho0.2.2.2.2.1.2 x hx).2 y hy).1⟩⟩ ⟨ho0.2.2.2.2.2.1, fun x hx => (ho0.2.2.2.2.2.2 x hx).1⟩ ho1.2.2.1.1 ⟨ho1.2.2.2.1.1, fun x hx => (ho1.2.2.2.1.2 x hx).1⟩ ⟨ho1.2.2.2.2.1.1, fun x hx => ⟨(ho1.2.2.2.2.1.2 x hx).1, fun y hy => ((ho1.2.2.2.2.1.2 x hx).2 y hy).1⟩⟩ ⟨ho1.2.2.2.2.2.1, fun x hx => (ho1.2.2.2.2.2.2 x hx).1⟩).mono fun e W' hp => ?_
 obtain ⟨he, bel0⟩ := hp
 have bel : Below W.heap.size W W' := bel0
 subst he
 exact ⟨_, rfl, _, _, _, [], _, [], hW', trodAll_mk1 (shut_bool Try.underlying4 _), (trodAll_cons_mk (Below.trod laidOut (by kernel_rfl) (oT (by kernel_rfl)) k0 bel lt0) (trodAll_cons_mk (Below.trod laidOut (by kernel_rfl) (oT (by kernel_rfl)) k1 bel lt1) trodAll_mk0)), rfl, bel.frame _, fun h => by cases h⟩
end Go.Proofs.Ytepkfigcnnfoaaa.fnExactEitherCheckers
