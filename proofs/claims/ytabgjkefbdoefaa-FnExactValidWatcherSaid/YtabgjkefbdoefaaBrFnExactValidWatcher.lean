/- What the law FnExactValidWatcher leans on: plain facts, and what the printed functions that it reaches come to; for all arguments that the facts name. -/
import Derived.Test.YtabgjkefbdoefaaPx0
import Derived.Test.YtabgjkefbdoefaaPx12
import Derived.Test.YtabgjkefbdoefaaPx13
import Derived.Test.YtabgjkefbdoefaaPx14
import Derived.Test.YtabgjkefbdoefaaPx15
import Derived.Test.YtabgjkefbdoefaaPx16
import Derived.Test.YtabgjkefbdoefaaPx17
import Derived.Test.YtabgjkefbdoefaaPx19
import Derived.Test.YtabgjkefbdoefaaPx21
import Derived.Test.YtabgjkefbdoefaaPx24
import Derived.Test.YtabgjkefbdoefaaPx28
import Derived.Test.YtabgjkefbdoefaaPx29
import Derived.Test.YtabgjkefbdoefaaPx32
import Derived.Test.YtabgjkefbdoefaaPx33
import Derived.Test.YtabgjkefbdoefaaPx40
import Derived.Test.YtabgjkefbdoefaaPx45
import Derived.Test.YtabgjkefbdoefaaPx47
import Derived.Test.YtabgjkefbdoefaaPx48
import Derived.Test.YtabgjkefbdoefaaPx49
import Derived.Test.YtabgjkefbdoefaaPx50
import Derived.Test.YtabgjkefbdoefaaPx53
import Derived.Test.YtabgjkefbdoefaaPx54
import Derived.Test.YtabgjkefbdoefaaPx55
import Derived.Test.YtabgjkefbdoefaaPx58
import Derived.Test.YtabgjkefbdoefaaPx59
import Derived.Test.YtabgjkefbdoefaaPx64
import Derived.Test.YtabgjkefbdoefaaPx70
import Derived.Test.YtabgjkefbdoefaaPx71
import Derived.Test.YtabgjkefbdoefaaPx72
import Derived.Test.YtabgjkefbdoefaaPx74
import Derived.Test.YtabgjkefbdoefaaPx75
import Derived.Test.YtabgjkefbdoefaaPx77
import Derived.Test.YtabgjkefbdoefaaPx80
import Derived.Test.YtabgjkefbdoefaaPx81
import Derived.Test.YtabgjkefbdoefaaPx89
import Derived.Test.YtabgjkefbdoefaaPx91
import Derived.Test.YtabgjkefbdoefaaPx7000000
import Derived.Test.YtabgjkefbdoefaaPx7000001
import Derived.Test.YtabgjkefbdoefaaPx7000002
import Derived.Test.YtabgjkefbdoefaaPx7000003
import Derived.Test.YtabgjkefbdoefaaPx7000004
import Derived.Test.YtabgjkefbdoefaaPx7000005
namespace Go.Proofs.Ytabgjkefbdoefaa.Th

def g (l : List Int) (j : Nat) : Int := l.getD j 0

end Go.Proofs.Ytabgjkefbdoefaa.Th
namespace Go.Proofs.Ytabgjkefbdoefaa.Br
open Go.RowKit Go.Proofs.Ytabgjkefbdoefaa.P Go.Proofs.YtabgjkefbdoefaaW.PrintWords Go.Proofs.YtabgjkefbdoefaaW.PrintLast Go.Proofs.YtabgjkefbdoefaaW.PrintMore Go.Proofs.Ytabgjkefbdoefaa.Th
set_option linter.unusedVariables false
set_option linter.unusedSimpArgs false
theorem Ev.succ {α : Type} {g : Nat → Option α} {r : α} (h : Ev (fun k => g (k + 1)) r) : Ev g r := by
  obtain ⟨K, hK⟩ := h
  refine ⟨K + 1, fun k hk => ?_⟩
  obtain ⟨m, rfl⟩ : ∃ m, k = m + 1 := ⟨k - 1, by omega⟩
  exact hK m (by omega)
theorem Ev.done {α : Type} {r s : α} (h : r = s) : Ev (fun _ : Nat => some r) s := h ▸ Ev.now r
theorem w64 {x : Int} (h0 : -9223372036854775808 ≤ x) (h1 : x ≤ 9223372036854775807) : wrap64 x = x := by unfold wrap64; omega

end Go.Proofs.Ytabgjkefbdoefaa.Br
namespace Go.Proofs.Ytabgjkefbdoefaa.Br
open Go.RowKit Go.Proofs.Ytabgjkefbdoefaa.P Go.Proofs.YtabgjkefbdoefaaW.PrintWords Go.Proofs.YtabgjkefbdoefaaW.PrintLast Go.Proofs.YtabgjkefbdoefaaW.PrintMore Go.Proofs.Ytabgjkefbdoefaa.Th
set_option linter.unusedVariables false
set_option linter.unusedSimpArgs false
theorem in_eq (a lo hi : Int) : spec_l00In.f a lo hi = some (decide (lo ≤ a ∧ a ≤ hi)) := by
  unfold spec_l00In.f
  by_cases h : a ≥ lo
  · rw [if_pos h]; congr 1; simp; omega
  · rw [if_neg h]; congr 1; simp; omega
theorem within_eq (a lo hi : Int) : impl_within.f a lo hi = some (decide (lo ≤ a ∧ a ≤ hi)) := by
  unfold impl_within.f
  by_cases h : a ≥ lo
  · rw [if_pos h]; congr 1; simp; omega
  · rw [if_neg h]; congr 1; simp; omega

end Go.Proofs.Ytabgjkefbdoefaa.Br
namespace Go.Proofs.Ytabgjkefbdoefaa.Br
open Go.RowKit Go.Proofs.Ytabgjkefbdoefaa.P Go.Proofs.YtabgjkefbdoefaaW.PrintWords Go.Proofs.YtabgjkefbdoefaaW.PrintLast Go.Proofs.YtabgjkefbdoefaaW.PrintMore Go.Proofs.Ytabgjkefbdoefaa.Th
set_option linter.unusedVariables false
set_option linter.unusedSimpArgs false
/-- The greatest of some numbers and a first one. -/
def most (x : Int) (l : List Int) : Int := l.foldl mx x

end Go.Proofs.Ytabgjkefbdoefaa.Br
namespace Go.Proofs.Ytabgjkefbdoefaa.Br
open Go.RowKit Go.Proofs.Ytabgjkefbdoefaa.P Go.Proofs.YtabgjkefbdoefaaW.PrintWords Go.Proofs.YtabgjkefbdoefaaW.PrintLast Go.Proofs.YtabgjkefbdoefaaW.PrintMore Go.Proofs.Ytabgjkefbdoefaa.Th
set_option linter.unusedVariables false
set_option linter.unusedSimpArgs false
/-- Is a text a test. -/
def tst (l : List UInt8) : Bool := l == [40] || l == [91] || l == [97] || l == [98] || l == [42] || l == [46]

theorem toList_len (a : ByteArray) : a.toList.length = a.size := by rw [Lib.toList_data]; simp
theorem toList_one {a : ByteArray} (h : a.size = 1) : ∃ c : UInt8, a = ⟨#[c]⟩ ∧ a.toList = [c] := by
  obtain ⟨⟨l⟩⟩ := a
  match l, h with
  | [c], _ => exact ⟨c, rfl, by rw [Lib.toList_data]⟩

theorem sTest_eq (a : ByteArray) : spec_l05Test.f a = some (tst a.toList) := by
  unfold spec_l05Test.f tst
  by_cases h1 : a.toList = [40]
  · simp [h1]
  · by_cases h2 : a.toList = [91]
    · simp [h2]
    · by_cases h3 : a.toList = [97]
      · simp [h3]
      · by_cases h4 : a.toList = [98]
        · simp [h4]
        · by_cases h5 : a.toList = [42]
          · simp [h5]
          · simp [h1, h2, h3, h4, h5]

theorem iTest_eq (a : ByteArray) : impl_isTest.f a = some (tst a.toList) := by
  unfold impl_isTest.f
  by_cases h : a.size = 1
  · obtain ⟨c, rfl, hl⟩ := toList_one h
    rw [if_pos (by rw [h]; rfl)]
    unfold strings_Contains.f
    rw [if_pos h, hl]
    simp only [Option.bind_some]
    congr 1
    show decide (0 ≤ Lib.indexByte [40, 91, 97, 98, 42, 46] c) = tst [c]
    have key : ∀ n : Fin 256, decide (0 ≤ Lib.indexByte [40, 91, 97, 98, 42, 46] (UInt8.ofNat n.val)) = tst [UInt8.ofNat n.val] := by decide +kernel
    have := key ⟨c.toNat, c.toNat_lt⟩
    simpa using this
  · rw [if_neg (by omega)]
    have hl := toList_len a
    unfold tst
    have : ∀ x : UInt8, (a.toList == [x]) = false := by
      intro x
      rw [beq_eq_false_iff_ne]
      intro e
      rw [e] at hl
      simp at hl
      omega
    simp [this]

end Go.Proofs.Ytabgjkefbdoefaa.Br
namespace Go.Proofs.Ytabgjkefbdoefaa.Br
open Go.RowKit Go.Proofs.Ytabgjkefbdoefaa.P Go.Proofs.YtabgjkefbdoefaaW.PrintWords Go.Proofs.YtabgjkefbdoefaaW.PrintLast Go.Proofs.YtabgjkefbdoefaaW.PrintMore Go.Proofs.Ytabgjkefbdoefaa.Th
set_option linter.unusedVariables false
set_option linter.unusedSimpArgs false
theorem down {P : Nat → Prop} (n : Nat) (h0 : P n) (h1 : ∀ i, i < n → P (i + 1) → P i) : ∀ i, i ≤ n → P i := by
  have key : ∀ d i, i + d = n → P i := by
    intro d
    induction d with
    | zero => intro i hi; obtain rfl : i = n := by omega
              exact h0
    | succ d ih => intro i hi; exact h1 i (by omega) (ih (i + 1) (by omega))
  intro i hi
  exact key (n - i) i (by omega)
theorem up1 (i : Nat) (h : i < 9223372036854775807) : wrap64 ((i : Int) + 1) = ((i + 1 : Nat) : Int) := by
  rw [w64 (by omega) (by omega)]; rfl
theorem ilt {i n : Nat} (h : i < n) : (i : Int) < (n : Int) := by omega
theorem inlt {n : Nat} : ¬ ((n : Int) < (n : Int)) := by omega
theorem i0 (i : Nat) : 0 ≤ (i : Int) := by omega
theorem getD_mem {α : Type} (l : List α) (i : Nat) (d : α) (h : i < l.length) : l.getD i d ∈ l := by
  rw [List.getD_eq_getElem?_getD, List.getElem?_eq_getElem h]
  exact List.getElem_mem h
theorem take1 (a : Int) (n : Nat) (h0 : 0 ≤ a) (h1 : a ≤ 1048576) (hn : n ≤ 9223372036854775807) : wrap64 (a - (n : Int)) = a - (n : Int) := w64 (by omega) (by omega)

/-! ### loops, plainly -/
def allN (n : Nat) (e : Nat → Bool) : Bool := (List.range n).all e
def eqv {α : Type} (e : α → α → Bool) (d : α) (x y : List α) : Bool := decide (x.length = y.length) && allN x.length (fun i => e (x.getD i d) (y.getD i d))
theorem allN_true {n : Nat} {e : Nat → Bool} (h : ∀ i, i < n → e i = true) : allN n e = true := by
  unfold allN
  rw [List.all_eq_true]
  intro i hi
  exact h i (List.mem_range.1 hi)
theorem eqv_self {α : Type} (e : α → α → Bool) (d : α) (x : List α) (h : ∀ a ∈ x, e a a = true) : eqv e d x x = true := by
  unfold eqv
  rw [decide_eq_true rfl, Bool.true_and]
  exact allN_true (fun i hi => h _ (getD_mem x i d hi))
def allFromN (n : Nat) (e : Nat → Bool) : Nat → Bool
  | i => (List.range n).all fun j => decide (j < i) || e j
theorem allFromN_zero (n : Nat) (e : Nat → Bool) : allFromN n e 0 = allN n e := by
  unfold allFromN allN
  simp
theorem allFromN_end (n : Nat) (e : Nat → Bool) : allFromN n e n = true := by
  unfold allFromN
  rw [List.all_eq_true]
  intro j hj
  simp [List.mem_range.1 hj]
theorem allFromN_step (n : Nat) (e : Nat → Bool) (i : Nat) (hi : i < n) : allFromN n e i = (e i && allFromN n e (i + 1)) := by
  unfold allFromN
  apply Bool.eq_iff_iff.2
  rw [Bool.and_eq_true, List.all_eq_true, List.all_eq_true]
  constructor
  · intro H
    refine ⟨by simpa using H i (List.mem_range.2 hi), fun j hj => ?_⟩
    have := H j hj
    simp only [Bool.or_eq_true, decide_eq_true_eq] at this ⊢
    rcases this with h1 | h1
    · exact .inl (by omega)
    · exact .inr h1
  · rintro ⟨H0, H⟩ j hj
    have := H j hj
    simp only [Bool.or_eq_true, decide_eq_true_eq] at this ⊢
    by_cases h : j = i
    · subst h; exact .inr H0
    · rcases this with h1 | h1
      · exact .inl (by omega)
      · exact .inr h1
theorem allLoop (n : Nat) (L : Nat → Nat → Option Bool) (e : Nat → Bool) (hend : Ev (L n) true) (hs : ∀ i, i < n → ∀ r, Ev (L (i + 1)) r → Ev (L i) (e i && r)) : Ev (L 0) (allN n e) := by
  rw [← allFromN_zero]
  refine down (P := fun i => Ev (L i) (allFromN n e i)) n ?_ ?_ 0 (by omega)
  · show Ev (L n) (allFromN n e n)
    rw [allFromN_end]; exact hend
  · intro i hi ih
    show Ev (L i) (allFromN n e i)
    rw [allFromN_step n e i hi]
    exact hs i hi _ ih
theorem andEv {g : Nat → Option Bool} {a r : Bool} {f : Nat → Option Bool} (h : Ev g a) (k : Ev f r) : Ev (fun n => (g n).bind fun t => if t = true then f n else some false) (a && r) := by
  refine Ev.bind h ?_
  cases a with
  | true => simp only [if_true, Bool.true_and]; exact k
  | false => simp only [Bool.false_eq_true, if_false, Bool.false_and]; exact Ev.now _
theorem eqEv {a b : Int} {r : Bool} {f : Nat → Option Bool} (k : Ev f r) : Ev (fun n => if a = b then f n else some false) (a == b && r) := by
  by_cases h : a = b
  · subst h; simp only [if_true, beq_self_eq_true, Bool.true_and]; exact k
  · simp only [if_neg h, beq_false_of_ne h, Bool.false_and]; exact Ev.now _
theorem lenEv {m n : Nat} {r : Bool} {f : Nat → Option Bool} (k : m = n → Ev f r) : Ev (fun q => if (m : Int) = (n : Int) then f q else some false) (decide (m = n) && r) := by
  by_cases h : m = n
  · simp only [if_pos (show (m : Int) = (n : Int) by omega), decide_eq_true h, Bool.true_and]; exact k h
  · simp only [if_neg (show ¬ (m : Int) = (n : Int) by omega), decide_eq_false h, Bool.false_and]; exact Ev.now _
theorem toLoop {β : Type} (n : Nat) (L : Nat → List β → Nat → Option (List β)) (v : List β) (d : β) (hv : v.length = n) (hend : ∀ o, Ev (L n o) o)
    (hs : ∀ i o, i < n → o.length = n → Ev (L (i + 1) (o.set i (v.getD i d))) v → Ev (L i o) v) : ∀ o, o.length = n → Ev (L 0 o) v := by
  have key : ∀ i, i ≤ n → ∀ o, o.length = n → o.take i = v.take i → Ev (L i o) v := by
    refine down n ?_ ?_
    · intro o ho ht
      have : o = v := by rw [← List.take_length (l := o), ho, ht, List.take_of_length_le (by omega)]
      subst this
      exact hend o
    · intro i hi ih o ho ht
      refine hs i o hi ho (ih _ (by simpa using ho) ?_)
      rw [List.take_add_one, List.take_add_one, List.take_set_of_le (by omega), ht, List.getElem?_set_self (by omega), List.getElem?_eq_getElem (show i < v.length by omega), List.getD_eq_getElem?_getD, List.getElem?_eq_getElem (show i < v.length by omega)]
      rfl
  intro o ho
  exact key 0 (by omega) o ho (by simp)
theorem szLoop {α : Type} (l : List α) (d : α) (ok : α → Prop) (L : Nat → Int → Nat → Option Int) (hend : ∀ a, Ev (L l.length a) a)
    (hs : ∀ i, i < l.length → ∀ a, 0 ≤ a → a ≤ 1048576 → Ev (L i a) (-1) ∨ (ok (l.getD i d) ∧ ∃ b, 0 ≤ b ∧ b ≤ a ∧ ∀ r, Ev (L (i + 1) b) r → Ev (L i a) r)) :
    ∀ a, 0 ≤ a → a ≤ 1048576 → ∃ r, Ev (L 0 a) r ∧ (r < 0 ∨ (0 ≤ r ∧ r ≤ a ∧ ∀ x ∈ l, ok x)) := by
  have key : ∀ i, i ≤ l.length → ∀ a, 0 ≤ a → a ≤ 1048576 → ∃ r, Ev (L i a) r ∧ (r < 0 ∨ (0 ≤ r ∧ r ≤ a ∧ ∀ j, i ≤ j → j < l.length → ok (l.getD j d))) := by
    refine down l.length ?_ ?_
    · intro a h0 h1
      exact ⟨a, hend a, .inr ⟨h0, by omega, fun j _ _ => by omega⟩⟩
    · intro i hi ih a h0 h1
      rcases hs i hi a h0 h1 with h | ⟨ho, b, b0, b1, h⟩
      · exact ⟨-1, h, .inl (by omega)⟩
      · obtain ⟨r, hr, hr2⟩ := ih b b0 (by omega)
        refine ⟨r, h r hr, ?_⟩
        rcases hr2 with h2 | ⟨q0, q1, q2⟩
        · exact .inl h2
        · refine .inr ⟨q0, by omega, fun j hj hj2 => ?_⟩
          by_cases e : j = i
          · subst e; exact ho
          · exact q2 j (by omega) hj2
  intro a h0 h1
  obtain ⟨r, hr, hr2⟩ := key 0 (by omega) a h0 h1
  refine ⟨r, hr, ?_⟩
  rcases hr2 with h2 | ⟨q0, q1, q2⟩
  · exact .inl h2
  · refine .inr ⟨q0, q1, fun x hx => ?_⟩
    obtain ⟨j, hj⟩ := List.getElem?_of_mem hx
    have := q2 j (by omega) (List.getElem?_eq_some_iff.1 hj).1
    rwa [List.getD_eq_getElem?_getD, hj] at this
end Go.Proofs.Ytabgjkefbdoefaa.Br
namespace Go.Proofs.Ytabgjkefbdoefaa.Br
open Go.RowKit Go.Proofs.Ytabgjkefbdoefaa.P Go.Proofs.YtabgjkefbdoefaaW.PrintWords Go.Proofs.YtabgjkefbdoefaaW.PrintLast Go.Proofs.YtabgjkefbdoefaaW.PrintMore Go.Proofs.Ytabgjkefbdoefaa.Th
set_option linter.unusedVariables false
set_option linter.unusedSimpArgs false
def eint (a b : Int) : Bool := a == b
/-- How long a row is, and those inside. -/
def sm0 {α : Type} (l : List α) : Prop := l.length ≤ 1048576
def sm1 {α : Type} (l : List (List α)) : Prop := l.length ≤ 1048576 ∧ ∀ x ∈ l, sm0 x
theorem laws_eqInt64S_ev (x y : List Int) (hx : sm0 x) : Ev (fun k => laws_eqInt64S.f k x y) (eqv eint 0 x y) := by
  have hl : x.length ≤ 1048576 := hx
  unfold laws_eqInt64S.f eqv
  refine lenEv (fun h => allLoop x.length (fun i k => laws_eqInt64S.l0 k x y (i : Int)) _ ?_ ?_)
  · refine Ev.succ ?_
    simp only [laws_eqInt64S.l0, if_neg inlt]
    exact Ev.now _
  · intro i hi r hr
    refine Ev.succ ?_
    simp only [laws_eqInt64S.l0, if_pos (ilt hi), if_pos (i0 i), if_pos (ilt (show i < y.length by omega)), up1 i (by omega)]
    exact eqEv hr

theorem spec_l00Same_ev (x y : List Int) (hx : sm0 x) : Ev (fun k => spec_l00Same.f k x y) (eqv eint 0 x y) := by
  have hl : x.length ≤ 1048576 := hx
  unfold spec_l00Same.f eqv
  refine lenEv (fun h => allLoop x.length (fun i k => spec_l00Same.l0 k x y (i : Int)) _ ?_ ?_)
  · refine Ev.succ ?_
    simp only [spec_l00Same.l0, if_neg inlt]
    exact Ev.now _
  · intro i hi r hr
    refine Ev.succ ?_
    simp only [spec_l00Same.l0, if_pos (ilt hi), if_pos (i0 i), if_pos (ilt (show i < y.length by omega)), up1 i (by omega)]
    exact eqEv hr

theorem slices_Equal_Lint64_int64_ev (x y : List Int) (hx : sm0 x) : Ev (fun k => slices_Equal_Lint64_int64.f k x y) (eqv eint 0 x y) := by
  have hl : x.length ≤ 1048576 := hx
  unfold slices_Equal_Lint64_int64.f eqv
  refine lenEv (fun h => allLoop x.length (fun i k => slices_Equal_Lint64_int64.l0 k x y (x.length : Int) (i : Int)) _ ?_ ?_)
  · refine Ev.succ ?_
    simp only [slices_Equal_Lint64_int64.l0, if_neg inlt]
    exact Ev.now _
  · intro i hi r hr
    refine Ev.succ ?_
    simp only [slices_Equal_Lint64_int64.l0, if_pos (ilt hi), if_pos (i0 i), if_pos (ilt (show i < y.length by omega)), up1 i (by omega)]
    exact eqEv hr

theorem laws_eqInt64SS_ev (x y : List (List Int)) (hx : sm1 x) : Ev (fun k => laws_eqInt64SS.f k x y) (eqv (eqv eint 0) ([] : (List Int)) x y) := by
  have hl : x.length ≤ 1048576 := hx.1
  unfold laws_eqInt64SS.f eqv
  refine lenEv (fun h => allLoop x.length (fun i k => laws_eqInt64SS.l0 k x y (i : Int)) _ ?_ ?_)
  · refine Ev.succ ?_
    simp only [laws_eqInt64SS.l0, if_neg inlt]
    exact Ev.now _
  · intro i hi r hr
    refine Ev.succ ?_
    simp only [laws_eqInt64SS.l0, if_pos (ilt hi), if_pos (i0 i), if_pos (ilt (show i < y.length by omega)), up1 i (by omega)]
    exact andEv (laws_eqInt64S_ev _ _ (hx.2 _ (getD_mem x i _ hi))) hr

end Go.Proofs.Ytabgjkefbdoefaa.Br
namespace Go.Proofs.Ytabgjkefbdoefaa.Br
open Go.RowKit Go.Proofs.Ytabgjkefbdoefaa.P Go.Proofs.YtabgjkefbdoefaaW.PrintWords Go.Proofs.YtabgjkefbdoefaaW.PrintLast Go.Proofs.YtabgjkefbdoefaaW.PrintMore Go.Proofs.Ytabgjkefbdoefaa.Th
set_option linter.unusedVariables false
set_option linter.unusedSimpArgs false
theorem laws_toInt64S_ev (l : List Int) (hl : sm0 l) : Ev (fun k => laws_toInt64S.f k l) l := by
  have hl' : l.length ≤ 1048576 := hl
  unfold laws_toInt64S.f
  simp only [if_pos (i0 l.length), Int.toNat_natCast, if_pos (show l.length ≤ 35184372088832 by omega)]
  refine toLoop l.length (fun i o k => laws_toInt64S.l0 k l o i) l 0 rfl ?_ ?_ _ (by simp)
  · intro o
    refine Ev.succ ?_
    simp only [laws_toInt64S.l0, if_neg inlt]
    exact Ev.now _
  · intro i o hi ho h
    refine Ev.succ ?_
    simp only [laws_toInt64S.l0, if_pos (ilt hi), if_pos (i0 i), if_pos (ilt (show i < o.length by omega)), up1 i (by omega), Int.toNat_natCast]
    exact h
theorem laws_toInt64SS_ev (l : List (List Int)) (hl : sm1 l) : Ev (fun k => laws_toInt64SS.f k l) l := by
  have hl' : l.length ≤ 1048576 := hl.1
  unfold laws_toInt64SS.f
  simp only [if_pos (i0 l.length), Int.toNat_natCast, if_pos (show l.length ≤ 11728124029610 by omega)]
  refine toLoop l.length (fun i o k => laws_toInt64SS.l0 k l o i) l [] rfl ?_ ?_ _ (by simp)
  · intro o
    refine Ev.succ ?_
    simp only [laws_toInt64SS.l0, if_neg inlt]
    exact Ev.now _
  · intro i o hi ho h
    refine Ev.succ ?_
    simp only [laws_toInt64SS.l0, if_pos (ilt hi), if_pos (i0 i), if_pos (ilt (show i < o.length by omega)), up1 i (by omega), Int.toNat_natCast]
    exact Ev.bind (laws_toInt64S_ev (l.getD i []) (hl.2 _ (getD_mem l i _ hi))) h
theorem eint_self (a : Int) : eint a a = true := by simp [eint]
theorem laws_szInt64S_ev (l : List Int) (a : Int) (h0 : 0 ≤ a) (h1 : a ≤ 1048576) (hl : l.length ≤ 9223372036854775807) : ∃ r, laws_szInt64S.f l a = some r ∧ (r < 0 ∨ (0 ≤ r ∧ r ≤ a ∧ sm0 l)) := by
  unfold laws_szInt64S.f
  rw [take1 a _ h0 h1 hl]
  by_cases h : a - (l.length : Int) < 0
  · exact ⟨-1, by rw [if_pos h], .inl (by omega)⟩
  · exact ⟨_, by rw [if_neg h], .inr ⟨by omega, by omega, by show l.length ≤ 1048576; omega⟩⟩
theorem laws_szInt64SS_ev (l : List (List Int)) (a : Int) (h0 : 0 ≤ a) (h1 : a ≤ 1048576) (hl : l.length ≤ 9223372036854775807) (hi : ∀ x ∈ l, x.length ≤ 9223372036854775807) :
    ∃ r, Ev (fun k => laws_szInt64SS.f k l a) r ∧ (r < 0 ∨ (0 ≤ r ∧ r ≤ a ∧ sm1 l)) := by
  unfold laws_szInt64SS.f
  rw [take1 a _ h0 h1 hl]
  by_cases h : a - (l.length : Int) < 0
  · exact ⟨-1, by simp only [if_pos h]; exact Ev.now _, .inl (by omega)⟩
  · obtain ⟨r, hr, hr2⟩ := szLoop l [] sm0 (fun i c k => laws_szInt64SS.l0 k l c i) (fun c => by
        refine Ev.succ ?_
        simp only [laws_szInt64SS.l0, if_neg inlt]
        exact Ev.now _) (fun i hi' c c0 c1 => by
        have hm := getD_mem l i [] hi'
        obtain ⟨r, hr, hr2⟩ := laws_szInt64S_ev (l.getD i []) c c0 c1 (hi _ hm)
        by_cases hn : r < 0
        · refine .inl (Ev.succ ?_)
          simp only [laws_szInt64SS.l0, if_pos (ilt hi'), if_pos (i0 i)]
          exact Ev.bind ⟨0, fun _ _ => hr⟩ (by simp only [if_pos hn]; exact Ev.now _)
        · rcases hr2 with h2 | ⟨q0, q1, q2⟩
          · exact absurd h2 hn
          · refine .inr ⟨q2, r, q0, q1, fun s hs => Ev.succ ?_⟩
            simp only [laws_szInt64SS.l0, if_pos (ilt hi'), if_pos (i0 i), up1 i (by omega)]
            exact Ev.bind ⟨0, fun _ _ => hr⟩ (by simp only [if_neg hn]; exact hs)) (a - (l.length : Int)) (by omega) (by omega)
    refine ⟨r, by simp only [if_neg h]; exact hr, ?_⟩
    rcases hr2 with h2 | ⟨q0, q1, q2⟩
    · exact .inl h2
    · exact .inr ⟨q0, by omega, ⟨by omega, q2⟩⟩
end Go.Proofs.Ytabgjkefbdoefaa.Br
namespace Go.Proofs.Ytabgjkefbdoefaa.Br
open Go.RowKit Go.Proofs.Ytabgjkefbdoefaa.P Go.Proofs.YtabgjkefbdoefaaW.PrintWords Go.Proofs.YtabgjkefbdoefaaW.PrintLast Go.Proofs.YtabgjkefbdoefaaW.PrintMore Go.Proofs.Ytabgjkefbdoefaa.Th
set_option linter.unusedVariables false
set_option linter.unusedSimpArgs false

/-! ### laws' queries -/
theorem szQueryStep_ev (b : Bool) (s : ByteArray) (a : Int) (h0 : 0 ≤ a) (h1 : a ≤ 1048576) (hs : s.size ≤ 9223372036854775807) :
    ∃ r, laws_szQueryStep.f b s a = some r ∧ (r < 0 ∨ (0 ≤ r ∧ r ≤ a ∧ (s.size : Int) ≤ 1048576)) := by
  unfold laws_szQueryStep.f
  rw [take1 a _ h0 h1 hs]
  by_cases h : a - (s.size : Int) < 0
  · exact ⟨-1, by rw [if_pos h], .inl (by omega)⟩
  · exact ⟨_, by rw [if_neg h], .inr (by omega)⟩
theorem szQuery_ev (l : List S107) (a : Int) (h0 : 0 ≤ a) (h1 : a ≤ 1048576) (hl : l.length ≤ 9223372036854775807) (hs : ∀ x ∈ l, x.f1.size ≤ 9223372036854775807) :
    ∃ r, Ev (fun k => laws_szQuery.f k l a) r ∧ (r < 0 ∨ (0 ≤ r ∧ r ≤ a ∧ (l.length : Int) ≤ 1048576 ∧ ∀ x ∈ l, (x.f1.size : Int) ≤ 1048576)) := by
  have loop : ∀ i, i ≤ l.length → ∀ c, 0 ≤ c → c ≤ 1048576 → ∃ r, Ev (fun k => laws_szQueryStepS.l0 k l c i) r ∧ (r < 0 ∨ (0 ≤ r ∧ r ≤ c ∧ ∀ j, i ≤ j → j < l.length → ((l.getD j z107).f1.size : Int) ≤ 1048576)) := by
    refine down l.length ?_ ?_
    · intro c hc _
      refine ⟨c, Ev.succ ?_, .inr ⟨hc, by omega, fun j h1 h2 => by omega⟩⟩
      simp only [laws_szQueryStepS.l0, if_neg inlt]
      exact Ev.now _
    · intro i hi ih c hc hc2
      have hm := getD_mem l i z107 hi
      obtain ⟨r, hr, hr2⟩ := szQueryStep_ev (l.getD i z107).f0 (l.getD i z107).f1 c hc hc2 (hs _ hm)
      by_cases hneg : r < 0
      · refine ⟨-1, Ev.succ ?_, .inl (by omega)⟩
        simp only [laws_szQueryStepS.l0, if_pos (ilt hi), if_pos (i0 i), rd_T107, Int.toNat_natCast, hr, Option.bind_some, if_pos hneg]
        exact Ev.now _
      · obtain ⟨q, hq, hq2⟩ := ih r (by omega) (by omega)
        refine ⟨q, Ev.succ ?_, ?_⟩
        · simp only [laws_szQueryStepS.l0, if_pos (ilt hi), if_pos (i0 i), rd_T107, Int.toNat_natCast, hr, Option.bind_some, if_neg hneg, up1 i (by omega)]
          exact hq
        · rcases hq2 with hq2 | ⟨q0, q1, q2⟩
          · exact .inl hq2
          · refine .inr ⟨q0, by omega, fun j hj1 hj2 => ?_⟩
            by_cases e : j = i
            · subst e; omega
            · exact q2 j (by omega) hj2
  unfold laws_szQuery.f laws_szQueryStepS.f
  rw [take1 a _ h0 h1 hl]
  by_cases h : a - (l.length : Int) < 0
  · exact ⟨-1, by simp only [if_pos h, Option.bind_some, show ((-1 : Int) < 0) = True from eq_true (by decide), if_true]; exact Ev.now _, .inl (by omega)⟩
  · obtain ⟨r, hr, hr2⟩ := loop 0 (by omega) (a - (l.length : Int)) (by omega) (by omega)
    by_cases hneg : r < 0
    · exact ⟨-1, by simp only [if_neg h]; exact hr.bind (by simp only [if_pos hneg]; exact Ev.now _), .inl (by omega)⟩
    · refine ⟨r, by simp only [if_neg h]; exact hr.bind (by simp only [if_neg hneg]; exact Ev.now _), .inr ⟨by omega, by omega, by omega, fun x hx => ?_⟩⟩
      obtain ⟨j, hj⟩ := List.getElem?_of_mem hx
      rcases hr2 with h2 | ⟨_, _, h2⟩
      · omega
      · have hlt := (List.getElem?_eq_some_iff.1 hj).1
        have := h2 j (by omega) hlt
        rwa [List.getD_eq_getElem?_getD, hj] at this
/-- A law's query as the program's. -/
def toQ (l : List S107) : List S102 := l.map fun x => ⟨x.f0, x.f1⟩
theorem toQuery_ev (l : List S107) (hl : l.length ≤ 1048576) : Ev (fun k => laws_toQuery.f k l) (toQ l) := by
  have loop : ∀ i, i ≤ l.length → ∀ o : List S102, o.length = l.length → o.take i = (toQ l).take i → Ev (fun k => laws_toQueryStepS.l0 k l o i) (toQ l) := by
    refine down l.length ?_ ?_
    · intro o ho ht
      have : o = toQ l := by rw [← List.take_length (l := o), ho, ht, List.take_of_length_le (by simp [toQ])]
      refine Ev.succ ?_
      simp only [laws_toQueryStepS.l0, if_neg inlt]
      exact Ev.done (by rw [this])
    · intro i hi ih o ho ht
      refine Ev.succ ?_
      simp only [laws_toQueryStepS.l0, if_pos (ilt hi), if_pos (i0 i), rd_T107, Int.toNat_natCast, laws_toQueryStep.f, Option.bind_some, if_pos (ilt (show i < o.length by omega)), up1 i (by omega)]
      refine ih _ (by simpa using ho) ?_
      rw [List.take_add_one, List.take_add_one, List.take_set_of_le (by omega), ht]
      have e1 : (o.set i (⟨(l.getD i z107).f0, (l.getD i z107).f1⟩ : S102))[i]? = some ⟨(l.getD i z107).f0, (l.getD i z107).f1⟩ := by
        rw [List.getElem?_set_self (by omega)]
      have e2 : (toQ l)[i]? = some ⟨(l.getD i z107).f0, (l.getD i z107).f1⟩ := by
        unfold toQ
        rw [List.getElem?_map, List.getElem?_eq_getElem hi, List.getD_eq_getElem?_getD, List.getElem?_eq_getElem hi]
        rfl
      rw [e1, e2]
  unfold laws_toQuery.f laws_toQueryStepS.f
  simp only [if_pos (i0 l.length), Int.toNat_natCast, if_pos (show l.length ≤ 11728124029610 by omega)]
  refine Ev.bind (loop 0 (by omega) _ (by simp) (by simp)) (Ev.now _)
theorem eqQuery_ev (l : List S102) (hl : l.length ≤ 1048576) : Ev (fun k => laws_eqQuery.f k l l) true := by
  have loop : ∀ i, i ≤ l.length → Ev (fun k => laws_eqQueryStepS.l0 k l l i) true := by
    refine down l.length ?_ ?_
    · refine Ev.succ ?_
      simp only [laws_eqQueryStepS.l0, if_neg inlt]
      exact Ev.now _
    · intro i hi ih
      refine Ev.succ ?_
      simp only [laws_eqQueryStepS.l0, if_pos (ilt hi), if_pos (i0 i), laws_eqQueryStep.f, bne_self_eq_false, Bool.false_eq_true, if_false, if_true, Option.bind_some, up1 i (by omega)]
      exact ih
  unfold laws_eqQuery.f laws_eqQueryStepS.f
  simp only [if_true]
  exact Ev.bind (loop 0 (by omega)) (by simp only [if_true]; exact Ev.now _)
theorem toQ_length (l : List S107) : (toQ l).length = l.length := by simp [toQ]
end Go.Proofs.Ytabgjkefbdoefaa.Br
namespace Go.Proofs.Ytabgjkefbdoefaa.Br
open Go.RowKit Go.Proofs.Ytabgjkefbdoefaa.P Go.Proofs.YtabgjkefbdoefaaW.PrintWords Go.Proofs.YtabgjkefbdoefaaW.PrintLast Go.Proofs.YtabgjkefbdoefaaW.PrintMore Go.Proofs.Ytabgjkefbdoefaa.Th
set_option linter.unusedVariables false
set_option linter.unusedSimpArgs false
theorem drop_all {α : Type} (l : List α) (p : α → Bool) (i : Nat) (d : α) (h : i < l.length) : (l.drop i).all p = (p (l.getD i d) && (l.drop (i + 1)).all p) := by
  rw [List.drop_eq_getElem_cons h, List.all_cons, List.getD_eq_getElem?_getD, List.getElem?_eq_getElem h]
  rfl
theorem drop_end {α : Type} (l : List α) : l.drop l.length = [] := List.drop_length
def tstS (x : S102) : Bool := tst x.f1.toList
def okQ (l : List S102) : Bool := l.all tstS && decide (1 ≤ (l.length : Int) ∧ (l.length : Int) ≤ 6)
theorem implValidQ_ev (l : List S102) (hl : l.length ≤ 1048576) : Ev (fun k => impl_ValidQuery.f k l) (okQ l) := by
  have loop : ∀ i, i ≤ l.length → ∃ r : Int, Ev (fun k => slices_IndexFunc_Limpl_QueryStep_impl_QueryStep_at_impl_ValidQuery_1.l0 k l (l.length : Int) i) r ∧ ((l.drop i).all tstS = !(decide (r ≥ 0))) := by
    refine down l.length ?_ ?_
    · refine ⟨-1, Ev.succ ?_, by rw [drop_end]; rfl⟩
      simp only [slices_IndexFunc_Limpl_QueryStep_impl_QueryStep_at_impl_ValidQuery_1.l0, if_neg inlt]
      exact Ev.now _
    · intro i hi ih
      obtain ⟨r, hr, he⟩ := ih
      by_cases e : tst (l.getD i z102).f1.toList = true
      · refine ⟨r, Ev.succ ?_, ?_⟩
        · simp only [slices_IndexFunc_Limpl_QueryStep_impl_QueryStep_at_impl_ValidQuery_1.l0, if_pos (ilt hi), if_pos (i0 i), rd_T102, Int.toNat_natCast, impl_ValidQuery_1.f, iTest_eq, Option.bind_some, e, Bool.not_true, Bool.false_eq_true, if_false, up1 i (by omega)]
          exact hr
        · rw [drop_all l tstS i z102 hi, show tstS (l.getD i z102) = true from e, Bool.true_and, he]
      · have e' : tst (l.getD i z102).f1.toList = false := by simpa using e
        refine ⟨(i : Int), Ev.succ ?_, ?_⟩
        · simp only [slices_IndexFunc_Limpl_QueryStep_impl_QueryStep_at_impl_ValidQuery_1.l0, if_pos (ilt hi), if_pos (i0 i), rd_T102, Int.toNat_natCast, impl_ValidQuery_1.f, iTest_eq, Option.bind_some, e', Bool.not_false, if_true]
          exact Ev.now _
        · rw [drop_all l tstS i z102 hi, show tstS (l.getD i z102) = false from e', Bool.false_and]
          simp
  obtain ⟨r, hr, he⟩ := loop 0 (by omega)
  unfold impl_ValidQuery.f impl_size_impl_QueryStep.f okQ
  simp only [Option.bind_some, within_eq]
  by_cases h : 1 ≤ (l.length : Int) ∧ (l.length : Int) ≤ 6
  · simp only [decide_eq_true h, if_true, Bool.and_true]
    rw [List.drop_zero] at he
    rw [he]
    unfold slices_ContainsFunc_Limpl_QueryStep_impl_QueryStep_at_impl_ValidQuery_1.f slices_IndexFunc_Limpl_QueryStep_impl_QueryStep_at_impl_ValidQuery_1.f
    exact Ev.bind (Ev.bind hr (Ev.now _)) (Ev.now _)
  · simp only [decide_eq_false h, Bool.false_eq_true, if_false, Bool.and_false]
    exact Ev.now _
end Go.Proofs.Ytabgjkefbdoefaa.Br
namespace Go.Proofs.Ytabgjkefbdoefaa.Br
open Go.RowKit Go.Proofs.Ytabgjkefbdoefaa.P Go.Proofs.YtabgjkefbdoefaaW.PrintWords Go.Proofs.YtabgjkefbdoefaaW.PrintLast Go.Proofs.YtabgjkefbdoefaaW.PrintMore Go.Proofs.Ytabgjkefbdoefaa.Th
set_option linter.unusedVariables false
set_option linter.unusedSimpArgs false
theorem laws_szWatcher_ev (l0 : List S107) (a : Int) (l2 : List Int) (l3 : List (List Int)) (c : Int) (h0 : 0 ≤ c) (h1 : c ≤ 1048576)
    (g0 : l0.length ≤ 9223372036854775807) (s0 : ∀ x ∈ l0, x.f1.size ≤ 9223372036854775807) (g2 : l2.length ≤ 9223372036854775807) (g3 : l3.length ≤ 9223372036854775807 ∧ ∀ x ∈ l3, x.length ≤ 9223372036854775807) :
    ∃ r, Ev (fun k => laws_szWatcher.f k l0 a l2 l3 c) r ∧ (r < 0 ∨ (0 ≤ r ∧ r ≤ c ∧ l0.length ≤ 1048576 ∧ sm0 l2 ∧ sm1 l3)) := by
  unfold laws_szWatcher.f
  obtain ⟨r0, e0, q0⟩ := szQuery_ev l0 c h0 h1 g0 s0
  by_cases n0 : r0 < 0
  · exact ⟨-1, Ev.bind e0 (by simp only [if_pos n0]; exact Ev.now _), .inl (by omega)⟩
  obtain ⟨r2, e2, q2⟩ := laws_szInt64S_ev l2 r0 (by omega) (by omega) g2
  by_cases n2 : r2 < 0
  · exact ⟨-1, Ev.bind e0 (by simp only [if_neg n0]; exact Ev.bind ⟨0, fun _ _ => e2⟩ (by simp only [if_pos n2]; exact Ev.now _)), .inl (by omega)⟩
  obtain ⟨r3, e3, q3⟩ := laws_szInt64SS_ev l3 r2 (by omega) (by omega) g3.1 g3.2
  by_cases n3 : r3 < 0
  · exact ⟨-1, Ev.bind e0 (by simp only [if_neg n0]; exact Ev.bind ⟨0, fun _ _ => e2⟩ (by simp only [if_neg n2]; exact Ev.bind e3 (by simp only [if_pos n3]; exact Ev.now _))), .inl (by omega)⟩
  · refine ⟨r3, Ev.bind e0 (by simp only [if_neg n0]; exact Ev.bind ⟨0, fun _ _ => e2⟩ (by simp only [if_neg n2]; exact Ev.bind e3 (by simp only [if_neg n3]; exact Ev.now _))), .inr ?_⟩
    rcases q0 with q0 | q0
    · omega
    rcases q2 with q2 | q2
    · omega
    rcases q3 with q3 | q3
    · omega
    exact ⟨by omega, by omega, by omega, q2.2.2, q3.2.2⟩
theorem laws_toWatcher_ev (l0 : List S107) (a : Int) (l2 : List Int) (l3 : List (List Int)) (h0 : l0.length ≤ 1048576) (h2 : sm0 l2) (h3 : sm1 l3) :
    Ev (fun k => laws_toWatcher.f k l0 a l2 l3) (toQ l0, a, l2, l3) := by
  unfold laws_toWatcher.f
  exact Ev.bind (toQuery_ev l0 h0) (Ev.bind (laws_toInt64S_ev l2 h2) (Ev.bind (laws_toInt64SS_ev l3 h3) (Ev.now _)))
theorem laws_eqWatcher_ev (l0 : List S102) (a : Int) (l2 : List Int) (l3 : List (List Int)) (h0 : l0.length ≤ 1048576) (h2 : sm0 l2) (h3 : sm1 l3) :
    Ev (fun k => laws_eqWatcher.f k l0 a l2 l3 l0 a l2 l3) true := by
  unfold laws_eqWatcher.f
  have e2 := laws_eqInt64S_ev l2 l2 h2
  rw [eqv_self _ _ _ (fun a _ => eint_self a)] at e2
  have e3 := laws_eqInt64SS_ev l3 l3 h3
  rw [eqv_self _ _ _ (fun a _ => eqv_self _ _ _ (fun a _ => eint_self a))] at e3
  refine Ev.bind (eqQuery_ev l0 h0) ?_
  simp only [if_true]
  refine Ev.bind e2 ?_
  simp only [if_true]
  refine Ev.bind e3 ?_
  simp only [if_true]
  exact Ev.now _
end Go.Proofs.Ytabgjkefbdoefaa.Br
namespace Go.Proofs.Ytabgjkefbdoefaa.Br
open Go.RowKit Go.Proofs.Ytabgjkefbdoefaa.P Go.Proofs.YtabgjkefbdoefaaW.PrintWords Go.Proofs.YtabgjkefbdoefaaW.PrintLast Go.Proofs.YtabgjkefbdoefaaW.PrintMore Go.Proofs.Ytabgjkefbdoefaa.Th
set_option linter.unusedVariables false
set_option linter.unusedSimpArgs false
theorem specOkAt_ev (l : List S102) (a : Int) (m : List Int) (u : List (List Int)) (hl : l.length ≤ 1048576) : Ev (fun k => spec_l05Ok_at_T44.f k l a m u) (okQ l) := by
  have loop : ∀ i, i ≤ l.length → Ev (fun k => spec_l05Ok_at_T44.l0 k i l a m u) ((l.drop i).all tstS && decide (1 ≤ (l.length : Int) ∧ (l.length : Int) ≤ 6)) := by
    refine down l.length ?_ ?_
    · refine Ev.succ ?_
      simp only [spec_l05Ok_at_T44.l0, if_neg inlt, in_eq, Option.bind_some, drop_end, List.all_nil, Bool.true_and]
      exact Ev.now _
    · intro i hi ih
      refine Ev.succ ?_
      simp only [spec_l05Ok_at_T44.l0, if_pos (ilt hi), if_pos (i0 i), rd_T102, Int.toNat_natCast, sTest_eq, Option.bind_some, up1 i (by omega)]
      rw [drop_all l tstS i z102 hi]
      by_cases e : tst (l.getD i z102).f1.toList = true
      · simp only [if_pos e, show tstS (l.getD i z102) = true from e, Bool.true_and]
        exact ih
      · simp only [if_neg e, show tstS (l.getD i z102) = false from by simpa [tstS] using e, Bool.false_and]
        exact Ev.now _
  exact loop 0 (by omega)
/-- Does a list rise from 0 to a number. -/
def ris (last : Int) (l : List Int) : Bool := allN l.length (fun i => decide (0 ≤ rd l i ∧ rd l i ≤ last) && (decide (i = 0) || decide (rd l ((i - 1 : Nat) : Int) < rd l i)))
theorem dn1 (i : Nat) (h0 : 0 < i) (h : i < 9223372036854775807) : wrap64 ((i : Int) - 1) = ((i - 1 : Nat) : Int) := by rw [w64 (by omega) (by omega)]; omega
theorem sRises_ev (l : List Int) (last : Int) (hl : sm0 l) : Ev (fun k => spec_l00Rises.f k l 0 last) (ris last l) := by
  unfold spec_l00Rises.f ris
  have hl' : l.length ≤ 1048576 := hl
  refine allLoop l.length (fun i k => spec_l00Rises.l0 k l 0 last (i : Int)) _ ?_ ?_
  · refine Ev.succ ?_
    simp only [spec_l00Rises.l0, if_neg inlt]
    exact Ev.now _
  · intro i hi r hr
    refine Ev.succ ?_
    simp only [spec_l00Rises.l0, if_pos (ilt hi), if_pos (i0 i), in_eq, Option.bind_some, up1 i (by omega)]
    by_cases h1 : 0 ≤ rd l i ∧ rd l i ≤ last
    · simp only [decide_eq_true h1, if_true, Bool.true_and]
      by_cases h2 : i = 0
      · subst h2
        simp only [Int.natCast_zero, show ¬ ((0 : Int) > 0) by decide, if_false, decide_true, Bool.true_or, Bool.true_and]
        exact hr
      · have hi0 : (i : Int) > 0 := by omega
        simp only [if_pos hi0, dn1 i (by omega) (by omega), if_pos (i0 (i - 1)), if_pos (ilt (show i - 1 < l.length by omega)), decide_eq_false h2, Bool.false_or]
        by_cases h3 : rd l ((i - 1 : Nat) : Int) < rd l i
        · simp only [decide_eq_true h3, Bool.true_and, if_neg (show ¬ rd l ((i - 1 : Nat) : Int) ≥ rd l i by omega)]
          exact hr
        · simp only [decide_eq_false h3, Bool.false_and, if_pos (show rd l ((i - 1 : Nat) : Int) ≥ rd l i by omega)]
          exact Ev.now _
    · simp only [decide_eq_false h1, Bool.false_eq_true, if_false, Bool.false_and]
      exact Ev.now _
theorem iRises_ev (l : List Int) (n : Int) (h0 : 0 ≤ n) (h1 : n ≤ 1048576) (hl : sm0 l) : Ev (fun k => impl_isRising.f k l n) (ris (n - 1) l) := by
  unfold impl_isRising.f ris
  have hl' : l.length ≤ 1048576 := hl
  have hn : wrap64 (n - 1) = n - 1 := w64 (by omega) (by omega)
  refine allLoop l.length (fun i k => impl_isRising.l0 k l n l (l.length : Int) (i : Int)) _ ?_ ?_
  · refine Ev.succ ?_
    simp only [impl_isRising.l0, if_neg inlt]
    exact Ev.now _
  · intro i hi r hr
    refine Ev.succ ?_
    simp only [impl_isRising.l0, if_pos (ilt hi), if_pos (i0 i), hn, within_eq, Option.bind_some, up1 i (by omega)]
    by_cases h1 : 0 ≤ rd l i ∧ rd l i ≤ n - 1
    · simp only [decide_eq_true h1, if_true, Bool.true_and]
      by_cases h2 : i = 0
      · subst h2
        simp only [Int.natCast_zero, show ¬ ((0 : Int) > 0) by decide, if_false, decide_true, Bool.true_or, Bool.true_and]
        exact hr
      · have hi0 : (i : Int) > 0 := by omega
        simp only [if_pos hi0, dn1 i (by omega) (by omega), if_pos (i0 (i - 1)), if_pos (ilt (show i - 1 < l.length by omega)), decide_eq_false h2, Bool.false_or]
        by_cases h3 : rd l ((i - 1 : Nat) : Int) < rd l i
        · simp only [decide_eq_true h3, Bool.true_and, if_neg (show ¬ rd l i ≤ rd l ((i - 1 : Nat) : Int) by omega)]
          exact hr
        · simp only [decide_eq_false h3, Bool.false_and, if_pos (show rd l i ≤ rd l ((i - 1 : Nat) : Int) by omega)]
          exact Ev.now _
    · simp only [decide_eq_false h1, Bool.false_eq_true, if_false, Bool.false_and]
      exact Ev.now _
/-- The list that a watcher began with. -/
def firstL (m : List Int) (u : List (List Int)) : List Int := u.headD m
def okW (l : List S102) (a : Int) (m : List Int) (u : List (List Int)) : Bool :=
  okQ l && (decide (0 ≤ a ∧ a ≤ 1000000000) && (decide (u.length ≤ 60) && (u.all (ris ((l.length : Int) - 1)) && (ris ((l.length : Int) - 1) m && eqv eint 0 (firstL m u) [0]))))
theorem sWatcher_ev (l : List S102) (a : Int) (m : List Int) (u : List (List Int)) (hl : l.length ≤ 1048576) (hm : sm0 m) (hu : sm1 u) : Ev (fun k => spec_l05Watcher.f k l a m u) (okW l a m u) := by
  have hul : u.length ≤ 1048576 := hu.1
  have e0 := specOkAt_ev l a m u hl
  have hlast : wrap64 ((l.length : Int) - 1) = (l.length : Int) - 1 := w64 (by omega) (by omega)
  have tail : ∀ f, sm0 f → Ev (fun k => (spec_l00Rises.f k m 0 ((l.length : Int) - 1)).bind fun t126 => (if t126 = true then ((spec_l00Same.f k f (([0] : List Int))).bind fun t130 => (some t130)) else (some false))) (ris ((l.length : Int) - 1) m && eqv eint 0 f [0]) :=
    fun f hf => andEv (sRises_ev m _ hm) (Ev.bind (spec_l00Same_ev f [0] hf) (Ev.now _))
  have loop0 : ∀ f, sm0 f → ∀ i, i ≤ u.length → Ev (fun k => spec_l05Watcher.l0 k ((l.length : Int) - 1) f i l a m u) ((u.drop i).all (ris ((l.length : Int) - 1)) && (ris ((l.length : Int) - 1) m && eqv eint 0 f [0])) := by
    intro f hf
    refine down u.length ?_ ?_
    · refine Ev.succ ?_
      simp only [spec_l05Watcher.l0, if_neg inlt, drop_end, List.all_nil, Bool.true_and]
      exact tail f hf
    · intro i hi ih
      refine Ev.succ ?_
      simp only [spec_l05Watcher.l0, if_pos (ilt hi), if_pos (i0 i), up1 i (by omega)]
      rw [drop_all u _ i [] hi, Bool.and_assoc]
      have hx : sm0 (u.getD i []) := hu.2 _ (getD_mem u i [] hi)
      exact andEv (sRises_ev _ _ hx) ih
  have loop1 : ∀ f, sm0 f → ∀ i, i ≤ u.length → Ev (fun k => spec_l05Watcher.l100 k ((l.length : Int) - 1) f i l a m u) ((u.drop i).all (ris ((l.length : Int) - 1)) && (ris ((l.length : Int) - 1) m && eqv eint 0 f [0])) := by
    intro f hf
    refine down u.length ?_ ?_
    · refine Ev.succ ?_
      simp only [spec_l05Watcher.l100, if_neg inlt, drop_end, List.all_nil, Bool.true_and]
      exact tail f hf
    · intro i hi ih
      refine Ev.succ ?_
      simp only [spec_l05Watcher.l100, if_pos (ilt hi), if_pos (i0 i), up1 i (by omega)]
      rw [drop_all u _ i [] hi, Bool.and_assoc]
      have hx : sm0 (u.getD i []) := hu.2 _ (getD_mem u i [] hi)
      exact andEv (sRises_ev _ _ hx) ih
  unfold spec_l05Watcher.f okW
  refine andEv e0 ?_
  simp only [in_eq, Option.bind_some]
  by_cases h1 : 0 ≤ a ∧ a ≤ 1000000000
  · simp only [decide_eq_true h1, if_true, Bool.true_and, hlast]
    by_cases h2 : u.length ≤ 60
    · simp only [decide_eq_true h2, Bool.true_and, if_neg (show ¬ (u.length : Int) > 60 by clear hlast; omega)]
      by_cases h3 : (u.length : Int) > 0
      · have hf : rd_L4 u 0 = firstL m u := by
          match u, h3 with
          | x :: xs, _ => rfl
        have hs : sm0 (firstL m u) := by
          match u, hu, h3 with
          | x :: xs, hu, _ => exact hu.2 x (List.mem_cons_self)
        simp only [if_pos h3, if_pos (show 0 < (u.length : Int) from h3), hf]
        exact loop0 _ hs 0 (Nat.zero_le _)
      · have hf : firstL m u = m := by
          match u, h3 with
          | [], _ => rfl
          | x :: xs, h3 => exact absurd (show ((x :: xs).length : Int) > 0 by rw [List.length_cons]; omega) h3
        simp only [if_neg h3, hf]
        exact loop1 _ hm 0 (Nat.zero_le _)
    · simp only [decide_eq_false h2, Bool.false_and, if_pos (show (u.length : Int) > 60 by clear hlast; omega)]
      exact Ev.now _
  · simp only [decide_eq_false h1, Bool.false_eq_true, if_false, Bool.false_and]
    exact Ev.now _
theorem sValidW_ev (l : List S102) (a : Int) (m : List Int) (u : List (List Int)) (hl : l.length ≤ 1048576) (hm : sm0 m) (hu : sm1 u) : Ev (fun k => spec_ValidWatcher.f k l a m u) (okW l a m u) := by
  unfold spec_ValidWatcher.f
  exact Ev.bind (sWatcher_ev l a m u hl hm hu) (Ev.now _)
theorem iValidW_ev (l : List S102) (a : Int) (m : List Int) (u : List (List Int)) (hl : l.length ≤ 1048576) (hm : sm0 m) (hu : sm1 u) : Ev (fun k => impl_ValidWatcher.f k l a m u) (okW l a m u) := by
  have hul : u.length ≤ 1048576 := hu.1
  have hlast : wrap64 ((l.length : Int) - 1) = (l.length : Int) - 1 := w64 (by omega) (by omega)
  have hlast1 : wrap64 ((l.length : Int) - 1 + 1) = (l.length : Int) := by clear hlast; rw [w64 (by omega) (by omega)]; omega
  have hy : ∀ x ∈ u ++ [m], sm0 x := by
    intro x hx
    rcases List.mem_append.1 hx with h | h
    · exact hu.2 x h
    · rw [List.mem_singleton.1 h]; exact hm
  have hyl : (u ++ [m]).length = u.length + 1 := by simp
  have hclo : ∀ x, sm0 x → Ev (fun k => impl_ValidWatcher_1_c.f k x l a m u) (!(ris ((l.length : Int) - 1) x)) := by
    intro x hx
    unfold impl_ValidWatcher_1_c.f impl_Query_last.f impl_size_impl_QueryStep.f
    simp only [Option.bind_some, hlast, hlast1]
    exact Ev.bind (iRises_ev x (l.length : Int) (i0 _) (by clear hlast hlast1; omega) hx) (Ev.now _)
  have loop : ∀ i, i ≤ (u ++ [m]).length → ∃ r : Int, Ev (fun k => slices_IndexFunc_LLint64_Lint64_at_impl_ValidWatcher_1.l0 k (u ++ [m]) ((u ++ [m]).length : Int) i l a m u) r ∧ (((u ++ [m]).drop i).all (ris ((l.length : Int) - 1)) = !(decide (r ≥ 0))) := by
    refine down (u ++ [m]).length ?_ ?_
    · refine ⟨-1, Ev.succ ?_, by rw [drop_end]; rfl⟩
      simp only [slices_IndexFunc_LLint64_Lint64_at_impl_ValidWatcher_1.l0, if_neg inlt]
      exact Ev.now _
    · intro i hi ih
      obtain ⟨r, hr, he⟩ := ih
      have hi2 : i < 9223372036854775807 := by clear hlast hlast1; omega
      have hx : sm0 ((u ++ [m]).getD i []) := hy _ (getD_mem _ i [] hi)
      have hc := hclo _ hx
      rw [drop_all _ _ i [] hi]
      by_cases e : ris ((l.length : Int) - 1) ((u ++ [m]).getD i []) = true
      · refine ⟨r, Ev.succ ?_, by rw [e, Bool.true_and, he]⟩
        simp only [slices_IndexFunc_LLint64_Lint64_at_impl_ValidWatcher_1.l0, if_pos (ilt hi), if_pos (i0 i), up1 i hi2]
        refine Ev.bind hc ?_
        simp only [e, Bool.not_true, Bool.false_eq_true, if_false]
        exact hr
      · have e' : ris ((l.length : Int) - 1) ((u ++ [m]).getD i []) = false := by simpa using e
        refine ⟨(i : Int), Ev.succ ?_, by rw [e', Bool.false_and]; simp⟩
        simp only [slices_IndexFunc_LLint64_Lint64_at_impl_ValidWatcher_1.l0, if_pos (ilt hi), if_pos (i0 i), up1 i hi2]
        refine Ev.bind hc ?_
        simp only [e', Bool.not_false, if_true]
        exact Ev.now _
  obtain ⟨r, hr, he⟩ := loop 0 (Nat.zero_le _)
  rw [List.drop_zero, List.all_append, List.all_cons, List.all_nil, Bool.and_true] at he
  have j0 : Ev (fun k => impl_ValidWatcher.j0 k false l a m u) (u.all (ris ((l.length : Int) - 1)) && (ris ((l.length : Int) - 1) m && eqv eint 0 (firstL m u) [0])) := by
    have hf : rd_L4 (u ++ [m]) 0 = firstL m u := by
      match u with
      | [] => rfl
      | x :: xs => rfl
    have hfs : sm0 (firstL m u) := by
      rw [← hf]
      exact hy _ (getD_mem (u ++ [m]) 0 [] (by rw [hyl]; omega))
    have b1 : u.length < 5864062014805 := by clear hlast hlast1; omega
    have b2 : u.length + [m].length < 5864062014805 := by clear hlast hlast1; simp; omega
    have b3 : 0 < ((u ++ [m]).length : Int) := by clear hlast hlast1; rw [hyl]; omega
    refine Ev.succ ?_
    simp only [impl_ValidWatcher.j0, Bool.false_eq_true, if_false, slices_Clone_LLint64_Lint64.f, if_pos b1, Option.bind_some, if_pos b2, if_pos b3, hf]
    have hgoal : (u.all (ris ((l.length : Int) - 1)) && (ris ((l.length : Int) - 1) m && eqv eint 0 (firstL m u) [0])) = (eqv eint 0 (firstL m u) [0] && !(decide (r ≥ 0))) := by
      rw [← Bool.and_assoc, he, Bool.and_comm]
    rw [hgoal]
    refine andEv (slices_Equal_Lint64_int64_ev _ [0] hfs) ?_
    unfold slices_ContainsFunc_LLint64_Lint64_at_impl_ValidWatcher_1.f slices_IndexFunc_LLint64_Lint64_at_impl_ValidWatcher_1.f
    exact Ev.bind (Ev.bind hr (Ev.now _)) (Ev.now _)
  have j1 : Ev (fun k => impl_ValidWatcher.j0 k true l a m u) false := by
    refine Ev.succ ?_
    simp only [impl_ValidWatcher.j0, if_true]
    exact Ev.now _
  unfold impl_ValidWatcher.f okW
  refine Ev.bind (implValidQ_ev l hl) ?_
  by_cases h0 : okQ l = true
  · simp only [h0, if_true, Bool.true_and, within_eq, Option.bind_some]
    by_cases h1 : 0 ≤ a ∧ a ≤ 1000000000
    · simp only [decide_eq_true h1, if_true, Bool.true_and]
      by_cases h2 : u.length ≤ 60
      · simp only [decide_eq_true h2, Bool.true_and, decide_eq_false (show ¬ (u.length : Int) > 60 by clear hlast hlast1; omega)]
        exact j0
      · simp only [decide_eq_false h2, Bool.false_and, decide_eq_true (show (u.length : Int) > 60 by clear hlast hlast1; omega)]
        exact j1
    · simp only [decide_eq_false h1, Bool.false_eq_true, if_false, Bool.false_and]
      exact j1
  · simp only [h0, if_false, show okQ l = false by simpa using h0, Bool.false_and]
    exact j1
end Go.Proofs.Ytabgjkefbdoefaa.Br
