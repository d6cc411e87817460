/- What the law FnExactMemoryOf leans on: plain facts, and what the printed functions that it reaches come to; for all arguments that the facts name. -/
import Derived.Test.YthcnfaonafndoaaPm0
import Derived.Test.YthcnfaonafndoaaPm6
import Derived.Test.YthcnfaonafndoaaPm7
import Derived.Test.YthcnfaonafndoaaPm9
import Derived.Test.YthcnfaonafndoaaPm18
import Derived.Test.YthcnfaonafndoaaPm22
import Derived.Test.YthcnfaonafndoaaPm23
import Derived.Test.YthcnfaonafndoaaPm35
import Derived.Test.YthcnfaonafndoaaPm36
import Derived.Test.YthcnfaonafndoaaPm45
import Derived.Test.YthcnfaonafndoaaPm47
import Derived.Test.YthcnfaonafndoaaPm50
import Derived.Test.YthcnfaonafndoaaPm60
import Derived.Test.YthcnfaonafndoaaPm7000001
namespace Go.Proofs.Ythcnfaonafndoaa.Th

def isC (b : Int) : Bool := b == 40 || b == 91
def isR (b : Int) : Bool := b == 41 || b == 93

structure St where
  p : List Int
  r : List Int
  c : List Int
  d : List Int
  q : List Int

def top (c : List Int) : Int := c.getLast?.getD (-1)

def step (s : St) (i b : Int) : St :=
  if isR b = true then
    if s.c = [] then ⟨s.p ++ [-2], s.r ++ [i], [], s.d ++ [0], s.q ++ [-1]⟩
    else ⟨s.p.set (top s.c).toNat i ++ [top s.c], s.r, s.c.dropLast, s.d ++ [(s.c.dropLast.length : Int)], s.q ++ [top s.c.dropLast]⟩
  else if isC b = true then ⟨s.p ++ [-2], s.r, s.c ++ [i], s.d ++ [(s.c.length : Int) + 1], s.q ++ [top s.c]⟩
  else ⟨s.p ++ [-1], s.r, s.c, s.d ++ [(s.c.length : Int)], s.q ++ [top s.c]⟩

def st (b : Int → Int) : Nat → St
  | 0 => ⟨[], [], [], [0], []⟩
  | n + 1 => step (st b n) n (b n)

theorem isR_notC {b : Int} (h : isR b = true) : isC b = false := by
  unfold isR at h; unfold isC
  simp at h ⊢
  omega

structure Basic (s : St) (n : Nat) : Prop where
  lp : s.p.length = n
  lq : s.q.length = n
  ld : s.d.length = n + 1
  lr : s.r.length ≤ n
  lc : s.c.length ≤ n
  hc : ∀ x ∈ s.c, 0 ≤ x ∧ x < n
  hr : ∀ x ∈ s.r, 0 ≤ x ∧ x < n

theorem top_mem {c : List Int} (h : c ≠ []) : top c ∈ c := by
  unfold top
  rw [List.getLast?_eq_some_getLast h]
  exact List.getLast_mem h

theorem basic (b : Int → Int) : ∀ n, Basic (st b n) n
  | 0 => by constructor <;> simp [st]
  | n + 1 => by
    have ih := basic b n
    obtain ⟨h1, h2, h3, h4, h5, h6, h7⟩ := ih
    unfold st step
    split
    · split
      · constructor <;> simp_all
        · intro x hx; rcases hx with hx | hx
          · have := h7 x hx; omega
          · omega
      · rename_i hne
        have hd : ∀ x ∈ (st b n).c.dropLast, x ∈ (st b n).c := fun x hx => List.dropLast_subset _ hx
        constructor
        · simp; exact h1
        · simp; exact h2
        · simp; exact h3
        · simp; omega
        · simp; omega
        · intro x hx; have := h6 x (hd x hx); constructor <;> omega
        · intro x hx; have := h7 x hx; constructor <;> omega
    · split
      · constructor
        · simp; exact h1
        · simp; exact h2
        · simp; exact h3
        · simp; omega
        · simp; omega
        · intro x hx
          rcases List.mem_append.1 hx with hx | hx
          · have := h6 x hx; constructor <;> omega
          · simp at hx; omega
        · intro x hx; have := h7 x hx; constructor <;> omega
      · constructor
        · simp; exact h1
        · simp; exact h2
        · simp; exact h3
        · simp; omega
        · simp; omega
        · intro x hx; have := h6 x hx; constructor <;> omega
        · intro x hx; have := h7 x hx; constructor <;> omega


def g (l : List Int) (j : Nat) : Int := l.getD j 0

end Go.Proofs.Ythcnfaonafndoaa.Th
namespace Go.Proofs.Ythcnfaonafndoaa.Br
open Go.RowKit Go.Proofs.Ythcnfaonafndoaa.M Go.Proofs.YthcnfaonafndoaaW.PrintWords Go.Proofs.YthcnfaonafndoaaW.PrintLast Go.Proofs.YthcnfaonafndoaaW.PrintMore Go.Proofs.Ythcnfaonafndoaa.Th
set_option linter.unusedVariables false
set_option linter.unusedSimpArgs false
theorem Ev.succ {α : Type} {g : Nat → Option α} {r : α} (h : Ev (fun k => g (k + 1)) r) : Ev g r := by
  obtain ⟨K, hK⟩ := h
  refine ⟨K + 1, fun k hk => ?_⟩
  obtain ⟨m, rfl⟩ : ∃ m, k = m + 1 := ⟨k - 1, by omega⟩
  exact hK m (by omega)
theorem Ev.done {α : Type} {r s : α} (h : r = s) : Ev (fun _ : Nat => some r) s := h ▸ Ev.now r
theorem w64 {x : Int} (h0 : -9223372036854775808 ≤ x) (h1 : x ≤ 9223372036854775807) : wrap64 x = x := by unfold wrap64; omega

/-- The number of a symbol, -1 if it is none. -/
def sym (b : Int) : Int := if b = 40 then 0 else if b = 91 then 1 else if b = 41 then 2 else if b = 93 then 3 else if b = 97 then 4 else if b = 98 then 5 else -1

def allFrom (f : Nat → Bool) : Nat → Nat → Bool
  | 0, _ => true
  | d + 1, i => f i && allFrom f d (i + 1)

/-- Is a text a word. -/
def okw (a : ByteArray) : Bool := allFrom (fun j => decide (0 ≤ sym (bt a j))) a.size 0 && decide ((a.size : Int) ≤ 60)

theorem bs0 : bt (⟨#[40, 91, 41, 93, 97, 98]⟩ : ByteArray) 0 = 40 := by decide
theorem bs1 : bt (⟨#[40, 91, 41, 93, 97, 98]⟩ : ByteArray) 1 = 91 := by decide
theorem bs2 : bt (⟨#[40, 91, 41, 93, 97, 98]⟩ : ByteArray) 2 = 41 := by decide
theorem bs3 : bt (⟨#[40, 91, 41, 93, 97, 98]⟩ : ByteArray) 3 = 93 := by decide
theorem bs4 : bt (⟨#[40, 91, 41, 93, 97, 98]⟩ : ByteArray) 4 = 97 := by decide
theorem bs5 : bt (⟨#[40, 91, 41, 93, 97, 98]⟩ : ByteArray) 5 = 98 := by decide

theorem symbol_ev (b : Int) : Ev (fun k => spec_l01Symbol.f k b) (sym b) := by
  unfold spec_l01Symbol.f sym
  have w1 : wrap64 (0 + 1) = 1 := by unfold wrap64; omega
  have w2 : wrap64 (1 + 1) = 2 := by unfold wrap64; omega
  have w3 : wrap64 (2 + 1) = 3 := by unfold wrap64; omega
  have w4 : wrap64 (3 + 1) = 4 := by unfold wrap64; omega
  have w5 : wrap64 (4 + 1) = 5 := by unfold wrap64; omega
  have w6 : wrap64 (5 + 1) = 6 := by unfold wrap64; omega
  refine Ev.succ ?_
  simp only [spec_l01Symbol.l0, bs0]
  by_cases h0 : b = 40
  · subst h0; exact Ev.done rfl
  rw [if_neg h0]
  simp only [if_neg (Ne.symm h0), w1]
  refine Ev.succ ?_
  simp only [spec_l01Symbol.l0, bs1]
  by_cases h0 : b = 91
  · subst h0; exact Ev.done rfl
  rw [if_neg h0]
  simp only [if_neg (Ne.symm h0), w2]
  refine Ev.succ ?_
  simp only [spec_l01Symbol.l0, bs2]
  by_cases h0 : b = 41
  · subst h0; exact Ev.done rfl
  rw [if_neg h0]
  simp only [if_neg (Ne.symm h0), w3]
  refine Ev.succ ?_
  simp only [spec_l01Symbol.l0, bs3]
  by_cases h0 : b = 93
  · subst h0; exact Ev.done rfl
  rw [if_neg h0]
  simp only [if_neg (Ne.symm h0), w4]
  refine Ev.succ ?_
  simp only [spec_l01Symbol.l0, bs4]
  by_cases h0 : b = 97
  · subst h0; exact Ev.done rfl
  rw [if_neg h0]
  simp only [if_neg (Ne.symm h0), w5]
  refine Ev.succ ?_
  simp only [spec_l01Symbol.l0, bs5]
  by_cases h0 : b = 98
  · subst h0; exact Ev.done rfl
  rw [if_neg h0]
  simp only [if_neg (Ne.symm h0), w6]
  refine Ev.succ ?_
  simp only [spec_l01Symbol.l0]
  exact Ev.done rfl

theorem index_eq {b : Int} (h0 : 0 ≤ b) (h1 : b ≤ 255) : strings_IndexByte.f (⟨#[40, 91, 41, 93, 97, 98]⟩ : ByteArray) b = some (sym b) := by
  obtain ⟨n, rfl⟩ := Int.eq_ofNat_of_zero_le h0
  have hn : n < 256 := by omega
  clear h0 h1
  unfold strings_IndexByte.f
  congr 1
  have key : ∀ n : Fin 256, Lib.indexByte (⟨#[40, 91, 41, 93, 97, 98]⟩ : ByteArray).data.toList ((n.val : Int).toNat.toUInt8) = sym (n.val : Int) := by decide +kernel
  exact key ⟨n, hn⟩

theorem specOk_loop (a : ByteArray) (hn : a.size ≤ 1048576) : ∀ d i : Nat, i + d = a.size →
    Ev (fun k => spec_l01Ok.l0 k a i) (allFrom (fun j => decide (0 ≤ sym (bt a j))) d i && decide ((a.size : Int) ≤ 60)) := by
  intro d
  induction d with
  | zero =>
    intro i hi
    refine Ev.succ ?_
    simp only [spec_l01Ok.l0, if_neg (show ¬ (i : Int) < (a.size : Int) by omega), allFrom, Bool.true_and]
    exact Ev.done rfl
  | succ d ih =>
    intro i hi
    refine Ev.succ ?_
    simp only [spec_l01Ok.l0, if_pos (show (i : Int) < (a.size : Int) by omega), if_pos (show (0 : Int) ≤ (i : Int) by omega), allFrom]
    refine Ev.bind (symbol_ev _) ?_
    rw [w64 (by omega) (by omega)]
    by_cases h : sym (bt a i) < 0
    · simp only [if_pos h]
      exact Ev.done (by simp; omega)
    · simp only [if_neg h]
      have := ih (i + 1) (by omega)
      simpa [show 0 ≤ sym (bt a i) by omega] using this

theorem specOk_ev (a : ByteArray) (hn : a.size ≤ 1048576) : Ev (fun k => spec_l01Ok.f k a) (okw a) := specOk_loop a hn a.size 0 (by omega)

theorem valid_loop (a : ByteArray) (hn : a.size ≤ 1048576) : ∀ d i : Nat, i + d = a.size →
    Ev (fun k => impl_ValidWord.l0 k a a.size i) (allFrom (fun j => decide (0 ≤ sym (bt a j))) d i && decide ((a.size : Int) ≤ 60)) := by
  intro d
  induction d with
  | zero =>
    intro i hi
    refine Ev.succ ?_
    simp only [impl_ValidWord.l0, if_neg (show ¬ (i : Int) < (a.size : Int) by omega), allFrom, Bool.true_and]
    exact Ev.done rfl
  | succ d ih =>
    intro i hi
    refine Ev.succ ?_
    have hb := bt_range a i
    simp only [impl_ValidWord.l0, if_pos (show (i : Int) < (a.size : Int) by omega), if_pos (show (0 : Int) ≤ (i : Int) by omega), allFrom, index_eq hb.1 hb.2, Option.bind_some]
    rw [w64 (by omega) (by omega)]
    by_cases h : sym (bt a i) < 0
    · simp only [if_pos h]
      exact Ev.done (by simp; omega)
    · simp only [if_neg h]
      have := ih (i + 1) (by omega)
      simpa [show 0 ≤ sym (bt a i) by omega] using this

theorem valid_ev (a : ByteArray) (hn : a.size ≤ 1048576) : Ev (fun k => impl_ValidWord.f k a) (okw a) := valid_loop a hn a.size 0 (by omega)

end Go.Proofs.Ythcnfaonafndoaa.Br
namespace Go.Proofs.Ythcnfaonafndoaa.Br
open Go.RowKit Go.Proofs.Ythcnfaonafndoaa.M Go.Proofs.YthcnfaonafndoaaW.PrintWords Go.Proofs.YthcnfaonafndoaaW.PrintLast Go.Proofs.YthcnfaonafndoaaW.PrintMore Go.Proofs.Ythcnfaonafndoaa.Th
set_option linter.unusedVariables false
set_option linter.unusedSimpArgs false
theorem down {P : Nat → Prop} (n : Nat) (h0 : P n) (h1 : ∀ i, i < n → P (i + 1) → P i) : ∀ i, i ≤ n → P i := by
  have key : ∀ d i, i + d = n → P i := by
    intro d
    induction d with
    | zero => intro i hi; obtain rfl : i = n := by omega
              exact h0
    | succ d ih => intro i hi; exact h1 i (by omega) (ih (i + 1) (by omega))
  intro i hi
  exact key (n - i) i (by omega)
theorem up1 (i : Nat) (h : i < 9223372036854775807) : wrap64 ((i : Int) + 1) = ((i + 1 : Nat) : Int) := by
  rw [w64 (by omega) (by omega)]; rfl
theorem ilt {i n : Nat} (h : i < n) : (i : Int) < (n : Int) := by omega
theorem inlt {n : Nat} : ¬ ((n : Int) < (n : Int)) := by omega
theorem i0 (i : Nat) : 0 ≤ (i : Int) := by omega
theorem getD_mem {α : Type} (l : List α) (i : Nat) (d : α) (h : i < l.length) : l.getD i d ∈ l := by
  rw [List.getD_eq_getElem?_getD, List.getElem?_eq_getElem h]
  exact List.getElem_mem h
theorem take1 (a : Int) (n : Nat) (h0 : 0 ≤ a) (h1 : a ≤ 1048576) (hn : n ≤ 9223372036854775807) : wrap64 (a - (n : Int)) = a - (n : Int) := w64 (by omega) (by omega)

/-! ### loops, plainly -/
end Go.Proofs.Ythcnfaonafndoaa.Br
namespace Go.Proofs.Ythcnfaonafndoaa.Br
open Go.RowKit Go.Proofs.Ythcnfaonafndoaa.M Go.Proofs.YthcnfaonafndoaaW.PrintWords Go.Proofs.YthcnfaonafndoaaW.PrintLast Go.Proofs.YthcnfaonafndoaaW.PrintMore Go.Proofs.Ythcnfaonafndoaa.Th
set_option linter.unusedVariables false
set_option linter.unusedSimpArgs false

/-! ### laws' queries -/
theorem szQueryStep_ev (b : Bool) (s : ByteArray) (a : Int) (h0 : 0 ≤ a) (h1 : a ≤ 1048576) (hs : s.size ≤ 9223372036854775807) :
    ∃ r, laws_szQueryStep.f b s a = some r ∧ (r < 0 ∨ (0 ≤ r ∧ r ≤ a ∧ (s.size : Int) ≤ 1048576)) := by
  unfold laws_szQueryStep.f
  rw [take1 a _ h0 h1 hs]
  by_cases h : a - (s.size : Int) < 0
  · exact ⟨-1, by rw [if_pos h], .inl (by omega)⟩
  · exact ⟨_, by rw [if_neg h], .inr (by omega)⟩
theorem szQuery_ev (l : List S63) (a : Int) (h0 : 0 ≤ a) (h1 : a ≤ 1048576) (hl : l.length ≤ 9223372036854775807) (hs : ∀ x ∈ l, x.f1.size ≤ 9223372036854775807) :
    ∃ r, Ev (fun k => laws_szQuery.f k l a) r ∧ (r < 0 ∨ (0 ≤ r ∧ r ≤ a ∧ (l.length : Int) ≤ 1048576 ∧ ∀ x ∈ l, (x.f1.size : Int) ≤ 1048576)) := by
  have loop : ∀ i, i ≤ l.length → ∀ c, 0 ≤ c → c ≤ 1048576 → ∃ r, Ev (fun k => laws_szQueryStepS.l0 k l c i) r ∧ (r < 0 ∨ (0 ≤ r ∧ r ≤ c ∧ ∀ j, i ≤ j → j < l.length → ((l.getD j z63).f1.size : Int) ≤ 1048576)) := by
    refine down l.length ?_ ?_
    · intro c hc _
      refine ⟨c, Ev.succ ?_, .inr ⟨hc, by omega, fun j h1 h2 => by omega⟩⟩
      simp only [laws_szQueryStepS.l0, if_neg inlt]
      exact Ev.now _
    · intro i hi ih c hc hc2
      have hm := getD_mem l i z63 hi
      obtain ⟨r, hr, hr2⟩ := szQueryStep_ev (l.getD i z63).f0 (l.getD i z63).f1 c hc hc2 (hs _ hm)
      by_cases hneg : r < 0
      · refine ⟨-1, Ev.succ ?_, .inl (by omega)⟩
        simp only [laws_szQueryStepS.l0, if_pos (ilt hi), if_pos (i0 i), rd_T63, Int.toNat_natCast, hr, Option.bind_some, if_pos hneg]
        exact Ev.now _
      · obtain ⟨q, hq, hq2⟩ := ih r (by omega) (by omega)
        refine ⟨q, Ev.succ ?_, ?_⟩
        · simp only [laws_szQueryStepS.l0, if_pos (ilt hi), if_pos (i0 i), rd_T63, Int.toNat_natCast, hr, Option.bind_some, if_neg hneg, up1 i (by omega)]
          exact hq
        · rcases hq2 with hq2 | ⟨q0, q1, q2⟩
          · exact .inl hq2
          · refine .inr ⟨q0, by omega, fun j hj1 hj2 => ?_⟩
            by_cases e : j = i
            · subst e; omega
            · exact q2 j (by omega) hj2
  unfold laws_szQuery.f laws_szQueryStepS.f
  rw [take1 a _ h0 h1 hl]
  by_cases h : a - (l.length : Int) < 0
  · exact ⟨-1, by simp only [if_pos h, Option.bind_some, show ((-1 : Int) < 0) = True from eq_true (by decide), if_true]; exact Ev.now _, .inl (by omega)⟩
  · obtain ⟨r, hr, hr2⟩ := loop 0 (by omega) (a - (l.length : Int)) (by omega) (by omega)
    by_cases hneg : r < 0
    · exact ⟨-1, by simp only [if_neg h]; exact hr.bind (by simp only [if_pos hneg]; exact Ev.now _), .inl (by omega)⟩
    · refine ⟨r, by simp only [if_neg h]; exact hr.bind (by simp only [if_neg hneg]; exact Ev.now _), .inr ⟨by omega, by omega, by omega, fun x hx => ?_⟩⟩
      obtain ⟨j, hj⟩ := List.getElem?_of_mem hx
      rcases hr2 with h2 | ⟨_, _, h2⟩
      · omega
      · have hlt := (List.getElem?_eq_some_iff.1 hj).1
        have := h2 j (by omega) hlt
        rwa [List.getD_eq_getElem?_getD, hj] at this
/-- A law's query as the program's. -/
def toQ (l : List S63) : List S66 := l.map fun x => ⟨x.f0, x.f1⟩
theorem toQuery_ev (l : List S63) (hl : l.length ≤ 1048576) : Ev (fun k => laws_toQuery.f k l) (toQ l) := by
  have loop : ∀ i, i ≤ l.length → ∀ o : List S66, o.length = l.length → o.take i = (toQ l).take i → Ev (fun k => laws_toQueryStepS.l0 k l o i) (toQ l) := by
    refine down l.length ?_ ?_
    · intro o ho ht
      have : o = toQ l := by rw [← List.take_length (l := o), ho, ht, List.take_of_length_le (by simp [toQ])]
      refine Ev.succ ?_
      simp only [laws_toQueryStepS.l0, if_neg inlt]
      exact Ev.done (by rw [this])
    · intro i hi ih o ho ht
      refine Ev.succ ?_
      simp only [laws_toQueryStepS.l0, if_pos (ilt hi), if_pos (i0 i), rd_T63, Int.toNat_natCast, laws_toQueryStep.f, Option.bind_some, if_pos (ilt (show i < o.length by omega)), up1 i (by omega)]
      refine ih _ (by simpa using ho) ?_
      rw [List.take_add_one, List.take_add_one, List.take_set_of_le (by omega), ht]
      have e1 : (o.set i (⟨(l.getD i z63).f0, (l.getD i z63).f1⟩ : S66))[i]? = some ⟨(l.getD i z63).f0, (l.getD i z63).f1⟩ := by
        rw [List.getElem?_set_self (by omega)]
      have e2 : (toQ l)[i]? = some ⟨(l.getD i z63).f0, (l.getD i z63).f1⟩ := by
        unfold toQ
        rw [List.getElem?_map, List.getElem?_eq_getElem hi, List.getD_eq_getElem?_getD, List.getElem?_eq_getElem hi]
        rfl
      rw [e1, e2]
  unfold laws_toQuery.f laws_toQueryStepS.f
  simp only [if_pos (i0 l.length), Int.toNat_natCast, if_pos (show l.length ≤ 11728124029610 by omega)]
  refine Ev.bind (loop 0 (by omega) _ (by simp) (by simp)) (Ev.now _)
theorem eqQuery_ev (l : List S66) (hl : l.length ≤ 1048576) : Ev (fun k => laws_eqQuery.f k l l) true := by
  have loop : ∀ i, i ≤ l.length → Ev (fun k => laws_eqQueryStepS.l0 k l l i) true := by
    refine down l.length ?_ ?_
    · refine Ev.succ ?_
      simp only [laws_eqQueryStepS.l0, if_neg inlt]
      exact Ev.now _
    · intro i hi ih
      refine Ev.succ ?_
      simp only [laws_eqQueryStepS.l0, if_pos (ilt hi), if_pos (i0 i), laws_eqQueryStep.f, bne_self_eq_false, Bool.false_eq_true, if_false, if_true, Option.bind_some, up1 i (by omega)]
      exact ih
  unfold laws_eqQuery.f laws_eqQueryStepS.f
  simp only [if_true]
  exact Ev.bind (loop 0 (by omega)) (by simp only [if_true]; exact Ev.now _)
theorem toQ_length (l : List S63) : (toQ l).length = l.length := by simp [toQ]
end Go.Proofs.Ythcnfaonafndoaa.Br
namespace Go.Proofs.Ythcnfaonafndoaa.Br
open Go.RowKit Go.Proofs.Ythcnfaonafndoaa.M Go.Proofs.YthcnfaonafndoaaW.PrintWords Go.Proofs.YthcnfaonafndoaaW.PrintLast Go.Proofs.YthcnfaonafndoaaW.PrintMore Go.Proofs.Ythcnfaonafndoaa.Th
set_option linter.unusedVariables false
set_option linter.unusedSimpArgs false
theorem isReturn_eq (b : Int) : impl_isReturn.f b = some (isR b) := by
  unfold impl_isReturn.f isR
  by_cases h : b = 41 <;> simp [h]
theorem isCall_eq (b : Int) : impl_isCall.f b = some (isC b) := by
  unfold impl_isCall.f isC
  by_cases h : b = 40 <;> simp [h]
theorem sReturn_eq (b : Int) : spec_l01Return.f b = some (isR b) := by
  unfold spec_l01Return.f isR
  by_cases h : b = 41 <;> simp [h]
theorem sCall_eq (b : Int) : spec_l01Call.f b = some (isC b) := by
  unfold spec_l01Call.f isC
  by_cases h : b = 40 <;> simp [h]

theorem rd_last {c : List Int} (h : c ≠ []) : rd c ((c.length : Int) - 1) = top c := by
  unfold rd top
  have : 0 < c.length := List.length_pos_iff.2 h
  rw [List.getLast?_eq_getElem?, List.getD_eq_getElem?_getD, show ((c.length : Int) - 1).toNat = c.length - 1 by omega, List.getElem?_eq_getElem (by omega)]
  rfl

theorem top_nil {c : List Int} (h : c = []) : top c = -1 := by subst h; rfl
theorem take_last {c : List Int} : c.take ((c.length : Int) - 1).toNat = c.dropLast := by
  rw [List.dropLast_eq_take, show ((c.length : Int) - 1).toNat = c.length - 1 by omega]

/-- From the head of j2 on: the parent is told, a call is put on the stack, the rows grow. -/
theorem match_j2 (a : ByteArray) (hn : a.size ≤ 1048576) (i : Nat) (hi : i < a.size) (x6 : Int) (p r c d q : List Int) (R : List Int × List Int × List Int × List Int × List Int)
    (lp : p.length ≤ i) (lr : r.length ≤ i + 1) (lc : c.length ≤ i) (ld : d.length ≤ i + 1) (lq : q.length ≤ i)
    (h : if isC (bt a i) = true then Ev (fun k => impl_match.l0 k a a.size (i + 1 : Nat) (p ++ [-2]) r (c ++ [(i : Int)]) (d ++ [(c.length : Int) + 1]) (q ++ [top c])) R
         else Ev (fun k => impl_match.l0 k a a.size (i + 1 : Nat) (p ++ [x6]) r c (d ++ [(c.length : Int)]) (q ++ [top c])) R) :
    Ev (fun k => impl_match.j2 k a i i x6 a.size i p r c d q) R := by
  have j3 : Ev (fun k => impl_match.j3 k a i i x6 (top c) a.size i p r c d q) R := by
    refine Ev.succ ?_
    simp only [impl_match.j3, if_pos (show (0 : Int) ≤ (i : Int) by omega), if_pos (show (i : Int) < (a.size : Int) by omega), isCall_eq, Option.bind_some]
    have j4 : ∀ (x : Int) (c2 : List Int), c2.length ≤ i + 1 → Ev (fun k => impl_match.l0 k a a.size (i + 1 : Nat) (p ++ [x]) r c2 (d ++ [(c2.length : Int)]) (q ++ [top c])) R → Ev (fun k => impl_match.j4 k a x (top c) a.size i p r c2 d q) R := by
      intro x c2 l2 h2
      refine Ev.succ ?_
      simp only [impl_match.j4, Option.bind_some, impl_size_int64.f, List.length_cons, List.length_nil]
      rw [w64 (by omega) (by omega)]
      simp only [if_pos (show p.length + (0 + 1) < 17592186044416 by omega), if_pos (show q.length + (0 + 1) < 17592186044416 by omega), if_pos (show d.length + (0 + 1) < 17592186044416 by omega)]
      exact h2
    by_cases hC : isC (bt a i) = true
    · simp only [hC, if_true, List.length_cons, List.length_nil, if_pos (show c.length + (0 + 1) < 17592186044416 by omega)] at h ⊢
      refine j4 (-2) (c ++ [(i : Int)]) (by simp; omega) ?_
      simpa using h
    · simp only [if_neg hC] at h ⊢
      exact j4 x6 c (by omega) h
  refine Ev.succ ?_
  simp only [impl_match.j2]
  by_cases hc : c = []
  · simp only [if_neg (show ¬ (c.length : Int) > 0 by simp [hc])]
    rw [top_nil hc] at j3
    exact j3
  · have : 0 < c.length := List.length_pos_iff.2 hc
    rw [w64 (by omega) (by omega)]
    simp only [if_pos (show (c.length : Int) > 0 by omega), if_pos (show 0 ≤ (c.length : Int) - 1 by omega), if_pos (show (c.length : Int) - 1 < (c.length : Int) by omega), rd_last hc]
    exact j3

theorem match_loop (a : ByteArray) (hn : a.size ≤ 1048576) : ∀ d i : Nat, i + d = a.size →
    Ev (fun k => impl_match.l0 k a a.size i (st (bt a) i).p (st (bt a) i).r (st (bt a) i).c (st (bt a) i).d (st (bt a) i).q)
      ((st (bt a) a.size).p, (st (bt a) a.size).r, (st (bt a) a.size).c, (st (bt a) a.size).d, (st (bt a) a.size).q) := by
  intro d
  induction d with
  | zero =>
    intro i hi
    obtain rfl : i = a.size := by omega
    refine Ev.succ ?_
    simp only [impl_match.l0, if_neg (show ¬ (a.size : Int) < (a.size : Int) by omega)]
    exact Ev.now _
  | succ d ih =>
    intro i hi
    have B := basic (bt a) i
    have hnext := ih (i + 1) (by omega)
    have hst : st (bt a) (i + 1) = Th.step (st (bt a) i) i (bt a i) := rfl
    rw [hst] at hnext
    obtain ⟨lp, lq, ld, lr, lc, hc, hr⟩ := B
    generalize st (bt a) i = s at *
    refine Ev.succ ?_
    simp only [impl_match.l0, if_pos (show (i : Int) < (a.size : Int) by omega), if_pos (show (0 : Int) ≤ (i : Int) by omega), isReturn_eq, Option.bind_some]
    by_cases hR : isR (bt a i) = true
    · have hC := isR_notC hR
      simp only [hR, if_true]
      refine Ev.succ ?_
      simp only [impl_match.j1]
      by_cases he : s.c = []
      · simp only [he, List.length_nil, Int.ofNat_zero, Int.natCast_zero, BEq.rfl, if_true, Option.bind_some, List.length_cons]
        simp only [if_pos (show s.r.length + (0 + 1) < 17592186044416 by omega)]
        refine match_j2 a hn i (by omega) (-2) _ _ _ _ _ _ (by omega) (by simp; omega) (by simp) (by omega) (by omega) ?_
        rw [if_neg (by simp [hC])]
        simp only [Th.step, hR, if_true, he] at hnext
        exact hnext
      · have hl : 0 < s.c.length := List.length_pos_iff.2 he
        have ht := hc _ (top_mem he)
        have hz : ((s.c.length : Int) == 0) = false := by simp; omega
        simp only [hz, Bool.false_eq_true, if_false]
        rw [w64 (by omega) (by omega)]
        simp only [if_pos (show (0 : Int) ≤ (i : Int) by omega), if_pos (show (i : Int) < (a.size : Int) by omega), isReturn_eq, Option.bind_some, hR, if_true,
          if_pos (show 0 ≤ (s.c.length : Int) - 1 by omega), if_pos (show (s.c.length : Int) - 1 < (s.c.length : Int) by omega), rd_last he, if_pos ht.1, if_pos (show top s.c < (s.p.length : Int) by omega), if_pos (show (s.c.length : Int) - 1 ≤ (s.c.length : Int) by omega), take_last]
        refine match_j2 a hn i (by omega) _ _ _ _ _ _ _ (by simp; omega) (by omega) (by simp; omega) (by omega) (by omega) ?_
        rw [if_neg (by simp [hC])]
        simp only [Th.step, hR, if_true, if_neg he] at hnext
        exact hnext
    · have hR' : isR (bt a i) = false := by simpa using hR
      simp only [hR', Bool.false_eq_true, if_false]
      refine Ev.succ ?_
      simp only [impl_match.j1, Bool.false_eq_true, if_false, if_pos (show (0 : Int) ≤ (i : Int) by omega), if_pos (show (i : Int) < (a.size : Int) by omega), isReturn_eq, Option.bind_some, hR']
      refine match_j2 a hn i (by omega) (-1) _ _ _ _ _ _ (by omega) (by omega) (by omega) (by omega) (by omega) ?_
      by_cases hC : isC (bt a i) = true
      · rw [if_pos hC]
        simp only [Th.step, hR', Bool.false_eq_true, if_false, hC, if_true] at hnext
        exact hnext
      · rw [if_neg hC]
        simp only [Th.step, hR', Bool.false_eq_true, if_false, hC] at hnext
        exact hnext

theorem match_ev (a : ByteArray) (hn : a.size ≤ 1048576) : Ev (fun k => impl_match.f k a)
    ((st (bt a) a.size).p, (st (bt a) a.size).r, (st (bt a) a.size).c, (st (bt a) a.size).d, (st (bt a) a.size).q) := match_loop a hn a.size 0 (by omega)

end Go.Proofs.Ythcnfaonafndoaa.Br
namespace Go.Proofs.Ythcnfaonafndoaa.Br
open Go.RowKit Go.Proofs.Ythcnfaonafndoaa.M Go.Proofs.YthcnfaonafndoaaW.PrintWords Go.Proofs.YthcnfaonafndoaaW.PrintLast Go.Proofs.YthcnfaonafndoaaW.PrintMore Go.Proofs.Ythcnfaonafndoaa.Th
set_option linter.unusedVariables false
set_option linter.unusedSimpArgs false
theorem depths_loop (a : ByteArray) (hn : a.size ≤ 1048576) : ∀ d i : Nat, i + d = a.size →
    Ev (fun k => spec_l01Depths.l0 k a (st (bt a) i).d ((st (bt a) i).c.length : Int) i) (st (bt a) a.size).d := by
  intro d
  induction d with
  | zero =>
    intro i hi
    obtain rfl : i = a.size := by omega
    refine Ev.succ ?_
    simp only [spec_l01Depths.l0, if_neg (show ¬ (a.size : Int) < (a.size : Int) by omega)]
    exact Ev.now _
  | succ d ih =>
    intro i hi
    have B := basic (bt a) i
    have hnext := ih (i + 1) (by omega)
    have hst : st (bt a) (i + 1) = Th.step (st (bt a) i) i (bt a i) := rfl
    rw [hst] at hnext
    obtain ⟨lp, lq, ld, lr, lc, hc, hr⟩ := B
    generalize st (bt a) i = s at *
    refine Ev.succ ?_
    have b1 : (i : Int) < (a.size : Int) := by omega
    have b2 : (0 : Int) ≤ (i : Int) := by omega
    have b3 : s.d.length < 17592186044416 := by omega
    have e1 : wrap64 ((s.c.length : Int) + 1) = (s.c.length : Int) + 1 := w64 (by omega) (by omega)
    have e3 : wrap64 ((s.c.length : Int) - 1) = (s.c.length : Int) - 1 := w64 (by omega) (by omega)
    have e4 : wrap64 ((i : Int) + 1) = (i : Int) + 1 := w64 (by omega) (by omega)
    simp only [spec_l01Depths.l0, if_pos b1, if_pos b2, sCall_eq, sReturn_eq, Option.bind_some, e1, e3, e4, if_pos b3]
    clear e1 e3 e4
    by_cases hC : isC (bt a i) = true
    · have hR : isR (bt a i) = false := by
        cases h : isR (bt a i) with
        | false => rfl
        | true => rw [isR_notC h] at hC; cases hC
      simp only [hC, if_true, hR, Bool.false_eq_true, if_false]
      simp only [Th.step, hR, Bool.false_eq_true, if_false, hC, if_true, List.length_append, List.length_cons, List.length_nil] at hnext
      exact hnext
    · have hC' : isC (bt a i) = false := by simpa using hC
      simp only [hC', Bool.false_eq_true, if_false]
      by_cases hR : isR (bt a i) = true
      · simp only [hR, if_true]
        by_cases he : s.c = []
        · simp only [he, List.length_nil, if_neg (show ¬ ((0 : Nat) : Int) > 0 by decide)]
          simp only [Th.step, hR, if_true, he] at hnext
          exact hnext
        · have hl : 0 < s.c.length := List.length_pos_iff.2 he
          simp only [if_pos (show (s.c.length : Int) > 0 by omega)]
          simp only [Th.step, hR, if_true, if_neg he, List.length_dropLast] at hnext
          rw [show ((s.c.length - 1 : Nat) : Int) = (s.c.length : Int) - 1 by omega] at hnext
          exact hnext
      · have hR' : isR (bt a i) = false := by simpa using hR
        simp only [hR', Bool.false_eq_true, if_false]
        simp only [Th.step, hR', Bool.false_eq_true, if_false, hC'] at hnext
        exact hnext

theorem depths_ev (a : ByteArray) (hn : a.size ≤ 1048576) : Ev (fun k => spec_l01Depths.f k a) (st (bt a) a.size).d := depths_loop a hn a.size 0 (by omega)

end Go.Proofs.Ythcnfaonafndoaa.Br
namespace Go.Proofs.Ythcnfaonafndoaa.Br
open Go.RowKit Go.Proofs.Ythcnfaonafndoaa.M Go.Proofs.YthcnfaonafndoaaW.PrintWords Go.Proofs.YthcnfaonafndoaaW.PrintLast Go.Proofs.YthcnfaonafndoaaW.PrintMore Go.Proofs.Ythcnfaonafndoaa.Th
set_option linter.unusedVariables false
set_option linter.unusedSimpArgs false
theorem in_eq (a lo hi : Int) : spec_l00In.f a lo hi = some (decide (lo ≤ a ∧ a ≤ hi)) := by
  unfold spec_l00In.f
  by_cases h : a ≥ lo
  · rw [if_pos h]; congr 1; simp; omega
  · rw [if_neg h]; congr 1; simp; omega
theorem within_eq (a lo hi : Int) : impl_within.f a lo hi = some (decide (lo ≤ a ∧ a ≤ hi)) := by
  unfold impl_within.f
  by_cases h : a ≥ lo
  · rw [if_pos h]; congr 1; simp; omega
  · rw [if_neg h]; congr 1; simp; omega

end Go.Proofs.Ythcnfaonafndoaa.Br
namespace Go.Proofs.Ythcnfaonafndoaa.Br
open Go.RowKit Go.Proofs.Ythcnfaonafndoaa.M Go.Proofs.YthcnfaonafndoaaW.PrintWords Go.Proofs.YthcnfaonafndoaaW.PrintLast Go.Proofs.YthcnfaonafndoaaW.PrintMore Go.Proofs.Ythcnfaonafndoaa.Th
set_option linter.unusedVariables false
set_option linter.unusedSimpArgs false
/-- The greatest of some numbers and a first one. -/
def most (x : Int) (l : List Int) : Int := l.foldl mx x

theorem max_loop (l : List Int) (hl : l.length ≤ 2097152) (R : Int) : ∀ d i : Nat, i + d = l.length → ∀ x : Int, most x (l.drop i) = R →
    Ev (fun k => slices_Max_Lint64_int64.l0 k l x i) R := by
  intro d
  induction d with
  | zero =>
    intro i hi x hx
    refine Ev.succ ?_
    simp only [slices_Max_Lint64_int64.l0, if_neg (show ¬ (i : Int) < (l.length : Int) by omega)]
    rw [List.drop_eq_nil_of_le (by omega)] at hx
    exact Ev.done (by rw [← hx]; rfl)
  | succ d ih =>
    intro i hi x hx
    have hnext := ih (i + 1) (by omega)
    have b1 : (i : Int) < (l.length : Int) := by omega
    have b2 : (0 : Int) ≤ (i : Int) := by omega
    have f3 : wrap64 ((i : Int) + 1) = (i : Int) + 1 := w64 (by omega) (by omega)
    refine Ev.succ ?_
    simp only [slices_Max_Lint64_int64.l0, if_pos b1, if_pos b2, f3]
    refine hnext _ ?_
    rw [List.drop_eq_getElem_cons (by omega : i < l.length)] at hx
    rw [← hx, rd, Int.toNat_natCast, List.getD_eq_getElem?_getD, List.getElem?_eq_getElem (show i < l.length by omega)]
    rfl

theorem st_d (b : Int → Int) : ∀ n, ∃ t, (st b n).d = 0 :: t
  | 0 => ⟨[], rfl⟩
  | n + 1 => by
    obtain ⟨t, ht⟩ := st_d b n
    unfold st Th.step
    split
    · split
      · exact ⟨t ++ [0], by simp [ht]⟩
      · exact ⟨_, by rw [ht]; rfl⟩
    · split
      · exact ⟨_, by rw [ht]; rfl⟩
      · exact ⟨_, by rw [ht]; rfl⟩

theorem iDepth_ev (a : ByteArray) (hn : a.size ≤ 1048576) : Ev (fun k => impl_DepthOf.f k a) (if okw a = true then (most 0 (st (bt a) a.size).d, 0) else (0, 1)) := by
  unfold impl_DepthOf.f
  refine Ev.bind (valid_ev a hn) ?_
  by_cases h : okw a = true
  · simp only [h, if_true]
    have B := basic (bt a) a.size
    refine Ev.bind (match_ev a hn) (Ev.bind (a := most 0 (st (bt a) a.size).d) ?_ (Ev.now _))
    simp only
    have ld := B.ld
    obtain ⟨t, ht⟩ := st_d (bt a) a.size
    generalize (st (bt a) a.size).d = D at *
    have b1 : ¬ (D.length : Int) < 1 := by omega
    have b2 : 0 < (D.length : Int) := by omega
    simp only [slices_Max_Lint64_int64.f, if_neg b1, if_pos b2]
    refine max_loop D (by omega) _ (D.length - 1) 1 (by omega) (rd D 0) ?_
    rw [ht]
    simp [most, rd, mx]
  · simp only [h, if_false]
    exact Ev.now _

end Go.Proofs.Ythcnfaonafndoaa.Br
namespace Go.Proofs.Ythcnfaonafndoaa.Br
open Go.RowKit Go.Proofs.Ythcnfaonafndoaa.M Go.Proofs.YthcnfaonafndoaaW.PrintWords Go.Proofs.YthcnfaonafndoaaW.PrintLast Go.Proofs.YthcnfaonafndoaaW.PrintMore Go.Proofs.Ythcnfaonafndoaa.Th
set_option linter.unusedVariables false
set_option linter.unusedSimpArgs false
/-- Is a text a test. -/
def tst (l : List UInt8) : Bool := l == [40] || l == [91] || l == [97] || l == [98] || l == [42] || l == [46]

theorem toList_len (a : ByteArray) : a.toList.length = a.size := by rw [Lib.toList_data]; simp
theorem toList_one {a : ByteArray} (h : a.size = 1) : ∃ c : UInt8, a = ⟨#[c]⟩ ∧ a.toList = [c] := by
  obtain ⟨⟨l⟩⟩ := a
  match l, h with
  | [c], _ => exact ⟨c, rfl, by rw [Lib.toList_data]⟩

theorem sTest_eq (a : ByteArray) : spec_l05Test.f a = some (tst a.toList) := by
  unfold spec_l05Test.f tst
  by_cases h1 : a.toList = [40]
  · simp [h1]
  · by_cases h2 : a.toList = [91]
    · simp [h2]
    · by_cases h3 : a.toList = [97]
      · simp [h3]
      · by_cases h4 : a.toList = [98]
        · simp [h4]
        · by_cases h5 : a.toList = [42]
          · simp [h5]
          · simp [h1, h2, h3, h4, h5]

theorem iTest_eq (a : ByteArray) : impl_isTest.f a = some (tst a.toList) := by
  unfold impl_isTest.f
  by_cases h : a.size = 1
  · obtain ⟨c, rfl, hl⟩ := toList_one h
    rw [if_pos (by rw [h]; rfl)]
    unfold strings_Contains.f
    rw [if_pos h, hl]
    simp only [Option.bind_some]
    congr 1
    show decide (0 ≤ Lib.indexByte [40, 91, 97, 98, 42, 46] c) = tst [c]
    have key : ∀ n : Fin 256, decide (0 ≤ Lib.indexByte [40, 91, 97, 98, 42, 46] (UInt8.ofNat n.val)) = tst [UInt8.ofNat n.val] := by decide +kernel
    have := key ⟨c.toNat, c.toNat_lt⟩
    simpa using this
  · rw [if_neg (by omega)]
    have hl := toList_len a
    unfold tst
    have : ∀ x : UInt8, (a.toList == [x]) = false := by
      intro x
      rw [beq_eq_false_iff_ne]
      intro e
      rw [e] at hl
      simp at hl
      omega
    simp [this]

end Go.Proofs.Ythcnfaonafndoaa.Br
namespace Go.Proofs.Ythcnfaonafndoaa.Br
open Go.RowKit Go.Proofs.Ythcnfaonafndoaa.M Go.Proofs.YthcnfaonafndoaaW.PrintWords Go.Proofs.YthcnfaonafndoaaW.PrintLast Go.Proofs.YthcnfaonafndoaaW.PrintMore Go.Proofs.Ythcnfaonafndoaa.Th
set_option linter.unusedVariables false
set_option linter.unusedSimpArgs false
theorem drop_all {α : Type} (l : List α) (p : α → Bool) (i : Nat) (d : α) (h : i < l.length) : (l.drop i).all p = (p (l.getD i d) && (l.drop (i + 1)).all p) := by
  rw [List.drop_eq_getElem_cons h, List.all_cons, List.getD_eq_getElem?_getD, List.getElem?_eq_getElem h]
  rfl
theorem drop_end {α : Type} (l : List α) : l.drop l.length = [] := List.drop_length
def tstS (x : S66) : Bool := tst x.f1.toList
def okQ (l : List S66) : Bool := l.all tstS && decide (1 ≤ (l.length : Int) ∧ (l.length : Int) ≤ 6)
theorem specOkQ_ev (l : List S66) (hl : l.length ≤ 1048576) : Ev (fun k => spec_l05Ok.f k l) (okQ l) := by
  have loop : ∀ i, i ≤ l.length → Ev (fun k => spec_l05Ok.l0 k i l) ((l.drop i).all tstS && decide (1 ≤ (l.length : Int) ∧ (l.length : Int) ≤ 6)) := by
    refine down l.length ?_ ?_
    · refine Ev.succ ?_
      simp only [spec_l05Ok.l0, if_neg inlt, in_eq, Option.bind_some, drop_end, List.all_nil, Bool.true_and]
      exact Ev.now _
    · intro i hi ih
      refine Ev.succ ?_
      simp only [spec_l05Ok.l0, if_pos (ilt hi), if_pos (i0 i), rd_T66, Int.toNat_natCast, sTest_eq, Option.bind_some, up1 i (by omega)]
      rw [drop_all l tstS i z66 hi]
      by_cases e : tst (l.getD i z66).f1.toList = true
      · simp only [if_pos e, show tstS (l.getD i z66) = true from e, Bool.true_and]
        exact ih
      · simp only [if_neg e, show tstS (l.getD i z66) = false from by simpa [tstS] using e, Bool.false_and]
        exact Ev.now _
  exact loop 0 (by omega)
theorem implValidQ_ev (l : List S66) (hl : l.length ≤ 1048576) : Ev (fun k => impl_ValidQuery.f k l) (okQ l) := by
  have loop : ∀ i, i ≤ l.length → ∃ r : Int, Ev (fun k => slices_IndexFunc_Limpl_QueryStep_impl_QueryStep_at_impl_ValidQuery_1.l0 k l (l.length : Int) i) r ∧ ((l.drop i).all tstS = !(decide (r ≥ 0))) := by
    refine down l.length ?_ ?_
    · refine ⟨-1, Ev.succ ?_, by rw [drop_end]; rfl⟩
      simp only [slices_IndexFunc_Limpl_QueryStep_impl_QueryStep_at_impl_ValidQuery_1.l0, if_neg inlt]
      exact Ev.now _
    · intro i hi ih
      obtain ⟨r, hr, he⟩ := ih
      by_cases e : tst (l.getD i z66).f1.toList = true
      · refine ⟨r, Ev.succ ?_, ?_⟩
        · simp only [slices_IndexFunc_Limpl_QueryStep_impl_QueryStep_at_impl_ValidQuery_1.l0, if_pos (ilt hi), if_pos (i0 i), rd_T66, Int.toNat_natCast, impl_ValidQuery_1.f, iTest_eq, Option.bind_some, e, Bool.not_true, Bool.false_eq_true, if_false, up1 i (by omega)]
          exact hr
        · rw [drop_all l tstS i z66 hi, show tstS (l.getD i z66) = true from e, Bool.true_and, he]
      · have e' : tst (l.getD i z66).f1.toList = false := by simpa using e
        refine ⟨(i : Int), Ev.succ ?_, ?_⟩
        · simp only [slices_IndexFunc_Limpl_QueryStep_impl_QueryStep_at_impl_ValidQuery_1.l0, if_pos (ilt hi), if_pos (i0 i), rd_T66, Int.toNat_natCast, impl_ValidQuery_1.f, iTest_eq, Option.bind_some, e', Bool.not_false, if_true]
          exact Ev.now _
        · rw [drop_all l tstS i z66 hi, show tstS (l.getD i z66) = false from e', Bool.false_and]
          simp
  obtain ⟨r, hr, he⟩ := loop 0 (by omega)
  unfold impl_ValidQuery.f impl_size_impl_QueryStep.f okQ
  simp only [Option.bind_some, within_eq]
  by_cases h : 1 ≤ (l.length : Int) ∧ (l.length : Int) ≤ 6
  · simp only [decide_eq_true h, if_true, Bool.and_true]
    rw [List.drop_zero] at he
    rw [he]
    unfold slices_ContainsFunc_Limpl_QueryStep_impl_QueryStep_at_impl_ValidQuery_1.f slices_IndexFunc_Limpl_QueryStep_impl_QueryStep_at_impl_ValidQuery_1.f
    exact Ev.bind (Ev.bind hr (Ev.now _)) (Ev.now _)
  · simp only [decide_eq_false h, Bool.false_eq_true, if_false, Bool.and_false]
    exact Ev.now _
end Go.Proofs.Ythcnfaonafndoaa.Br
namespace Go.Proofs.Ythcnfaonafndoaa.Br
open Go.RowKit Go.Proofs.Ythcnfaonafndoaa.M Go.Proofs.YthcnfaonafndoaaW.PrintWords Go.Proofs.YthcnfaonafndoaaW.PrintLast Go.Proofs.YthcnfaonafndoaaW.PrintMore Go.Proofs.Ythcnfaonafndoaa.Th
set_option linter.unusedVariables false
set_option linter.unusedSimpArgs false
theorem max_eq (x y : Int) : spec_l00Max.f x y = some (mx x y) := by
  unfold spec_l00Max.f mx
  by_cases h : x > y
  · rw [if_pos h, if_neg (by omega)]
  · rw [if_neg h]; split
    · rfl
    · rw [show x = y by omega]
def memR (q : List S66) (a : ByteArray) : Int × Int := if okQ q = true ∧ okw a = true then (most 0 (st (bt a) a.size).d, 0) else (0, 1)
theorem sMemory_ev (q : List S66) (a : ByteArray) (hq : q.length ≤ 1048576) (hn : a.size ≤ 1048576) : Ev (fun k => spec_MemoryOf.f k q a) (memR q a) := by
  have ld := (basic (bt a) a.size).ld
  unfold spec_MemoryOf.f spec_l05Given.f memR
  by_cases h1 : okQ q = true
  · by_cases h2 : okw a = true
    · rw [if_pos ⟨h1, h2⟩]
      refine Ev.bind (a := 0) (Ev.bind (specOkQ_ev q hq) ?_) ?_
      · simp only [h1, if_true]
        refine Ev.bind (specOk_ev a hn) ?_
        simp only [h2, if_true]
        exact Ev.now _
      simp only [if_true]
      refine Ev.bind (depths_ev a hn) ?_
      generalize (st (bt a) a.size).d = l at *
      have loop : ∀ i, i ≤ l.length → ∀ x : Int, most x (l.drop i) = most 0 l → Ev (fun k => spec_MemoryOf.l0 k x l i) (most 0 l, 0) := by
        refine down l.length ?_ ?_
        · intro x hx
          refine Ev.succ ?_
          simp only [spec_MemoryOf.l0, if_neg inlt]
          rw [List.drop_length] at hx
          exact Ev.done (by rw [← hx]; rfl)
        · intro i hi ih x hx
          refine Ev.succ ?_
          simp only [spec_MemoryOf.l0, if_pos (ilt hi), if_pos (i0 i), max_eq, Option.bind_some, up1 i (by omega)]
          refine ih _ ?_
          rw [List.drop_eq_getElem_cons hi] at hx
          rw [← hx, rd, Int.toNat_natCast, List.getD_eq_getElem?_getD, List.getElem?_eq_getElem hi]
          rfl
      exact loop 0 (by omega) 0 (by rw [List.drop_zero])
    · rw [if_neg (fun h => h2 h.2)]
      refine Ev.bind (a := 1) (Ev.bind (specOkQ_ev q hq) ?_) ?_
      · simp only [h1, if_true]
        refine Ev.bind (specOk_ev a hn) ?_
        simp only [h2, if_false]
        exact Ev.now _
      · simp only [show ¬ (1 : Int) = 0 by decide, if_false]
        exact Ev.now _
  · rw [if_neg (fun h => h1 h.1)]
    refine Ev.bind (a := 1) (Ev.bind (specOkQ_ev q hq) ?_) ?_
    · simp only [h1, if_false]
      exact Ev.now _
    · simp only [show ¬ (1 : Int) = 0 by decide, if_false]
      exact Ev.now _
theorem iMemory_ev (q : List S66) (a : ByteArray) (hq : q.length ≤ 1048576) (hn : a.size ≤ 1048576) : Ev (fun k => impl_MemoryOf.f k q a) (memR q a) := by
  unfold impl_MemoryOf.f memR
  refine Ev.bind (implValidQ_ev q hq) ?_
  by_cases h1 : okQ q = true
  · simp only [h1, if_true, true_and]
    exact Ev.bind (iDepth_ev a hn) (Ev.now _)
  · rw [if_neg (fun h => h1 h.1)]
    simp only [h1, if_false]
    exact Ev.now _
end Go.Proofs.Ythcnfaonafndoaa.Br
