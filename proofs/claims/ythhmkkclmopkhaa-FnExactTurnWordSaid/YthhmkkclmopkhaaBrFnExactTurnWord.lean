/- What the law FnExactTurnWord leans on: plain facts, and what the printed functions that it reaches come to; for all arguments that the facts name. -/
import Derived.Test.YthhmkkclmopkhaaPx10
import Derived.Test.YthhmkkclmopkhaaPx11
import Derived.Test.YthhmkkclmopkhaaPx28
import Derived.Test.YthhmkkclmopkhaaPx30
import Derived.Test.YthhmkkclmopkhaaPx31
import Derived.Test.YthhmkkclmopkhaaPx32
import Derived.Test.YthhmkkclmopkhaaPx35
import Derived.Test.YthhmkkclmopkhaaPx45
import Derived.Test.YthhmkkclmopkhaaPx46
namespace Go.Proofs.Ythhmkkclmopkhaa.Th

def g (l : List Int) (j : Nat) : Int := l.getD j 0

end Go.Proofs.Ythhmkkclmopkhaa.Th
namespace Go.Proofs.Ythhmkkclmopkhaa.Br
open Go.RowKit Go.Proofs.Ythhmkkclmopkhaa.P Go.Proofs.YthhmkkclmopkhaaW.PrintWords Go.Proofs.YthhmkkclmopkhaaW.PrintLast Go.Proofs.YthhmkkclmopkhaaW.PrintMore Go.Proofs.Ythhmkkclmopkhaa.Th
set_option linter.unusedVariables false
set_option linter.unusedSimpArgs false
theorem Ev.succ {α : Type} {g : Nat → Option α} {r : α} (h : Ev (fun k => g (k + 1)) r) : Ev g r := by
  obtain ⟨K, hK⟩ := h
  refine ⟨K + 1, fun k hk => ?_⟩
  obtain ⟨m, rfl⟩ : ∃ m, k = m + 1 := ⟨k - 1, by omega⟩
  exact hK m (by omega)
theorem Ev.done {α : Type} {r s : α} (h : r = s) : Ev (fun _ : Nat => some r) s := h ▸ Ev.now r
theorem w64 {x : Int} (h0 : -9223372036854775808 ≤ x) (h1 : x ≤ 9223372036854775807) : wrap64 x = x := by unfold wrap64; omega

/-- The number of a symbol, -1 if it is none. -/
def sym (b : Int) : Int := if b = 40 then 0 else if b = 91 then 1 else if b = 41 then 2 else if b = 93 then 3 else if b = 97 then 4 else if b = 98 then 5 else -1

def allFrom (f : Nat → Bool) : Nat → Nat → Bool
  | 0, _ => true
  | d + 1, i => f i && allFrom f d (i + 1)

/-- Is a text a word. -/
def okw (a : ByteArray) : Bool := allFrom (fun j => decide (0 ≤ sym (bt a j))) a.size 0 && decide ((a.size : Int) ≤ 60)

theorem bs0 : bt (⟨#[40, 91, 41, 93, 97, 98]⟩ : ByteArray) 0 = 40 := by decide
theorem bs1 : bt (⟨#[40, 91, 41, 93, 97, 98]⟩ : ByteArray) 1 = 91 := by decide
theorem bs2 : bt (⟨#[40, 91, 41, 93, 97, 98]⟩ : ByteArray) 2 = 41 := by decide
theorem bs3 : bt (⟨#[40, 91, 41, 93, 97, 98]⟩ : ByteArray) 3 = 93 := by decide
theorem bs4 : bt (⟨#[40, 91, 41, 93, 97, 98]⟩ : ByteArray) 4 = 97 := by decide
theorem bs5 : bt (⟨#[40, 91, 41, 93, 97, 98]⟩ : ByteArray) 5 = 98 := by decide

theorem symbol_ev (b : Int) : Ev (fun k => spec_l01Symbol.f k b) (sym b) := by
  unfold spec_l01Symbol.f sym
  have w1 : wrap64 (0 + 1) = 1 := by unfold wrap64; omega
  have w2 : wrap64 (1 + 1) = 2 := by unfold wrap64; omega
  have w3 : wrap64 (2 + 1) = 3 := by unfold wrap64; omega
  have w4 : wrap64 (3 + 1) = 4 := by unfold wrap64; omega
  have w5 : wrap64 (4 + 1) = 5 := by unfold wrap64; omega
  have w6 : wrap64 (5 + 1) = 6 := by unfold wrap64; omega
  refine Ev.succ ?_
  simp only [spec_l01Symbol.l0, bs0]
  by_cases h0 : b = 40
  · subst h0; exact Ev.done rfl
  rw [if_neg h0]
  simp only [if_neg (Ne.symm h0), w1]
  refine Ev.succ ?_
  simp only [spec_l01Symbol.l0, bs1]
  by_cases h0 : b = 91
  · subst h0; exact Ev.done rfl
  rw [if_neg h0]
  simp only [if_neg (Ne.symm h0), w2]
  refine Ev.succ ?_
  simp only [spec_l01Symbol.l0, bs2]
  by_cases h0 : b = 41
  · subst h0; exact Ev.done rfl
  rw [if_neg h0]
  simp only [if_neg (Ne.symm h0), w3]
  refine Ev.succ ?_
  simp only [spec_l01Symbol.l0, bs3]
  by_cases h0 : b = 93
  · subst h0; exact Ev.done rfl
  rw [if_neg h0]
  simp only [if_neg (Ne.symm h0), w4]
  refine Ev.succ ?_
  simp only [spec_l01Symbol.l0, bs4]
  by_cases h0 : b = 97
  · subst h0; exact Ev.done rfl
  rw [if_neg h0]
  simp only [if_neg (Ne.symm h0), w5]
  refine Ev.succ ?_
  simp only [spec_l01Symbol.l0, bs5]
  by_cases h0 : b = 98
  · subst h0; exact Ev.done rfl
  rw [if_neg h0]
  simp only [if_neg (Ne.symm h0), w6]
  refine Ev.succ ?_
  simp only [spec_l01Symbol.l0]
  exact Ev.done rfl

theorem index_eq {b : Int} (h0 : 0 ≤ b) (h1 : b ≤ 255) : strings_IndexByte.f (⟨#[40, 91, 41, 93, 97, 98]⟩ : ByteArray) b = some (sym b) := by
  obtain ⟨n, rfl⟩ := Int.eq_ofNat_of_zero_le h0
  have hn : n < 256 := by omega
  clear h0 h1
  unfold strings_IndexByte.f
  congr 1
  have key : ∀ n : Fin 256, Lib.indexByte (⟨#[40, 91, 41, 93, 97, 98]⟩ : ByteArray).data.toList ((n.val : Int).toNat.toUInt8) = sym (n.val : Int) := by decide +kernel
  exact key ⟨n, hn⟩

theorem specOk_loop (a : ByteArray) (hn : a.size ≤ 1048576) : ∀ d i : Nat, i + d = a.size →
    Ev (fun k => spec_l01Ok.l0 k a i) (allFrom (fun j => decide (0 ≤ sym (bt a j))) d i && decide ((a.size : Int) ≤ 60)) := by
  intro d
  induction d with
  | zero =>
    intro i hi
    refine Ev.succ ?_
    simp only [spec_l01Ok.l0, if_neg (show ¬ (i : Int) < (a.size : Int) by omega), allFrom, Bool.true_and]
    exact Ev.done rfl
  | succ d ih =>
    intro i hi
    refine Ev.succ ?_
    simp only [spec_l01Ok.l0, if_pos (show (i : Int) < (a.size : Int) by omega), if_pos (show (0 : Int) ≤ (i : Int) by omega), allFrom]
    refine Ev.bind (symbol_ev _) ?_
    rw [w64 (by omega) (by omega)]
    by_cases h : sym (bt a i) < 0
    · simp only [if_pos h]
      exact Ev.done (by simp; omega)
    · simp only [if_neg h]
      have := ih (i + 1) (by omega)
      simpa [show 0 ≤ sym (bt a i) by omega] using this

theorem specOk_ev (a : ByteArray) (hn : a.size ≤ 1048576) : Ev (fun k => spec_l01Ok.f k a) (okw a) := specOk_loop a hn a.size 0 (by omega)

theorem valid_loop (a : ByteArray) (hn : a.size ≤ 1048576) : ∀ d i : Nat, i + d = a.size →
    Ev (fun k => impl_ValidWord.l0 k a a.size i) (allFrom (fun j => decide (0 ≤ sym (bt a j))) d i && decide ((a.size : Int) ≤ 60)) := by
  intro d
  induction d with
  | zero =>
    intro i hi
    refine Ev.succ ?_
    simp only [impl_ValidWord.l0, if_neg (show ¬ (i : Int) < (a.size : Int) by omega), allFrom, Bool.true_and]
    exact Ev.done rfl
  | succ d ih =>
    intro i hi
    refine Ev.succ ?_
    have hb := bt_range a i
    simp only [impl_ValidWord.l0, if_pos (show (i : Int) < (a.size : Int) by omega), if_pos (show (0 : Int) ≤ (i : Int) by omega), allFrom, index_eq hb.1 hb.2, Option.bind_some]
    rw [w64 (by omega) (by omega)]
    by_cases h : sym (bt a i) < 0
    · simp only [if_pos h]
      exact Ev.done (by simp; omega)
    · simp only [if_neg h]
      have := ih (i + 1) (by omega)
      simpa [show 0 ≤ sym (bt a i) by omega] using this

theorem valid_ev (a : ByteArray) (hn : a.size ≤ 1048576) : Ev (fun k => impl_ValidWord.f k a) (okw a) := valid_loop a hn a.size 0 (by omega)

end Go.Proofs.Ythhmkkclmopkhaa.Br
namespace Go.Proofs.Ythhmkkclmopkhaa.Br
open Go.RowKit Go.Proofs.Ythhmkkclmopkhaa.P Go.Proofs.YthhmkkclmopkhaaW.PrintWords Go.Proofs.YthhmkkclmopkhaaW.PrintLast Go.Proofs.YthhmkkclmopkhaaW.PrintMore Go.Proofs.Ythhmkkclmopkhaa.Th
set_option linter.unusedVariables false
set_option linter.unusedSimpArgs false
theorem allFrom_iff {f : Nat → Bool} : ∀ {d i : Nat}, allFrom f d i = true ↔ ∀ j, i ≤ j → j < i + d → f j = true
  | 0, i => by simp [allFrom]; omega
  | d + 1, i => by
    unfold allFrom
    rw [Bool.and_eq_true, allFrom_iff]
    constructor
    · rintro ⟨h1, h2⟩ j hj hj2
      by_cases h : j = i
      · subst h; exact h1
      · exact h2 j (by omega) (by omega)
    · intro h
      exact ⟨h i (by omega) (by omega), fun j h1 h2 => h j (by omega) (by omega)⟩

theorem okw_iff {a : ByteArray} : okw a = true ↔ (∀ j : Nat, j < a.size → 0 ≤ sym (bt a j)) ∧ a.size ≤ 60 := by
  unfold okw
  rw [Bool.and_eq_true, allFrom_iff]
  simp
  intro _
  omega

theorem okw_sym {a : ByteArray} (h : okw a = true) {j : Nat} (hj : j < a.size) : 0 ≤ sym (bt a j) := (okw_iff.1 h).1 j hj

end Go.Proofs.Ythhmkkclmopkhaa.Br
namespace Go.Proofs.Ythhmkkclmopkhaa.Br
open Go.RowKit Go.Proofs.Ythhmkkclmopkhaa.P Go.Proofs.YthhmkkclmopkhaaW.PrintWords Go.Proofs.YthhmkkclmopkhaaW.PrintLast Go.Proofs.YthhmkkclmopkhaaW.PrintMore Go.Proofs.Ythhmkkclmopkhaa.Th
set_option linter.unusedVariables false
set_option linter.unusedSimpArgs false
theorem down {P : Nat → Prop} (n : Nat) (h0 : P n) (h1 : ∀ i, i < n → P (i + 1) → P i) : ∀ i, i ≤ n → P i := by
  have key : ∀ d i, i + d = n → P i := by
    intro d
    induction d with
    | zero => intro i hi; obtain rfl : i = n := by omega
              exact h0
    | succ d ih => intro i hi; exact h1 i (by omega) (ih (i + 1) (by omega))
  intro i hi
  exact key (n - i) i (by omega)
end Go.Proofs.Ythhmkkclmopkhaa.Br
namespace Go.Proofs.Ythhmkkclmopkhaa.Br
open Go.RowKit Go.Proofs.Ythhmkkclmopkhaa.P Go.Proofs.YthhmkkclmopkhaaW.PrintWords Go.Proofs.YthhmkkclmopkhaaW.PrintLast Go.Proofs.YthhmkkclmopkhaaW.PrintMore Go.Proofs.Ythhmkkclmopkhaa.Th
set_option linter.unusedVariables false
set_option linter.unusedSimpArgs false
/-- The symbol of a turned word. -/
def oth (c : Int) : Int := if c = 40 then 41 else if c = 41 then 40 else if c = 91 then 93 else if c = 93 then 91 else c
theorem other_eq (b : Int) : spec_l01Other.f b = some (oth b) := by
  unfold spec_l01Other.f oth
  split
  · rfl
  · split
    · rfl
    · split
      · rfl
      · split <;> rfl
theorem sym_cases {c : Int} (h : 0 ≤ sym c) : c = 40 ∨ c = 91 ∨ c = 41 ∨ c = 93 ∨ c = 97 ∨ c = 98 := by
  unfold sym at h
  by_cases h0 : c = 40
  · exact .inl h0
  rw [if_neg h0] at h
  by_cases h0 : c = 91
  · exact .inr (.inl h0)
  rw [if_neg h0] at h
  by_cases h0 : c = 41
  · exact .inr (.inr (.inl h0))
  rw [if_neg h0] at h
  by_cases h0 : c = 93
  · exact .inr (.inr (.inr (.inl h0)))
  rw [if_neg h0] at h
  by_cases h0 : c = 97
  · exact .inr (.inr (.inr (.inr (.inl h0))))
  rw [if_neg h0] at h
  by_cases h0 : c = 98
  · exact .inr (.inr (.inr (.inr (.inr h0))))
  rw [if_neg h0] at h
  omega
theorem turnSym_oth {c : Int} (h : 0 ≤ sym c) : turnSym c = oth c := by
  rcases sym_cases h with rfl | rfl | rfl | rfl | rfl | rfl <;> decide +kernel
/-- The turned word's symbols. -/
def twl (a : ByteArray) : List Int := (List.range a.size).map fun j => oth (bt a ((a.size - 1 - j : Nat) : Int))
theorem twl_len (a : ByteArray) : (twl a).length = a.size := by simp [twl]
theorem twl_g (a : ByteArray) {j : Nat} (h : j < a.size) : g (twl a) j = oth (bt a ((a.size - 1 - j : Nat) : Int)) := by
  unfold g twl
  rw [List.getD_eq_getElem?_getD, List.getElem?_map, List.getElem?_range h]
  rfl
theorem turned_eq {a : ByteArray} (h : okw a = true) : turned a = twl a := by
  unfold turned twl
  apply List.ext_getElem
  · simp [bytesOf_length]
  · intro j h1 h2
    have hj : j < a.size := by simpa [bytesOf_length] using h1
    have hl := bytesOf_length a
    simp only [List.getElem_map, List.getElem_range, List.getElem_reverse]
    have hb : (bytesOf a)[(bytesOf a).length - 1 - j]'(by omega) = bt a ((a.size - 1 - j : Nat) : Int) := by
      rw [← rd_bytesOf]
      unfold rd
      rw [Int.toNat_natCast, List.getD_eq_getElem?_getD, List.getElem?_eq_getElem (by omega)]
      simp [hl]
    rw [hb]
    exact turnSym_oth (okw_sym h (by omega))
def tt (a : ByteArray) : ByteArray := strOfNums (twl a)
theorem turn_loop (a : ByteArray) (hn : a.size ≤ 1048576) : ∀ m, m ≤ a.size → Ev (fun k => spec_l01Turn.l0 k a ((twl a).take m) ((a.size : Int) - 1 - (m : Int))) (tt a) := by
  refine down a.size ?_ ?_
  · refine Ev.succ ?_
    have h : ¬ (a.size : Int) - 1 - (a.size : Int) ≥ 0 := by omega
    simp only [spec_l01Turn.l0, if_neg h]
    refine Ev.done ?_
    rw [List.take_of_length_le (by rw [twl_len]; exact Nat.le_refl _)]
    rfl
  · intro m hm ih
    have e : (a.size : Int) - 1 - (m : Int) = ((a.size - 1 - m : Nat) : Int) := by omega
    have e2 : wrap64 ((a.size : Int) - 1 - (m : Int) - 1) = (a.size : Int) - 1 - ((m + 1 : Nat) : Int) := by rw [w64 (by omega) (by omega)]; omega
    have b0 : (a.size : Int) - 1 - (m : Int) ≥ 0 := by clear e2; omega
    have b1 : (a.size : Int) - 1 - (m : Int) < (a.size : Int) := by clear e2; omega
    have hl : ((twl a).take m).length < 140737488355328 := by clear e2 e; rw [List.length_take, twl_len]; omega
    have hs : (twl a).take (m + 1) = (twl a).take m ++ [oth (bt a ((a.size : Int) - 1 - (m : Int)))] := by
      have h1 : m < (twl a).length := by clear e2 e; rw [twl_len]; exact hm
      have h2 := twl_g a hm
      unfold g at h2
      rw [List.getD_eq_getElem?_getD, List.getElem?_eq_getElem h1] at h2
      rw [List.take_succ_eq_append_getElem h1, e, ← h2]
      rfl
    refine Ev.succ ?_
    simp only [spec_l01Turn.l0, if_pos b0, if_pos (show (0 : Int) ≤ (a.size : Int) - 1 - (m : Int) from b0), if_pos b1, other_eq, Option.bind_some, if_pos hl, e2]
    rw [← hs]
    exact ih
theorem sTurn_ev (a : ByteArray) (hn : a.size ≤ 1048576) : Ev (fun k => spec_TurnWord.f k a) (if okw a = true then (tt a, 0) else ((⟨#[]⟩ : ByteArray), 1)) := by
  unfold spec_TurnWord.f
  refine Ev.bind (specOk_ev a hn) ?_
  by_cases h : okw a = true
  · simp only [h, if_true]
    refine Ev.bind (a := tt a) ?_ (Ev.now _)
    have f := turn_loop a hn 0 (Nat.zero_le _)
    unfold spec_l01Turn.f
    have e : wrap64 ((a.size : Int) - 1) = (a.size : Int) - 1 - ((0 : Nat) : Int) := by rw [w64 (by omega) (by omega)]; omega
    rw [e]
    exact f
  · simp only [h, if_false]
    exact Ev.now _
theorem iTurn_ev (a : ByteArray) (hn : a.size ≤ 1048576) : Ev (fun k => impl_TurnWord.f k a) (if okw a = true then (tt a, 0) else ((⟨#[]⟩ : ByteArray), 1)) := by
  unfold impl_TurnWord.f
  refine Ev.bind (valid_ev a hn) ?_
  by_cases h : okw a = true
  · simp only [h, if_true, if_pos hn, turned_eq h]
    exact Ev.now _
  · simp only [h, if_false]
    exact Ev.now _
/-! ### what a turned word is -/
end Go.Proofs.Ythhmkkclmopkhaa.Br
