/- Words: whether a text made of others is one; the parts of a text as bytes. -/
import Derived.Test.YtdiahgdjeacolaaPx49
import Derived.Test.YtdiahgdjeacolaaTh
import Derived.Test.YtdiahgdjeacolaaBrA
namespace Go.Proofs.Ytdiahgdjeacolaa.Br
open Go.RowKit Go.Proofs.Ytdiahgdjeacolaa.P Go.Proofs.YtdiahgdjeacolaaW.PrintWords Go.Proofs.YtdiahgdjeacolaaW.PrintLast Go.Proofs.YtdiahgdjeacolaaW.PrintMore Go.Proofs.Ytdiahgdjeacolaa.Th
set_option linter.unusedVariables false
set_option linter.unusedSimpArgs false

theorem allFrom_iff {f : Nat → Bool} : ∀ {d i : Nat}, allFrom f d i = true ↔ ∀ j, i ≤ j → j < i + d → f j = true
  | 0, i => by simp [allFrom]; omega
  | d + 1, i => by
    unfold allFrom
    rw [Bool.and_eq_true, allFrom_iff]
    constructor
    · rintro ⟨h1, h2⟩ j hj hj2
      by_cases h : j = i
      · subst h; exact h1
      · exact h2 j (by omega) (by omega)
    · intro h
      exact ⟨h i (by omega) (by omega), fun j h1 h2 => h j (by omega) (by omega)⟩

theorem okw_iff {a : ByteArray} : okw a = true ↔ (∀ j : Nat, j < a.size → 0 ≤ sym (bt a j)) ∧ a.size ≤ 60 := by
  unfold okw
  rw [Bool.and_eq_true, allFrom_iff]
  simp
  intro _
  omega

theorem okw_size {a : ByteArray} (h : okw a = true) : a.size ≤ 60 := (okw_iff.1 h).2
theorem okw_sym {a : ByteArray} (h : okw a = true) {j : Nat} (hj : j < a.size) : 0 ≤ sym (bt a j) := (okw_iff.1 h).1 j hj

theorem bt_lt {a : ByteArray} {j : Nat} (h : j < a.size) : bt a j = (a[j].toNat : Int) := by
  unfold bt; simp [h]
theorem bt_ge {a : ByteArray} {j : Nat} (h : a.size ≤ j) : bt a j = 0 := by
  unfold bt; simp; omega

theorem bt_append (a b : ByteArray) (j : Nat) : bt (a ++ b) j = if j < a.size then bt a j else bt b ((j - a.size : Nat) : Int) := by
  by_cases h : j < a.size
  · rw [if_pos h, bt_lt h, bt_lt (by rw [ByteArray.size_append]; omega), ByteArray.getElem_append_left h]
  · rw [if_neg h]
    by_cases h2 : j < a.size + b.size
    · rw [bt_lt (by rw [ByteArray.size_append]; exact h2), bt_lt (by omega), ByteArray.getElem_append_right (by omega)]
    · rw [bt_ge (by rw [ByteArray.size_append]; omega), bt_ge (by omega)]

theorem bt_extract (a : ByteArray) {i e j : Nat} (he : e ≤ a.size) (hj : j < e - i) : bt (a.extract i e) j = bt a ((i + j : Nat) : Int) := by
  rw [bt_lt (by rw [ByteArray.size_extract]; omega), bt_lt (by omega), ByteArray.getElem_extract]

/-- Two texts with the same bytes. -/
theorem ba_ext {a b : ByteArray} (hs : a.size = b.size) (h : ∀ j : Nat, j < a.size → bt a j = bt b j) : a = b := by
  apply ByteArray.ext
  apply Array.ext
  · exact hs
  · intro i h1 h2
    have h1' : i < a.size := h1
    have h2' : i < b.size := h2
    have e := h i h1
    rw [bt_lt h1', bt_lt h2'] at e
    have : a[i].toNat = b[i].toNat := by exact_mod_cast e
    exact UInt8.toNat_inj.1 this

theorem okw_append {a b : ByteArray} (ha : okw a = true) (hb : okw b = true) : okw (a ++ b) = decide (a.size + b.size ≤ 60) := by
  by_cases h : a.size + b.size ≤ 60
  · rw [decide_eq_true h, okw_iff, ByteArray.size_append]
    refine ⟨fun j hj => ?_, h⟩
    rw [bt_append]
    split
    · exact okw_sym ha ‹_›
    · exact okw_sym hb (by omega)
  · rw [decide_eq_false h]
    by_cases h2 : okw (a ++ b) = true
    · have := okw_size h2; rw [ByteArray.size_append] at this; omega
    · simpa using h2

theorem specValid_ev (a : ByteArray) (hn : a.size ≤ 1048576) : Ev (fun k => spec_ValidWord.f k a) (okw a) := by
  unfold spec_ValidWord.f
  exact Ev.bind (specOk_ev a hn) (Ev.now _)

end Go.Proofs.Ytdiahgdjeacolaa.Br
