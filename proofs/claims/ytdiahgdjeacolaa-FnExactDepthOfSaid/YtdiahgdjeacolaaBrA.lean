/- What the small functions on symbols and words come to: whether a text is a word. -/
import Derived.Test.YtdiahgdjeacolaaPx4
import Derived.Test.YtdiahgdjeacolaaPx49
import Derived.Test.YtdiahgdjeacolaaPx50
import Derived.Test.YtdiahgdjeacolaaTh
namespace Go.Proofs.Ytdiahgdjeacolaa.Br
open Go.RowKit Go.Proofs.Ytdiahgdjeacolaa.P Go.Proofs.YtdiahgdjeacolaaW.PrintWords Go.Proofs.YtdiahgdjeacolaaW.PrintLast Go.Proofs.YtdiahgdjeacolaaW.PrintMore Go.Proofs.Ytdiahgdjeacolaa.Th
set_option linter.unusedVariables false
set_option linter.unusedSimpArgs false

theorem Ev.succ {α : Type} {g : Nat → Option α} {r : α} (h : Ev (fun k => g (k + 1)) r) : Ev g r := by
  obtain ⟨K, hK⟩ := h
  refine ⟨K + 1, fun k hk => ?_⟩
  obtain ⟨m, rfl⟩ : ∃ m, k = m + 1 := ⟨k - 1, by omega⟩
  exact hK m (by omega)
theorem Ev.done {α : Type} {r s : α} (h : r = s) : Ev (fun _ : Nat => some r) s := h ▸ Ev.now r
theorem w64 {x : Int} (h0 : -9223372036854775808 ≤ x) (h1 : x ≤ 9223372036854775807) : wrap64 x = x := by unfold wrap64; omega

/-- The number of a symbol, -1 if it is none. -/
def sym (b : Int) : Int := if b = 40 then 0 else if b = 91 then 1 else if b = 41 then 2 else if b = 93 then 3 else if b = 97 then 4 else if b = 98 then 5 else -1

def allFrom (f : Nat → Bool) : Nat → Nat → Bool
  | 0, _ => true
  | d + 1, i => f i && allFrom f d (i + 1)

/-- Is a text a word. -/
def okw (a : ByteArray) : Bool := allFrom (fun j => decide (0 ≤ sym (bt a j))) a.size 0 && decide ((a.size : Int) ≤ 60)

theorem bs0 : bt (⟨#[40, 91, 41, 93, 97, 98]⟩ : ByteArray) 0 = 40 := by decide
theorem bs1 : bt (⟨#[40, 91, 41, 93, 97, 98]⟩ : ByteArray) 1 = 91 := by decide
theorem bs2 : bt (⟨#[40, 91, 41, 93, 97, 98]⟩ : ByteArray) 2 = 41 := by decide
theorem bs3 : bt (⟨#[40, 91, 41, 93, 97, 98]⟩ : ByteArray) 3 = 93 := by decide
theorem bs4 : bt (⟨#[40, 91, 41, 93, 97, 98]⟩ : ByteArray) 4 = 97 := by decide
theorem bs5 : bt (⟨#[40, 91, 41, 93, 97, 98]⟩ : ByteArray) 5 = 98 := by decide

theorem symbol_ev (b : Int) : Ev (fun k => spec_l01Symbol.f k b) (sym b) := by
  unfold spec_l01Symbol.f sym
  have w1 : wrap64 (0 + 1) = 1 := by unfold wrap64; omega
  have w2 : wrap64 (1 + 1) = 2 := by unfold wrap64; omega
  have w3 : wrap64 (2 + 1) = 3 := by unfold wrap64; omega
  have w4 : wrap64 (3 + 1) = 4 := by unfold wrap64; omega
  have w5 : wrap64 (4 + 1) = 5 := by unfold wrap64; omega
  have w6 : wrap64 (5 + 1) = 6 := by unfold wrap64; omega
  refine Ev.succ ?_
  simp only [spec_l01Symbol.l0, bs0]
  by_cases h0 : b = 40
  · subst h0; exact Ev.done rfl
  rw [if_neg h0]
  simp only [if_neg (Ne.symm h0), w1]
  refine Ev.succ ?_
  simp only [spec_l01Symbol.l0, bs1]
  by_cases h0 : b = 91
  · subst h0; exact Ev.done rfl
  rw [if_neg h0]
  simp only [if_neg (Ne.symm h0), w2]
  refine Ev.succ ?_
  simp only [spec_l01Symbol.l0, bs2]
  by_cases h0 : b = 41
  · subst h0; exact Ev.done rfl
  rw [if_neg h0]
  simp only [if_neg (Ne.symm h0), w3]
  refine Ev.succ ?_
  simp only [spec_l01Symbol.l0, bs3]
  by_cases h0 : b = 93
  · subst h0; exact Ev.done rfl
  rw [if_neg h0]
  simp only [if_neg (Ne.symm h0), w4]
  refine Ev.succ ?_
  simp only [spec_l01Symbol.l0, bs4]
  by_cases h0 : b = 97
  · subst h0; exact Ev.done rfl
  rw [if_neg h0]
  simp only [if_neg (Ne.symm h0), w5]
  refine Ev.succ ?_
  simp only [spec_l01Symbol.l0, bs5]
  by_cases h0 : b = 98
  · subst h0; exact Ev.done rfl
  rw [if_neg h0]
  simp only [if_neg (Ne.symm h0), w6]
  refine Ev.succ ?_
  simp only [spec_l01Symbol.l0]
  exact Ev.done rfl

theorem index_eq {b : Int} (h0 : 0 ≤ b) (h1 : b ≤ 255) : strings_IndexByte.f (⟨#[40, 91, 41, 93, 97, 98]⟩ : ByteArray) b = some (sym b) := by
  obtain ⟨n, rfl⟩ := Int.eq_ofNat_of_zero_le h0
  have hn : n < 256 := by omega
  clear h0 h1
  unfold strings_IndexByte.f
  congr 1
  have key : ∀ n : Fin 256, Lib.indexByte (⟨#[40, 91, 41, 93, 97, 98]⟩ : ByteArray).data.toList ((n.val : Int).toNat.toUInt8) = sym (n.val : Int) := by decide +kernel
  exact key ⟨n, hn⟩

theorem specOk_loop (a : ByteArray) (hn : a.size ≤ 1048576) : ∀ d i : Nat, i + d = a.size →
    Ev (fun k => spec_l01Ok.l0 k a i) (allFrom (fun j => decide (0 ≤ sym (bt a j))) d i && decide ((a.size : Int) ≤ 60)) := by
  intro d
  induction d with
  | zero =>
    intro i hi
    refine Ev.succ ?_
    simp only [spec_l01Ok.l0, if_neg (show ¬ (i : Int) < (a.size : Int) by omega), allFrom, Bool.true_and]
    exact Ev.done rfl
  | succ d ih =>
    intro i hi
    refine Ev.succ ?_
    simp only [spec_l01Ok.l0, if_pos (show (i : Int) < (a.size : Int) by omega), if_pos (show (0 : Int) ≤ (i : Int) by omega), allFrom]
    refine Ev.bind (symbol_ev _) ?_
    rw [w64 (by omega) (by omega)]
    by_cases h : sym (bt a i) < 0
    · simp only [if_pos h]
      exact Ev.done (by simp; omega)
    · simp only [if_neg h]
      have := ih (i + 1) (by omega)
      simpa [show 0 ≤ sym (bt a i) by omega] using this

theorem specOk_ev (a : ByteArray) (hn : a.size ≤ 1048576) : Ev (fun k => spec_l01Ok.f k a) (okw a) := specOk_loop a hn a.size 0 (by omega)

theorem valid_loop (a : ByteArray) (hn : a.size ≤ 1048576) : ∀ d i : Nat, i + d = a.size →
    Ev (fun k => impl_ValidWord.l0 k a a.size i) (allFrom (fun j => decide (0 ≤ sym (bt a j))) d i && decide ((a.size : Int) ≤ 60)) := by
  intro d
  induction d with
  | zero =>
    intro i hi
    refine Ev.succ ?_
    simp only [impl_ValidWord.l0, if_neg (show ¬ (i : Int) < (a.size : Int) by omega), allFrom, Bool.true_and]
    exact Ev.done rfl
  | succ d ih =>
    intro i hi
    refine Ev.succ ?_
    have hb := bt_range a i
    simp only [impl_ValidWord.l0, if_pos (show (i : Int) < (a.size : Int) by omega), if_pos (show (0 : Int) ≤ (i : Int) by omega), allFrom, index_eq hb.1 hb.2, Option.bind_some]
    rw [w64 (by omega) (by omega)]
    by_cases h : sym (bt a i) < 0
    · simp only [if_pos h]
      exact Ev.done (by simp; omega)
    · simp only [if_neg h]
      have := ih (i + 1) (by omega)
      simpa [show 0 ≤ sym (bt a i) by omega] using this

theorem valid_ev (a : ByteArray) (hn : a.size ≤ 1048576) : Ev (fun k => impl_ValidWord.f k a) (okw a) := valid_loop a hn a.size 0 (by omega)

end Go.Proofs.Ytdiahgdjeacolaa.Br
