/- What the law FnExactPassesTest leans on: plain facts, and what the printed functions that it reaches come to; for all arguments that the facts name. -/
import Derived.Test.YtpbckaimchoplaaPx48
import Derived.Test.YtpbckaimchoplaaPx49
import Derived.Test.YtpbckaimchoplaaPx50
import Derived.Test.YtpbckaimchoplaaPx52
import Derived.Test.YtpbckaimchoplaaPx75
import Derived.Test.YtpbckaimchoplaaPx76
import Derived.Test.YtpbckaimchoplaaPx77
import Derived.Test.YtpbckaimchoplaaPx78
import Derived.Test.YtpbckaimchoplaaPx79
import Derived.Test.YtpbckaimchoplaaPx80
import Derived.Test.YtpbckaimchoplaaPx82
import Derived.Test.YtpbckaimchoplaaPx84
import Derived.Test.YtpbckaimchoplaaPx103
import Derived.Test.YtpbckaimchoplaaPx115
namespace Go.Proofs.Ytpbckaimchoplaa.Th

def isC (b : Int) : Bool := b == 40 || b == 91
def g (l : List Int) (j : Nat) : Int := l.getD j 0

end Go.Proofs.Ytpbckaimchoplaa.Th
namespace Go.Proofs.Ytpbckaimchoplaa.Br
open Go.RowKit Go.Proofs.Ytpbckaimchoplaa.P Go.Proofs.YtpbckaimchoplaaW.PrintWords Go.Proofs.YtpbckaimchoplaaW.PrintLast Go.Proofs.YtpbckaimchoplaaW.PrintMore Go.Proofs.Ytpbckaimchoplaa.Th
set_option linter.unusedVariables false
set_option linter.unusedSimpArgs false
theorem Ev.succ {α : Type} {g : Nat → Option α} {r : α} (h : Ev (fun k => g (k + 1)) r) : Ev g r := by
  obtain ⟨K, hK⟩ := h
  refine ⟨K + 1, fun k hk => ?_⟩
  obtain ⟨m, rfl⟩ : ∃ m, k = m + 1 := ⟨k - 1, by omega⟩
  exact hK m (by omega)
theorem Ev.done {α : Type} {r s : α} (h : r = s) : Ev (fun _ : Nat => some r) s := h ▸ Ev.now r
theorem w64 {x : Int} (h0 : -9223372036854775808 ≤ x) (h1 : x ≤ 9223372036854775807) : wrap64 x = x := by unfold wrap64; omega

/-- The number of a symbol, -1 if it is none. -/
def sym (b : Int) : Int := if b = 40 then 0 else if b = 91 then 1 else if b = 41 then 2 else if b = 93 then 3 else if b = 97 then 4 else if b = 98 then 5 else -1

def allFrom (f : Nat → Bool) : Nat → Nat → Bool
  | 0, _ => true
  | d + 1, i => f i && allFrom f d (i + 1)

/-- Is a text a word. -/
def okw (a : ByteArray) : Bool := allFrom (fun j => decide (0 ≤ sym (bt a j))) a.size 0 && decide ((a.size : Int) ≤ 60)

theorem bs0 : bt (⟨#[40, 91, 41, 93, 97, 98]⟩ : ByteArray) 0 = 40 := by decide
theorem bs1 : bt (⟨#[40, 91, 41, 93, 97, 98]⟩ : ByteArray) 1 = 91 := by decide
theorem bs2 : bt (⟨#[40, 91, 41, 93, 97, 98]⟩ : ByteArray) 2 = 41 := by decide
theorem bs3 : bt (⟨#[40, 91, 41, 93, 97, 98]⟩ : ByteArray) 3 = 93 := by decide
theorem bs4 : bt (⟨#[40, 91, 41, 93, 97, 98]⟩ : ByteArray) 4 = 97 := by decide
theorem bs5 : bt (⟨#[40, 91, 41, 93, 97, 98]⟩ : ByteArray) 5 = 98 := by decide

theorem symbol_ev (b : Int) : Ev (fun k => spec_l01Symbol.f k b) (sym b) := by
  unfold spec_l01Symbol.f sym
  have w1 : wrap64 (0 + 1) = 1 := by unfold wrap64; omega
  have w2 : wrap64 (1 + 1) = 2 := by unfold wrap64; omega
  have w3 : wrap64 (2 + 1) = 3 := by unfold wrap64; omega
  have w4 : wrap64 (3 + 1) = 4 := by unfold wrap64; omega
  have w5 : wrap64 (4 + 1) = 5 := by unfold wrap64; omega
  have w6 : wrap64 (5 + 1) = 6 := by unfold wrap64; omega
  refine Ev.succ ?_
  simp only [spec_l01Symbol.l0, bs0]
  by_cases h0 : b = 40
  · subst h0; exact Ev.done rfl
  rw [if_neg h0]
  simp only [if_neg (Ne.symm h0), w1]
  refine Ev.succ ?_
  simp only [spec_l01Symbol.l0, bs1]
  by_cases h0 : b = 91
  · subst h0; exact Ev.done rfl
  rw [if_neg h0]
  simp only [if_neg (Ne.symm h0), w2]
  refine Ev.succ ?_
  simp only [spec_l01Symbol.l0, bs2]
  by_cases h0 : b = 41
  · subst h0; exact Ev.done rfl
  rw [if_neg h0]
  simp only [if_neg (Ne.symm h0), w3]
  refine Ev.succ ?_
  simp only [spec_l01Symbol.l0, bs3]
  by_cases h0 : b = 93
  · subst h0; exact Ev.done rfl
  rw [if_neg h0]
  simp only [if_neg (Ne.symm h0), w4]
  refine Ev.succ ?_
  simp only [spec_l01Symbol.l0, bs4]
  by_cases h0 : b = 97
  · subst h0; exact Ev.done rfl
  rw [if_neg h0]
  simp only [if_neg (Ne.symm h0), w5]
  refine Ev.succ ?_
  simp only [spec_l01Symbol.l0, bs5]
  by_cases h0 : b = 98
  · subst h0; exact Ev.done rfl
  rw [if_neg h0]
  simp only [if_neg (Ne.symm h0), w6]
  refine Ev.succ ?_
  simp only [spec_l01Symbol.l0]
  exact Ev.done rfl

theorem index_eq {b : Int} (h0 : 0 ≤ b) (h1 : b ≤ 255) : strings_IndexByte.f (⟨#[40, 91, 41, 93, 97, 98]⟩ : ByteArray) b = some (sym b) := by
  obtain ⟨n, rfl⟩ := Int.eq_ofNat_of_zero_le h0
  have hn : n < 256 := by omega
  clear h0 h1
  unfold strings_IndexByte.f
  congr 1
  have key : ∀ n : Fin 256, Lib.indexByte (⟨#[40, 91, 41, 93, 97, 98]⟩ : ByteArray).data.toList ((n.val : Int).toNat.toUInt8) = sym (n.val : Int) := by decide +kernel
  exact key ⟨n, hn⟩

theorem specOk_loop (a : ByteArray) (hn : a.size ≤ 1048576) : ∀ d i : Nat, i + d = a.size →
    Ev (fun k => spec_l01Ok.l0 k a i) (allFrom (fun j => decide (0 ≤ sym (bt a j))) d i && decide ((a.size : Int) ≤ 60)) := by
  intro d
  induction d with
  | zero =>
    intro i hi
    refine Ev.succ ?_
    simp only [spec_l01Ok.l0, if_neg (show ¬ (i : Int) < (a.size : Int) by omega), allFrom, Bool.true_and]
    exact Ev.done rfl
  | succ d ih =>
    intro i hi
    refine Ev.succ ?_
    simp only [spec_l01Ok.l0, if_pos (show (i : Int) < (a.size : Int) by omega), if_pos (show (0 : Int) ≤ (i : Int) by omega), allFrom]
    refine Ev.bind (symbol_ev _) ?_
    rw [w64 (by omega) (by omega)]
    by_cases h : sym (bt a i) < 0
    · simp only [if_pos h]
      exact Ev.done (by simp; omega)
    · simp only [if_neg h]
      have := ih (i + 1) (by omega)
      simpa [show 0 ≤ sym (bt a i) by omega] using this

theorem specOk_ev (a : ByteArray) (hn : a.size ≤ 1048576) : Ev (fun k => spec_l01Ok.f k a) (okw a) := specOk_loop a hn a.size 0 (by omega)

theorem valid_loop (a : ByteArray) (hn : a.size ≤ 1048576) : ∀ d i : Nat, i + d = a.size →
    Ev (fun k => impl_ValidWord.l0 k a a.size i) (allFrom (fun j => decide (0 ≤ sym (bt a j))) d i && decide ((a.size : Int) ≤ 60)) := by
  intro d
  induction d with
  | zero =>
    intro i hi
    refine Ev.succ ?_
    simp only [impl_ValidWord.l0, if_neg (show ¬ (i : Int) < (a.size : Int) by omega), allFrom, Bool.true_and]
    exact Ev.done rfl
  | succ d ih =>
    intro i hi
    refine Ev.succ ?_
    have hb := bt_range a i
    simp only [impl_ValidWord.l0, if_pos (show (i : Int) < (a.size : Int) by omega), if_pos (show (0 : Int) ≤ (i : Int) by omega), allFrom, index_eq hb.1 hb.2, Option.bind_some]
    rw [w64 (by omega) (by omega)]
    by_cases h : sym (bt a i) < 0
    · simp only [if_pos h]
      exact Ev.done (by simp; omega)
    · simp only [if_neg h]
      have := ih (i + 1) (by omega)
      simpa [show 0 ≤ sym (bt a i) by omega] using this

theorem valid_ev (a : ByteArray) (hn : a.size ≤ 1048576) : Ev (fun k => impl_ValidWord.f k a) (okw a) := valid_loop a hn a.size 0 (by omega)

end Go.Proofs.Ytpbckaimchoplaa.Br
namespace Go.Proofs.Ytpbckaimchoplaa.Br
open Go.RowKit Go.Proofs.Ytpbckaimchoplaa.P Go.Proofs.YtpbckaimchoplaaW.PrintWords Go.Proofs.YtpbckaimchoplaaW.PrintLast Go.Proofs.YtpbckaimchoplaaW.PrintMore Go.Proofs.Ytpbckaimchoplaa.Th
set_option linter.unusedVariables false
set_option linter.unusedSimpArgs false
theorem isCall_eq (b : Int) : impl_isCall.f b = some (isC b) := by
  unfold impl_isCall.f isC
  by_cases h : b = 40 <;> simp [h]
theorem sCall_eq (b : Int) : spec_l01Call.f b = some (isC b) := by
  unfold spec_l01Call.f isC
  by_cases h : b = 40 <;> simp [h]

end Go.Proofs.Ytpbckaimchoplaa.Br
namespace Go.Proofs.Ytpbckaimchoplaa.Br
open Go.RowKit Go.Proofs.Ytpbckaimchoplaa.P Go.Proofs.YtpbckaimchoplaaW.PrintWords Go.Proofs.YtpbckaimchoplaaW.PrintLast Go.Proofs.YtpbckaimchoplaaW.PrintMore Go.Proofs.Ytpbckaimchoplaa.Th
set_option linter.unusedVariables false
set_option linter.unusedSimpArgs false
/-- Is a text a test. -/
def tst (l : List UInt8) : Bool := l == [40] || l == [91] || l == [97] || l == [98] || l == [42] || l == [46]

theorem toList_len (a : ByteArray) : a.toList.length = a.size := by rw [Lib.toList_data]; simp
theorem toList_one {a : ByteArray} (h : a.size = 1) : ∃ c : UInt8, a = ⟨#[c]⟩ ∧ a.toList = [c] := by
  obtain ⟨⟨l⟩⟩ := a
  match l, h with
  | [c], _ => exact ⟨c, rfl, by rw [Lib.toList_data]⟩

theorem sTest_eq (a : ByteArray) : spec_l05Test.f a = some (tst a.toList) := by
  unfold spec_l05Test.f tst
  by_cases h1 : a.toList = [40]
  · simp [h1]
  · by_cases h2 : a.toList = [91]
    · simp [h2]
    · by_cases h3 : a.toList = [97]
      · simp [h3]
      · by_cases h4 : a.toList = [98]
        · simp [h4]
        · by_cases h5 : a.toList = [42]
          · simp [h5]
          · simp [h1, h2, h3, h4, h5]

theorem iTest_eq (a : ByteArray) : impl_isTest.f a = some (tst a.toList) := by
  unfold impl_isTest.f
  by_cases h : a.size = 1
  · obtain ⟨c, rfl, hl⟩ := toList_one h
    rw [if_pos (by rw [h]; rfl)]
    unfold strings_Contains.f
    rw [if_pos h, hl]
    simp only [Option.bind_some]
    congr 1
    show decide (0 ≤ Lib.indexByte [40, 91, 97, 98, 42, 46] c) = tst [c]
    have key : ∀ n : Fin 256, decide (0 ≤ Lib.indexByte [40, 91, 97, 98, 42, 46] (UInt8.ofNat n.val)) = tst [UInt8.ofNat n.val] := by decide +kernel
    have := key ⟨c.toNat, c.toNat_lt⟩
    simpa using this
  · rw [if_neg (by omega)]
    have hl := toList_len a
    unfold tst
    have : ∀ x : UInt8, (a.toList == [x]) = false := by
      intro x
      rw [beq_eq_false_iff_ne]
      intro e
      rw [e] at hl
      simp at hl
      omega
    simp [this]

theorem isInner_eq (b : Int) : impl_isInner.f b = some (b == 97 || b == 98) := by
  unfold impl_isInner.f
  by_cases h : b = 97 <;> simp [h]

/-- Does a symbol pass a test. -/
def pss (l : List UInt8) (b : Int) : Bool := if l = [42] then isC b else if l = [46] then b == 97 || b == 98 else ((l.headD 0).toNat : Int) == b

theorem sPasses_eq (a : ByteArray) (h : a.size = 1) (b : Int) (h0 : 0 ≤ b) (h1 : b ≤ 255) : spec_l05Passes.f a b = some (pss a.toList b) := by
  obtain ⟨c, rfl, hl⟩ := toList_one h
  unfold spec_l05Passes.f pss
  rw [hl]
  by_cases h2 : [c] = [(42 : UInt8)]
  · rw [if_pos h2, if_pos h2, sCall_eq]; rfl
  · rw [if_neg h2, if_neg h2]
    by_cases h3 : [c] = [(46 : UInt8)]
    · rw [if_pos h3, if_pos h3]
      by_cases h4 : b = 97 <;> simp [h4]
    · rw [if_neg h3, if_neg h3, Lib.toList_data]
      congr 1
      obtain ⟨n, rfl⟩ := Int.eq_ofNat_of_zero_le h0
      show ([c] == [UInt8.ofNat n]) = _
      have hn : n < 256 := by omega
      have e1 : (c == UInt8.ofNat n) = ((c.toNat : Int) == (n : Int)) := by
        rw [Bool.eq_iff_iff]
        simp only [beq_iff_eq]
        constructor
        · rintro rfl
          simp
          omega
        · intro e
          have : c.toNat = n := by exact_mod_cast e
          rw [← this]
          simp
      simpa using e1
theorem iPasses_eq (a : ByteArray) (h : a.size = 1) (b : Int) : impl_passes.f a b = some (pss a.toList b) := by
  obtain ⟨c, rfl, hl⟩ := toList_one h
  unfold impl_passes.f pss
  rw [hl]
  by_cases h2 : [c] = [(42 : UInt8)]
  · rw [if_pos h2, if_pos h2, isCall_eq]; rfl
  · rw [if_neg h2, if_neg h2]
    by_cases h3 : [c] = [(46 : UInt8)]
    · rw [if_pos h3, if_pos h3, isInner_eq]; rfl
    · rw [if_neg h3, if_neg h3, if_pos (by rw [h]; decide)]
      congr 1

theorem tst_size {a : ByteArray} (h : tst a.toList = true) : a.size = 1 := by
  have hl := toList_len a
  unfold tst at h
  simp only [Bool.or_eq_true, beq_iff_eq] at h
  rcases h with ((((h | h) | h) | h) | h) | h <;> rw [h] at hl <;> exact hl.symm

/-- What PassesTest tells. -/
def passR (a b : ByteArray) : Bool × Int := if tst a.toList = true then (if b.size = 1 then (if okw b = true then (pss a.toList (bt b 0), 0) else (false, 2)) else (false, 2)) else (false, 2)
theorem sPassesTest_ev (a b : ByteArray) (ha : a.size ≤ 1048576) (hb : b.size ≤ 1048576) : Ev (fun k => spec_PassesTest.f k a b) (passR a b) := by
  unfold spec_PassesTest.f passR
  simp only [sTest_eq, Option.bind_some]
  by_cases h : tst a.toList = true
  · simp only [h, if_true]
    by_cases h1 : b.size = 1
    · have c1 : (b.size : Int) = 1 := by omega
      have c2 : 0 < (b.size : Int) := by omega
      simp only [if_pos h1, if_pos c1, if_pos c2]
      refine Ev.bind (specOk_ev b hb) ?_
      by_cases h2 : okw b = true
      · have hr := bt_range b 0
        simp only [h2, if_true, sPasses_eq a (tst_size h) _ hr.1 hr.2, Option.bind_some]
        exact Ev.now _
      · simp only [h2, if_false]; exact Ev.now _
    · have c1 : ¬ (b.size : Int) = 1 := by omega
      simp only [if_neg h1, if_neg c1]; exact Ev.now _
  · simp only [h, if_false]; exact Ev.now _
theorem iPassesTest_ev (a b : ByteArray) (ha : a.size ≤ 1048576) (hb : b.size ≤ 1048576) : Ev (fun k => impl_PassesTest.f k a b) (passR a b) := by
  unfold impl_PassesTest.f passR
  simp only [iTest_eq, Option.bind_some]
  by_cases h : tst a.toList = true
  · simp only [h, if_true]
    by_cases h1 : b.size = 1
    · have c1 : (b.size : Int) = 1 := by omega
      have c2 : 0 < (b.size : Int) := by omega
      simp only [if_pos h1, if_pos c1, if_pos c2]
      refine Ev.bind (valid_ev b hb) ?_
      by_cases h2 : okw b = true
      · simp only [h2, if_true, iPasses_eq a (tst_size h), Option.bind_some]
        exact Ev.now _
      · simp only [h2, if_false]; exact Ev.now _
    · have c1 : ¬ (b.size : Int) = 1 := by omega
      simp only [if_neg h1, if_neg c1]; exact Ev.now _
  · simp only [h, if_false]; exact Ev.now _

end Go.Proofs.Ytpbckaimchoplaa.Br
