/- What the law FnExactReadQuery leans on: plain facts, and what the printed functions that it reaches come to; for all arguments that the facts name. -/
import Derived.Test.YtcaijfndmkdboaaPq0
import Derived.Test.YtcaijfndmkdboaaPq47
import Derived.Test.YtcaijfndmkdboaaPq48
import Derived.Test.YtcaijfndmkdboaaPq49
import Derived.Test.YtcaijfndmkdboaaPq50
import Derived.Test.YtcaijfndmkdboaaPq51
import Derived.Test.YtcaijfndmkdboaaPq67
import Derived.Test.YtcaijfndmkdboaaPq119
import Derived.Test.YtcaijfndmkdboaaPq122
import Derived.Test.YtcaijfndmkdboaaPq123
import Derived.Test.YtcaijfndmkdboaaPq125
import Derived.Test.YtcaijfndmkdboaaPq161
import Derived.Test.YtcaijfndmkdboaaPq166
import Derived.Test.YtcaijfndmkdboaaPq7000001
namespace Go.Proofs.Ytcaijfndmkdboaa.Th

def g (l : List Int) (j : Nat) : Int := l.getD j 0

end Go.Proofs.Ytcaijfndmkdboaa.Th
namespace Go.Proofs.Ytcaijfndmkdboaa.Br
open Go.RowKit Go.Proofs.Ytcaijfndmkdboaa.Y Go.Proofs.YtcaijfndmkdboaaW.PrintWords Go.Proofs.YtcaijfndmkdboaaW.PrintLast Go.Proofs.YtcaijfndmkdboaaW.PrintMore Go.Proofs.Ytcaijfndmkdboaa.Th
set_option linter.unusedVariables false
set_option linter.unusedSimpArgs false
theorem Ev.succ {α : Type} {g : Nat → Option α} {r : α} (h : Ev (fun k => g (k + 1)) r) : Ev g r := by
  obtain ⟨K, hK⟩ := h
  refine ⟨K + 1, fun k hk => ?_⟩
  obtain ⟨m, rfl⟩ : ∃ m, k = m + 1 := ⟨k - 1, by omega⟩
  exact hK m (by omega)
theorem Ev.done {α : Type} {r s : α} (h : r = s) : Ev (fun _ : Nat => some r) s := h ▸ Ev.now r
theorem w64 {x : Int} (h0 : -9223372036854775808 ≤ x) (h1 : x ≤ 9223372036854775807) : wrap64 x = x := by unfold wrap64; omega

end Go.Proofs.Ytcaijfndmkdboaa.Br
namespace Go.Proofs.Ytcaijfndmkdboaa.Br
open Go.RowKit Go.Proofs.Ytcaijfndmkdboaa.Y Go.Proofs.YtcaijfndmkdboaaW.PrintWords Go.Proofs.YtcaijfndmkdboaaW.PrintLast Go.Proofs.YtcaijfndmkdboaaW.PrintMore Go.Proofs.Ytcaijfndmkdboaa.Th
set_option linter.unusedVariables false
set_option linter.unusedSimpArgs false
theorem bt_lt {a : ByteArray} {j : Nat} (h : j < a.size) : bt a j = (a[j].toNat : Int) := by
  unfold bt; simp [h]
end Go.Proofs.Ytcaijfndmkdboaa.Br
namespace Go.Proofs.Ytcaijfndmkdboaa.Br
open Go.RowKit Go.Proofs.Ytcaijfndmkdboaa.Y Go.Proofs.YtcaijfndmkdboaaW.PrintWords Go.Proofs.YtcaijfndmkdboaaW.PrintLast Go.Proofs.YtcaijfndmkdboaaW.PrintMore Go.Proofs.Ytcaijfndmkdboaa.Th
set_option linter.unusedVariables false
set_option linter.unusedSimpArgs false
theorem in_eq (a lo hi : Int) : spec_l00In.f a lo hi = some (decide (lo ≤ a ∧ a ≤ hi)) := by
  unfold spec_l00In.f
  by_cases h : a ≥ lo
  · rw [if_pos h]; congr 1; simp; omega
  · rw [if_neg h]; congr 1; simp; omega
theorem within_eq (a lo hi : Int) : impl_within.f a lo hi = some (decide (lo ≤ a ∧ a ≤ hi)) := by
  unfold impl_within.f
  by_cases h : a ≥ lo
  · rw [if_pos h]; congr 1; simp; omega
  · rw [if_neg h]; congr 1; simp; omega

end Go.Proofs.Ytcaijfndmkdboaa.Br
namespace Go.Proofs.Ytcaijfndmkdboaa.Br
open Go.RowKit Go.Proofs.Ytcaijfndmkdboaa.Y Go.Proofs.YtcaijfndmkdboaaW.PrintWords Go.Proofs.YtcaijfndmkdboaaW.PrintLast Go.Proofs.YtcaijfndmkdboaaW.PrintMore Go.Proofs.Ytcaijfndmkdboaa.Th
set_option linter.unusedVariables false
set_option linter.unusedSimpArgs false
theorem markText_l (n : Nat) : ∀ (x : Int) (s : ByteArray), x ≤ n → s.size + n ≤ 1152921504606846976 → ∃ t, Ev (fun k => laws_markText.l0 k x s) t := by
  induction n with
  | zero =>
    intro x s hx hs
    have b1 : ¬ x > 0 := by omega
    have b2 : 1 + s.size ≤ 9223372036854775807 := by omega
    refine ⟨(⟨#[109]⟩ : ByteArray) ++ s, Ev.succ ?_⟩
    simp only [laws_markText.l0, if_neg b1, if_pos b2]
    exact Ev.now _
  | succ n ih =>
    intro x s hx hs
    by_cases h : x > 0
    · have hd : 0 ≤ Int.tdiv x 10 ∧ Int.tdiv x 10 ≤ n := by
        rw [Int.tdiv_eq_ediv_of_nonneg (by omega)]; omega
      have hsz : ∀ y : Int, (strOfNums [y]).size = 1 := fun y => by simp [strOfNums, ByteArray.size]
      obtain ⟨t, ht⟩ := ih (Int.tdiv x 10) (strOfNums [(wrap64 (48 + (Int.tmod x 10))) % 256] ++ s) hd.2 (by rw [ByteArray.size_append, hsz]; omega)
      have b2 : (strOfNums [(wrap64 (48 + (Int.tmod x 10))) % 256]).size + s.size ≤ 9223372036854775807 := by rw [hsz]; omega
      have f1 : wrap64 (Int.tdiv x 10) = Int.tdiv x 10 := w64 (by omega) (by omega)
      refine ⟨t, Ev.succ ?_⟩
      simp only [laws_markText.l0, if_pos h, Option.bind_some, if_pos b2, f1]
      exact ht
    · have b2 : 1 + s.size ≤ 9223372036854775807 := by omega
      refine ⟨(⟨#[109]⟩ : ByteArray) ++ s, Ev.succ ?_⟩
      simp only [laws_markText.l0, if_neg h, if_pos b2]
      exact Ev.now _
theorem markText_all : ∃ F : Int → ByteArray, ∀ x : Int, x ≤ 1099511627776 → Ev (fun k => laws_markText.f k x) (F x) := by
  have h : ∀ x : Int, ∃ t, x ≤ 1099511627776 → Ev (fun k => laws_markText.f k x) t := by
    intro x
    by_cases hx : x ≤ 1099511627776
    · unfold laws_markText.f
      by_cases h0 : x ≤ 0
      · exact ⟨⟨#[109, 48]⟩, fun _ => by simp only [if_pos h0]; exact Ev.now _⟩
      · obtain ⟨t, ht⟩ := markText_l x.toNat x (⟨#[]⟩ : ByteArray) (by omega) (by show 0 + x.toNat ≤ _; omega)
        exact ⟨t, fun _ => by simp only [if_neg h0]; exact ht⟩
    · exact ⟨⟨#[]⟩, fun h => absurd h hx⟩
  exact ⟨fun x => Classical.choose (h x), fun x => Classical.choose_spec (h x)⟩

end Go.Proofs.Ytcaijfndmkdboaa.Br
namespace Go.Proofs.Ytcaijfndmkdboaa.Br
open Go.RowKit Go.Proofs.Ytcaijfndmkdboaa.Y Go.Proofs.YtcaijfndmkdboaaW.PrintWords Go.Proofs.YtcaijfndmkdboaaW.PrintLast Go.Proofs.YtcaijfndmkdboaaW.PrintMore Go.Proofs.Ytcaijfndmkdboaa.Th
set_option linter.unusedVariables false
set_option linter.unusedSimpArgs false
theorem down {P : Nat → Prop} (n : Nat) (h0 : P n) (h1 : ∀ i, i < n → P (i + 1) → P i) : ∀ i, i ≤ n → P i := by
  have key : ∀ d i, i + d = n → P i := by
    intro d
    induction d with
    | zero => intro i hi; obtain rfl : i = n := by omega
              exact h0
    | succ d ih => intro i hi; exact h1 i (by omega) (ih (i + 1) (by omega))
  intro i hi
  exact key (n - i) i (by omega)
theorem up1 (i : Nat) (h : i < 9223372036854775807) : wrap64 ((i : Int) + 1) = ((i + 1 : Nat) : Int) := by
  rw [w64 (by omega) (by omega)]; rfl
theorem ilt {i n : Nat} (h : i < n) : (i : Int) < (n : Int) := by omega
theorem inlt {n : Nat} : ¬ ((n : Int) < (n : Int)) := by omega
theorem i0 (i : Nat) : 0 ≤ (i : Int) := by omega
theorem getD_mem {α : Type} (l : List α) (i : Nat) (d : α) (h : i < l.length) : l.getD i d ∈ l := by
  rw [List.getD_eq_getElem?_getD, List.getElem?_eq_getElem h]
  exact List.getElem_mem h
end Go.Proofs.Ytcaijfndmkdboaa.Br
namespace Go.Proofs.Ytcaijfndmkdboaa.Br
open Go.RowKit Go.Proofs.Ytcaijfndmkdboaa.Y Go.Proofs.YtcaijfndmkdboaaW.PrintWords Go.Proofs.YtcaijfndmkdboaaW.PrintLast Go.Proofs.YtcaijfndmkdboaaW.PrintMore Go.Proofs.Ytcaijfndmkdboaa.Th
set_option linter.unusedVariables false
set_option linter.unusedSimpArgs false

/-! ### laws' queries -/
theorem eqQuery_ev (l : List S130) (hl : l.length ≤ 1048576) : Ev (fun k => laws_eqQuery.f k l l) true := by
  have loop : ∀ i, i ≤ l.length → Ev (fun k => laws_eqQueryStepS.l0 k l l i) true := by
    refine down l.length ?_ ?_
    · refine Ev.succ ?_
      simp only [laws_eqQueryStepS.l0, if_neg inlt]
      exact Ev.now _
    · intro i hi ih
      refine Ev.succ ?_
      simp only [laws_eqQueryStepS.l0, if_pos (ilt hi), if_pos (i0 i), laws_eqQueryStep.f, bne_self_eq_false, Bool.false_eq_true, if_false, if_true, Option.bind_some, up1 i (by omega)]
      exact ih
  unfold laws_eqQuery.f laws_eqQueryStepS.f
  simp only [if_true]
  exact Ev.bind (loop 0 (by omega)) (by simp only [if_true]; exact Ev.now _)
end Go.Proofs.Ytcaijfndmkdboaa.Br
namespace Go.Proofs.Ytcaijfndmkdboaa.Br
open Go.RowKit Go.Proofs.Ytcaijfndmkdboaa.Y Go.Proofs.YtcaijfndmkdboaaW.PrintWords Go.Proofs.YtcaijfndmkdboaaW.PrintLast Go.Proofs.YtcaijfndmkdboaaW.PrintMore Go.Proofs.Ytcaijfndmkdboaa.Th
set_option linter.unusedVariables false
set_option linter.unusedSimpArgs false
/-- Is a text a test. -/
def tst (l : List UInt8) : Bool := l == [40] || l == [91] || l == [97] || l == [98] || l == [42] || l == [46]

theorem toList_len (a : ByteArray) : a.toList.length = a.size := by rw [Lib.toList_data]; simp
theorem toList_one {a : ByteArray} (h : a.size = 1) : ∃ c : UInt8, a = ⟨#[c]⟩ ∧ a.toList = [c] := by
  obtain ⟨⟨l⟩⟩ := a
  match l, h with
  | [c], _ => exact ⟨c, rfl, by rw [Lib.toList_data]⟩

theorem sTest_eq (a : ByteArray) : spec_l05Test.f a = some (tst a.toList) := by
  unfold spec_l05Test.f tst
  by_cases h1 : a.toList = [40]
  · simp [h1]
  · by_cases h2 : a.toList = [91]
    · simp [h2]
    · by_cases h3 : a.toList = [97]
      · simp [h3]
      · by_cases h4 : a.toList = [98]
        · simp [h4]
        · by_cases h5 : a.toList = [42]
          · simp [h5]
          · simp [h1, h2, h3, h4, h5]

theorem iTest_eq (a : ByteArray) : impl_isTest.f a = some (tst a.toList) := by
  unfold impl_isTest.f
  by_cases h : a.size = 1
  · obtain ⟨c, rfl, hl⟩ := toList_one h
    rw [if_pos (by rw [h]; rfl)]
    unfold strings_Contains.f
    rw [if_pos h, hl]
    simp only [Option.bind_some]
    congr 1
    show decide (0 ≤ Lib.indexByte [40, 91, 97, 98, 42, 46] c) = tst [c]
    have key : ∀ n : Fin 256, decide (0 ≤ Lib.indexByte [40, 91, 97, 98, 42, 46] (UInt8.ofNat n.val)) = tst [UInt8.ofNat n.val] := by decide +kernel
    have := key ⟨c.toNat, c.toNat_lt⟩
    simpa using this
  · rw [if_neg (by omega)]
    have hl := toList_len a
    unfold tst
    have : ∀ x : UInt8, (a.toList == [x]) = false := by
      intro x
      rw [beq_eq_false_iff_ne]
      intro e
      rw [e] at hl
      simp at hl
      omega
    simp [this]

end Go.Proofs.Ytcaijfndmkdboaa.Br
namespace Go.Proofs.Ytcaijfndmkdboaa.Br
open Go.RowKit Go.Proofs.Ytcaijfndmkdboaa.Y Go.Proofs.YtcaijfndmkdboaaW.PrintWords Go.Proofs.YtcaijfndmkdboaaW.PrintLast Go.Proofs.YtcaijfndmkdboaaW.PrintMore Go.Proofs.Ytcaijfndmkdboaa.Th
set_option linter.unusedVariables false
set_option linter.unusedSimpArgs false
theorem drop_all {α : Type} (l : List α) (p : α → Bool) (i : Nat) (d : α) (h : i < l.length) : (l.drop i).all p = (p (l.getD i d) && (l.drop (i + 1)).all p) := by
  rw [List.drop_eq_getElem_cons h, List.all_cons, List.getD_eq_getElem?_getD, List.getElem?_eq_getElem h]
  rfl
theorem drop_end {α : Type} (l : List α) : l.drop l.length = [] := List.drop_length
def tstS (x : S130) : Bool := tst x.f1.toList
def okQ (l : List S130) : Bool := l.all tstS && decide (1 ≤ (l.length : Int) ∧ (l.length : Int) ≤ 6)
theorem specOkQ_ev (l : List S130) (hl : l.length ≤ 1048576) : Ev (fun k => spec_l05Ok.f k l) (okQ l) := by
  have loop : ∀ i, i ≤ l.length → Ev (fun k => spec_l05Ok.l0 k i l) ((l.drop i).all tstS && decide (1 ≤ (l.length : Int) ∧ (l.length : Int) ≤ 6)) := by
    refine down l.length ?_ ?_
    · refine Ev.succ ?_
      simp only [spec_l05Ok.l0, if_neg inlt, in_eq, Option.bind_some, drop_end, List.all_nil, Bool.true_and]
      exact Ev.now _
    · intro i hi ih
      refine Ev.succ ?_
      simp only [spec_l05Ok.l0, if_pos (ilt hi), if_pos (i0 i), rd_T130, Int.toNat_natCast, sTest_eq, Option.bind_some, up1 i (by omega)]
      rw [drop_all l tstS i z130 hi]
      by_cases e : tst (l.getD i z130).f1.toList = true
      · simp only [if_pos e, show tstS (l.getD i z130) = true from e, Bool.true_and]
        exact ih
      · simp only [if_neg e, show tstS (l.getD i z130) = false from by simpa [tstS] using e, Bool.false_and]
        exact Ev.now _
  exact loop 0 (by omega)
theorem implValidQ_ev (l : List S130) (hl : l.length ≤ 1048576) : Ev (fun k => impl_ValidQuery.f k l) (okQ l) := by
  have loop : ∀ i, i ≤ l.length → ∃ r : Int, Ev (fun k => slices_IndexFunc_Limpl_QueryStep_impl_QueryStep_at_impl_ValidQuery_1.l0 k l (l.length : Int) i) r ∧ ((l.drop i).all tstS = !(decide (r ≥ 0))) := by
    refine down l.length ?_ ?_
    · refine ⟨-1, Ev.succ ?_, by rw [drop_end]; rfl⟩
      simp only [slices_IndexFunc_Limpl_QueryStep_impl_QueryStep_at_impl_ValidQuery_1.l0, if_neg inlt]
      exact Ev.now _
    · intro i hi ih
      obtain ⟨r, hr, he⟩ := ih
      by_cases e : tst (l.getD i z130).f1.toList = true
      · refine ⟨r, Ev.succ ?_, ?_⟩
        · simp only [slices_IndexFunc_Limpl_QueryStep_impl_QueryStep_at_impl_ValidQuery_1.l0, if_pos (ilt hi), if_pos (i0 i), rd_T130, Int.toNat_natCast, impl_ValidQuery_1.f, iTest_eq, Option.bind_some, e, Bool.not_true, Bool.false_eq_true, if_false, up1 i (by omega)]
          exact hr
        · rw [drop_all l tstS i z130 hi, show tstS (l.getD i z130) = true from e, Bool.true_and, he]
      · have e' : tst (l.getD i z130).f1.toList = false := by simpa using e
        refine ⟨(i : Int), Ev.succ ?_, ?_⟩
        · simp only [slices_IndexFunc_Limpl_QueryStep_impl_QueryStep_at_impl_ValidQuery_1.l0, if_pos (ilt hi), if_pos (i0 i), rd_T130, Int.toNat_natCast, impl_ValidQuery_1.f, iTest_eq, Option.bind_some, e', Bool.not_false, if_true]
          exact Ev.now _
        · rw [drop_all l tstS i z130 hi, show tstS (l.getD i z130) = false from e', Bool.false_and]
          simp
  obtain ⟨r, hr, he⟩ := loop 0 (by omega)
  unfold impl_ValidQuery.f impl_size_impl_QueryStep.f okQ
  simp only [Option.bind_some, within_eq]
  by_cases h : 1 ≤ (l.length : Int) ∧ (l.length : Int) ≤ 6
  · simp only [decide_eq_true h, if_true, Bool.and_true]
    rw [List.drop_zero] at he
    rw [he]
    unfold slices_ContainsFunc_Limpl_QueryStep_impl_QueryStep_at_impl_ValidQuery_1.f slices_IndexFunc_Limpl_QueryStep_impl_QueryStep_at_impl_ValidQuery_1.f
    exact Ev.bind (Ev.bind hr (Ev.now _)) (Ev.now _)
  · simp only [decide_eq_false h, Bool.false_eq_true, if_false, Bool.and_false]
    exact Ev.now _
end Go.Proofs.Ytcaijfndmkdboaa.Br
namespace Go.Proofs.Ytcaijfndmkdboaa.Br
open Go.RowKit Go.Proofs.Ytcaijfndmkdboaa.Y Go.Proofs.YtcaijfndmkdboaaW.PrintWords Go.Proofs.YtcaijfndmkdboaaW.PrintLast Go.Proofs.YtcaijfndmkdboaaW.PrintMore Go.Proofs.Ytcaijfndmkdboaa.Th
set_option linter.unusedVariables false
set_option linter.unusedSimpArgs false
def stepTxt (x : S130) : ByteArray := if x.f0 = true then (⟨#[47]⟩ : ByteArray) ++ ((⟨#[47]⟩ : ByteArray) ++ x.f1) else (⟨#[47]⟩ : ByteArray) ++ x.f1
def txtQ : List S130 → ByteArray
  | [] => ⟨#[]⟩
  | x :: r => stepTxt x ++ txtQ r
theorem txt_drop (l : List S130) (i : Nat) (h : i < l.length) : txtQ (l.drop i) = stepTxt (l.getD i z130) ++ txtQ (l.drop (i + 1)) := by
  rw [List.drop_eq_getElem_cons h, txtQ, List.getD_eq_getElem?_getD, List.getElem?_eq_getElem h]
  rfl
theorem one47 : (⟨#[47]⟩ : ByteArray).size = 1 := rfl
theorem app_nil (a : ByteArray) : a ++ (⟨#[]⟩ : ByteArray) = a := ByteArray.append_empty
theorem specText_ev (l : List S130) (hl : l.length ≤ 1048576) (hs : ∀ x ∈ l, x.f1.size ≤ 1048576) : Ev (fun k => spec_l05Text.f k l) (txtQ l) := by
  have loop : ∀ i, i ≤ l.length → ∀ o : ByteArray, o.size ≤ 1048578 * i → Ev (fun k => spec_l05Text.l0 k o i l) (o ++ txtQ (l.drop i)) := by
    refine down l.length ?_ ?_
    · intro o _
      refine Ev.succ ?_
      simp only [spec_l05Text.l0, if_neg inlt, drop_end, txtQ, app_nil]
      exact Ev.now _
    · intro i hi ih o ho
      have hm := hs _ (getD_mem l i z130 hi)
      refine Ev.succ ?_
      rw [txt_drop l i hi]
      simp only [spec_l05Text.l0, if_pos (ilt hi), if_pos (i0 i), rd_T130, Int.toNat_natCast, up1 i (by omega), if_pos (show o.size + 1 ≤ 9223372036854775807 by omega)]
      unfold stepTxt
      by_cases e : (l.getD i z130).f0 = true
      · simp only [if_pos e, if_pos (show (o ++ (⟨#[47]⟩ : ByteArray)).size + 1 ≤ 9223372036854775807 by rw [ByteArray.size_append, one47]; omega), if_pos (show ((o ++ (⟨#[47]⟩ : ByteArray)) ++ (⟨#[47]⟩ : ByteArray)).size + (l.getD i z130).f1.size ≤ 9223372036854775807 by rw [ByteArray.size_append, ByteArray.size_append, one47]; omega)]
        have := ih (((o ++ (⟨#[47]⟩ : ByteArray)) ++ (⟨#[47]⟩ : ByteArray)) ++ (l.getD i z130).f1) (by rw [ByteArray.size_append, ByteArray.size_append, ByteArray.size_append, one47]; omega)
        simp only [ByteArray.append_assoc] at this ⊢
        exact this
      · simp only [if_neg e, if_pos (show (o ++ (⟨#[47]⟩ : ByteArray)).size + (l.getD i z130).f1.size ≤ 9223372036854775807 by rw [ByteArray.size_append, one47]; omega)]
        have := ih ((o ++ (⟨#[47]⟩ : ByteArray)) ++ (l.getD i z130).f1) (by rw [ByteArray.size_append, ByteArray.size_append, one47]; omega)
        simp only [ByteArray.append_assoc] at this ⊢
        exact this
  have := loop 0 (by omega) (⟨#[]⟩ : ByteArray) (by show (0 : Nat) ≤ _; omega)
  rw [List.drop_zero, show (⟨#[]⟩ : ByteArray) ++ txtQ l = txtQ l from ByteArray.empty_append] at this
  exact this
def textQ (l : List S130) : ByteArray := if okQ l = true then txtQ l else ⟨#[]⟩
theorem implQText_ev (l : List S130) (hl : l.length ≤ 1048576) (hs : ∀ x ∈ l, x.f1.size ≤ 1048576) : Ev (fun k => impl_QueryText.f k l) (textQ l) := by
  have loop : ∀ i, i ≤ l.length → ∀ o : ByteArray, o.size ≤ 1048578 * i → Ev (fun k => impl_QueryText.l0 k o l (l.length : Int) i) (o ++ txtQ (l.drop i)) := by
    refine down l.length ?_ ?_
    · intro o _
      refine Ev.succ ?_
      simp only [impl_QueryText.l0, if_neg inlt, drop_end, txtQ, app_nil]
      exact Ev.now _
    · intro i hi ih o ho
      have hm := hs _ (getD_mem l i z130 hi)
      refine Ev.succ ?_
      rw [txt_drop l i hi]
      simp only [impl_QueryText.l0, if_pos (ilt hi), if_pos (i0 i), rd_T130, Int.toNat_natCast, up1 i (by omega), if_pos (show o.size + 1 ≤ 9223372036854775807 by omega), if_pos (show 1 + (l.getD i z130).f1.size ≤ 9223372036854775807 by omega)]
      unfold stepTxt
      by_cases e : (l.getD i z130).f0 = true
      · simp only [if_pos e, if_pos (show (o ++ (⟨#[47]⟩ : ByteArray)).size + ((⟨#[47]⟩ : ByteArray) ++ (l.getD i z130).f1).size ≤ 9223372036854775807 by rw [ByteArray.size_append, ByteArray.size_append, one47]; omega)]
        have := ih ((o ++ (⟨#[47]⟩ : ByteArray)) ++ ((⟨#[47]⟩ : ByteArray) ++ (l.getD i z130).f1)) (by rw [ByteArray.size_append, ByteArray.size_append, ByteArray.size_append, one47]; omega)
        simp only [ByteArray.append_assoc] at this ⊢
        exact this
      · simp only [if_neg e, if_pos (show o.size + ((⟨#[47]⟩ : ByteArray) ++ (l.getD i z130).f1).size ≤ 9223372036854775807 by rw [ByteArray.size_append, one47]; omega)]
        have := ih (o ++ ((⟨#[47]⟩ : ByteArray) ++ (l.getD i z130).f1)) (by rw [ByteArray.size_append, ByteArray.size_append, one47]; omega)
        simp only [ByteArray.append_assoc] at this ⊢
        exact this
  unfold impl_QueryText.f textQ
  refine Ev.bind (implValidQ_ev l hl) ?_
  by_cases h : okQ l = true
  · simp only [if_pos h]
    have := loop 0 (by omega) (⟨#[]⟩ : ByteArray) (by show (0 : Nat) ≤ _; omega)
    rw [List.drop_zero, show (⟨#[]⟩ : ByteArray) ++ txtQ l = txtQ l from ByteArray.empty_append] at this
    exact this
  · simp only [if_neg h]
    exact Ev.now _
end Go.Proofs.Ytcaijfndmkdboaa.Br
namespace Go.Proofs.Ytcaijfndmkdboaa.Br
open Go.RowKit Go.Proofs.Ytcaijfndmkdboaa.Y Go.Proofs.YtcaijfndmkdboaaW.PrintWords Go.Proofs.YtcaijfndmkdboaaW.PrintLast Go.Proofs.YtcaijfndmkdboaaW.PrintMore Go.Proofs.Ytcaijfndmkdboaa.Th
set_option linter.unusedVariables false
set_option linter.unusedSimpArgs false
def Lb (a : ByteArray) : List UInt8 := a.data.toList
theorem Lb_len (a : ByteArray) : (Lb a).length = a.size := by unfold Lb; rfl
theorem Lb_inj {a b : ByteArray} (h : Lb a = Lb b) : a = b := ByteArray.ext (Array.toList_inj.1 h)
theorem Lb_app (a b : ByteArray) : Lb (a ++ b) = Lb a ++ Lb b := by unfold Lb; simp
theorem Lb_ext (a : ByteArray) (i e : Nat) : Lb (a.extract i e) = ((Lb a).drop i).take (e - i) := by unfold Lb; rw [ByteArray.data_extract, Array.toList_extract]
theorem Lb_bt (a : ByteArray) (i : Nat) (h : i < a.size) : ∃ (c : UInt8) (r : List UInt8), (Lb a).drop i = c :: r ∧ bt a i = (c.toNat : Int) ∧ (Lb a).drop (i + 1) = r := by
  have hl := Lb_len a
  have hd := List.drop_eq_getElem_cons (show i < (Lb a).length by omega)
  exact ⟨_, _, hd, by rw [bt_lt h]; rfl, rfl⟩
theorem Lb_eq (a : ByteArray) (l : List UInt8) : a.toList = l ↔ Lb a = l := by rw [Lib.toList_data]; rfl
theorem size_of_Lb {a : ByteArray} {l : List UInt8} (h : Lb a = l) : a.size = l.length := by rw [← Lb_len, h]
/-- A query's text. -/
def txtL : List S130 → List UInt8
  | [] => []
  | s :: r => (if s.f0 = true then [47, 47] else [47]) ++ (Lb s.f1 ++ txtL r)
theorem Lb_txt : ∀ q, Lb (txtQ q) = txtL q
  | [] => rfl
  | s :: r => by
    have ih := Lb_txt r
    have h47 : Lb (⟨#[47]⟩ : ByteArray) = [47] := rfl
    unfold txtQ stepTxt txtL
    by_cases h : s.f0 = true
    · simp only [if_pos h, Lb_app, ih, h47, List.append_assoc, List.cons_append, List.nil_append]
    · simp only [if_neg h, Lb_app, ih, h47, List.append_assoc, List.cons_append, List.nil_append]
theorem tst_char {s : S130} (h : tstS s = true) : ∃ c : UInt8, c ≠ 47 ∧ Lb s.f1 = [c] := by
  unfold tstS tst at h
  simp only [Bool.or_eq_true, beq_iff_eq, Lb_eq] at h
  rcases h with ((((h | h) | h) | h) | h) | h <;> exact ⟨_, by decide, h⟩
/-- What is handed back: the query, if it is the text's; else none. -/
def IsRead (t : ByteArray) (R : List S130 × Int) : Prop :=
  (R = ([], 5) ∨ ∃ l, okQ l = true ∧ txtQ l = t ∧ R = (l, 0)) ∧ ∀ q, okQ q = true → txtQ q = t → R = (q, 0)
theorem isRead_eq {t : ByteArray} {R R' : List S130 × Int} (h : IsRead t R) (h' : IsRead t R') : R = R' := by
  rcases h.1 with h1 | ⟨l, h1, h2, h3⟩
  · rcases h'.1 with g1 | ⟨l', g1, g2, g3⟩
    · rw [h1, g1]
    · rw [g3]; exact h.2 l' g1 g2
  · rw [h3]; exact (h'.2 l h1 h2).symm
theorem okQ_tst {q : List S130} (h : okQ q = true) : ∀ s ∈ q, tstS s = true := by
  unfold okQ at h
  simp only [Bool.and_eq_true] at h
  exact List.all_eq_true.1 h.1
theorem okQ_len {q : List S130} (h : okQ q = true) : 1 ≤ q.length ∧ q.length ≤ 6 := by
  unfold okQ at h
  simp only [Bool.and_eq_true, decide_eq_true_eq] at h
  omega
theorem isRead_end {t : ByteArray} {acc : List S130} (h : ∀ q, okQ q = true → txtQ q = t → q = acc) : IsRead t (if okQ acc = true ∧ txtQ acc = t then (acc, 0) else ([], 5)) := by
  by_cases h1 : okQ acc = true ∧ txtQ acc = t
  · rw [if_pos h1]
    exact ⟨Or.inr ⟨acc, h1.1, h1.2, rfl⟩, fun q h2 h3 => by rw [h q h2 h3]⟩
  · rw [if_neg h1]
    refine ⟨Or.inl rfl, fun q h2 h3 => ?_⟩
    have := h q h2 h3
    subst this
    exact absurd ⟨h2, h3⟩ h1
theorem isRead_none {t : ByteArray} (h : ∀ q, okQ q = true → txtQ q = t → False) : IsRead t ([], 5) := ⟨Or.inl rfl, fun q h1 h2 => (h q h1 h2).elim⟩
/-- Where a list of steps ends: what is asked of it. -/
theorem ask_ev {t : ByteArray} (acc : List S130) (hl : acc.length ≤ 1048576) (hs : ∀ x ∈ acc, x.f1.size ≤ 1048576) :
    Ev (fun k => (spec_l05Ok.f k acc).bind fun t112 => if t112 = true then (spec_l05Text.f k acc).bind fun t113 => if t113.toList = t.toList then some (acc, (0 : Int)) else some ([], 5) else some ([], 5)) (if okQ acc = true ∧ txtQ acc = t then (acc, 0) else ([], 5)) := by
  refine Ev.bind (specOkQ_ev acc hl) ?_
  by_cases h : okQ acc = true
  · simp only [if_pos h]
    refine Ev.bind (specText_ev acc hl hs) ?_
    by_cases h2 : txtQ acc = t
    · have e : (if okQ acc = true ∧ txtQ acc = t then (acc, (0 : Int)) else ([], 5)) = (acc, 0) := if_pos ⟨h, h2⟩
      rw [e]
      simp only [h2, if_true]
      exact Ev.now _
    · have e : (if okQ acc = true ∧ txtQ acc = t then (acc, (0 : Int)) else ([], 5)) = ([], 5) := if_neg (fun h3 => h2 h3.2)
      rw [e]
      simp only [if_neg (show ¬ (txtQ acc).toList = t.toList from fun h3 => h2 (Lb_inj (((Lb_eq _ _).1 h3).trans ((Lb_eq _ _).1 rfl).symm)))]
      exact Ev.now _
  · rw [if_neg (fun h3 => h h3.1)]
    simp only [if_neg h]
    exact Ev.now _
theorem ask2_ev {t : ByteArray} (acc : List S130) (hl : acc.length ≤ 1048576) (hs : ∀ x ∈ acc, x.f1.size ≤ 1048576) :
    Ev (fun k => (impl_ValidQuery.f k acc).bind fun t112 => if t112 = true then (impl_QueryText.f k acc).bind fun t113 => if t113.toList = t.toList then some (acc, (0 : Int)) else some ([], 5) else some ([], 5)) (if okQ acc = true ∧ txtQ acc = t then (acc, 0) else ([], 5)) := by
  refine Ev.bind (implValidQ_ev acc hl) ?_
  by_cases h : okQ acc = true
  · simp only [if_pos h]
    refine Ev.bind (implQText_ev acc hl hs) ?_
    rw [show textQ acc = txtQ acc by unfold textQ; rw [if_pos h]]
    by_cases h2 : txtQ acc = t
    · have e : (if okQ acc = true ∧ txtQ acc = t then (acc, (0 : Int)) else ([], 5)) = (acc, 0) := if_pos ⟨h, h2⟩
      rw [e]
      simp only [h2, if_true]
      exact Ev.now _
    · have e : (if okQ acc = true ∧ txtQ acc = t then (acc, (0 : Int)) else ([], 5)) = ([], 5) := if_neg (fun h3 => h2 h3.2)
      rw [e]
      simp only [if_neg (show ¬ (txtQ acc).toList = t.toList from fun h3 => h2 (Lb_inj (((Lb_eq _ _).1 h3).trans ((Lb_eq _ _).1 rfl).symm)))]
      exact Ev.now _
  · rw [if_neg (fun h3 => h h3.1)]
    simp only [if_neg h]
    exact Ev.now _

/-- Where the reference stands in a query's text: R: what is left, d: was it said 'deep', pv: the symbol before is a slash. -/
def At (r : List S130) (d pv : Bool) (R : List UInt8) : Prop :=
  (r = [] ∧ d = false ∧ R = []) ∨
  (∃ s r', r = s :: r' ∧ d = false ∧ pv = true ∧ R = (if s.f0 = true then [47] else []) ++ (Lb s.f1 ++ txtL r')) ∨
  (∃ s r', r = s :: r' ∧ s.f0 = true ∧ d = true ∧ R = Lb s.f1 ++ txtL r') ∨
  (∃ s r', r = s :: r' ∧ d = false ∧ pv = false ∧ R = txtL r)
theorem u47 {c : UInt8} : ((c.toNat : Int) = 47) ↔ c = 47 := by
  constructor
  · intro h
    have : c.toNat = (47 : UInt8).toNat := by simpa using (by exact_mod_cast h : c.toNat = 47)
    exact UInt8.toNat_inj.1 this
  · rintro rfl; rfl
/-- A slash is read. -/
theorem at_slash {r : List S130} {d pv : Bool} {R : List UInt8} (ht : ∀ s ∈ r, tstS s = true) (h : At r d pv (47 :: R)) : At r pv true R := by
  rcases h with ⟨_, _, h⟩ | ⟨s, r', rfl, rfl, rfl, h⟩ | ⟨s, r', rfl, h1, rfl, h⟩ | ⟨s, r', rfl, rfl, rfl, h⟩
  · cases h
  · obtain ⟨c, hc, hL⟩ := tst_char (ht s (by simp))
    by_cases h0 : s.f0 = true
    · rw [if_pos h0] at h
      simp only [List.cons_append, List.nil_append, List.cons.injEq, true_and] at h
      exact Or.inr (Or.inr (Or.inl ⟨s, r', rfl, h0, rfl, h⟩))
    · rw [if_neg h0, hL] at h
      simp only [List.cons_append, List.nil_append, List.cons.injEq] at h
      exact absurd h.1.symm hc
  · obtain ⟨c, hc, hL⟩ := tst_char (ht s (by simp))
    rw [hL] at h
    simp only [List.cons_append, List.nil_append, List.cons.injEq] at h
    exact absurd h.1.symm hc
  · refine Or.inr (Or.inl ⟨s, r', rfl, rfl, rfl, ?_⟩)
    unfold txtL at h
    by_cases h0 : s.f0 = true
    · rw [if_pos h0] at h ⊢
      simp only [List.cons_append, List.nil_append, List.cons.injEq, true_and] at h ⊢
      exact h
    · rw [if_neg h0] at h ⊢
      simp only [List.cons_append, List.nil_append, List.cons.injEq, true_and] at h ⊢
      exact h
/-- A test is read. -/
theorem at_test {r : List S130} {d pv : Bool} {c : UInt8} {R : List UInt8} (ht : ∀ s ∈ r, tstS s = true) (hc : c ≠ 47) (h : At r d pv (c :: R)) : ∃ s r', r = s :: r' ∧ s.f0 = d ∧ Lb s.f1 = [c] ∧ At r' false false R := by
  have done : ∀ (s : S130) (r' : List S130), r = s :: r' → s.f0 = d → c :: R = Lb s.f1 ++ txtL r' → ∃ s r', r = s :: r' ∧ s.f0 = d ∧ Lb s.f1 = [c] ∧ At r' false false R := by
    intro s r' hr hd hR
    subst hr
    obtain ⟨c', hc', hL⟩ := tst_char (ht s (by simp))
    rw [hL] at hR
    simp only [List.cons_append, List.nil_append, List.cons.injEq] at hR
    refine ⟨s, r', rfl, hd, by rw [hL, hR.1], ?_⟩
    cases r' with
    | nil => exact Or.inl ⟨rfl, rfl, hR.2⟩
    | cons s2 r2 => exact Or.inr (Or.inr (Or.inr ⟨s2, r2, rfl, rfl, rfl, hR.2⟩))
  rcases h with ⟨_, _, h⟩ | ⟨s, r', hr, hd, _, h⟩ | ⟨s, r', hr, h1, hd, h⟩ | ⟨s, r', hr, hd, _, h⟩
  · cases h
  · by_cases h0 : s.f0 = true
    · rw [if_pos h0] at h
      simp only [List.cons_append, List.nil_append, List.cons.injEq] at h
      exact absurd h.1 hc
    · rw [if_neg h0] at h
      exact done s r' hr (by rw [hd]; simpa using h0) (by simpa using h)
  · exact done s r' hr (by rw [h1, hd]) h
  · rw [hr] at h
    unfold txtL at h
    by_cases h0 : s.f0 = true
    · rw [if_pos h0] at h
      simp only [List.cons_append, List.nil_append, List.cons.injEq] at h
      exact absurd h.1 hc
    · rw [if_neg h0] at h
      simp only [List.cons_append, List.nil_append, List.cons.injEq] at h
      exact absurd h.1 hc
theorem specRead_loop (t : ByteArray) (ht : t.size ≤ 40) : ∀ n i : Nat, 1 ≤ i → t.size ≤ i + n → i ≤ 41 → ∀ (d : Bool) (acc : List S130), acc.length ≤ i → (∀ x ∈ acc, x.f1.size ≤ 1048576) →
    (∀ q, okQ q = true → txtQ q = t → ∃ r, q = acc ++ r ∧ At r d (bt t (i - 1 : Nat) == 47) ((Lb t).drop i)) → ∃ R, Ev (fun k => spec_ReadQuery.l0 k t d i acc) R ∧ IsRead t R := by
  have stop : ∀ i : Nat, t.size ≤ i → ∀ (d : Bool) (acc : List S130), acc.length ≤ 100 → (∀ x ∈ acc, x.f1.size ≤ 1048576) →
      (∀ q, okQ q = true → txtQ q = t → ∃ r, q = acc ++ r ∧ At r d (bt t (i - 1 : Nat) == 47) ((Lb t).drop i)) → ∃ R, Ev (fun k => spec_ReadQuery.l0 k t d i acc) R ∧ IsRead t R := by
    intro i hi d acc ha hs hq
    refine ⟨_, Ev.succ ?_, isRead_end (acc := acc) fun q h1 h2 => ?_⟩
    · simp only [spec_ReadQuery.l0, if_neg (show ¬ (i : Int) < (t.size : Int) by omega)]
      exact ask_ev acc (by omega) hs
    · obtain ⟨r, hr, hA⟩ := hq q h1 h2
      rw [List.drop_of_length_le (by rw [Lb_len]; exact hi)] at hA
      have htst := okQ_tst h1
      rcases hA with ⟨h3, _, _⟩ | ⟨s, r', h3, _, _, h4⟩ | ⟨s, r', h3, _, _, h4⟩ | ⟨s, r', h3, _, _, h4⟩
      · rw [hr, h3, List.append_nil]
      all_goals
        obtain ⟨c, _, hL⟩ := tst_char (htst s (by rw [hr, h3]; simp))
      · rw [hL] at h4
        simp at h4
      · rw [hL] at h4
        simp at h4
      · rw [h3] at h4
        unfold txtL at h4
        rw [hL] at h4
        simp at h4
  intro n
  induction n with
  | zero =>
    intro i hi h0 h41 d acc ha hs hq
    exact stop i (by omega) d acc (by omega) hs hq
  | succ n ih =>
    intro i hi h0 h41 d acc ha hs hq
    by_cases hlt : i < t.size
    · obtain ⟨c, R, hd, hb, hd2⟩ := Lb_bt t i hlt
      have c1 : (i : Int) < (t.size : Int) := by omega
      have c2 : (0 : Int) ≤ (i : Int) := by omega
      have c3 : (0 : Int) ≤ ((i - 1 : Nat) : Int) := by omega
      have c4 : ((i - 1 : Nat) : Int) < (t.size : Int) := by omega
      have c5 : (i : Int) ≤ ((i + 1 : Nat) : Int) := by omega
      have c6 : ((i + 1 : Nat) : Int) ≤ (t.size : Int) := by omega
      have c7 : acc.length < 5864062014805 := by omega
      have c8 : i + 1 - 1 = i := by omega
      have k1 : t.size ≤ i + 1 + n := by omega
      have k2 : i + 1 ≤ 41 := by omega
      have k3 : acc.length ≤ i + 1 := by omega
      have k4 : (t.extract i (i + 1)).size ≤ 1048576 := by rw [ByteArray.size_extract]; omega
      have u1 := up1 i (by omega)
      have u2 : wrap64 ((i : Int) - 1) = ((i - 1 : Nat) : Int) := by clear u1; rw [w64 (by omega) (by omega)]; omega
      by_cases h47 : c = 47
      · subst h47
        have hb47 : bt t i = 47 := by rw [hb]; rfl
        obtain ⟨R2, e2, p2⟩ := ih (i + 1) (Nat.le_add_left 1 i) k1 k2 (bt t (i - 1 : Nat) == 47) acc k3 hs (fun q h1 h2 => by
          obtain ⟨r, hr, hA⟩ := hq q h1 h2
          rw [hd] at hA
          refine ⟨r, hr, ?_⟩
          rw [c8, hd2, hb47]
          exact at_slash (fun s hs => okQ_tst h1 s (by rw [hr]; simp [hs])) hA)
        refine ⟨R2, Ev.succ ?_, p2⟩
        simp only [spec_ReadQuery.l0, if_pos c1, if_pos c2, if_pos hb47, u2, if_pos c3, if_pos c4, u1]
        exact e2
      · have hb47 : ¬ bt t i = 47 := by rw [hb]; exact fun h => h47 (u47.1 h)
        obtain ⟨R2, e2, p2⟩ := ih (i + 1) (Nat.le_add_left 1 i) k1 k2 false (acc ++ [(⟨d, t.extract i (i + 1)⟩ : S130)]) (by simp; omega) (fun x hx => by
            rcases List.mem_append.1 hx with hx | hx
            · exact hs x hx
            · simp at hx; subst hx; exact k4) (fun q h1 h2 => by
          obtain ⟨r, hr, hA⟩ := hq q h1 h2
          rw [hd] at hA
          obtain ⟨s, r', g1, g2, g3, g4⟩ := at_test (fun s hs => okQ_tst h1 s (by rw [hr]; simp [hs])) h47 hA
          have hs1 : s.f1 = t.extract i (i + 1) := Lb_inj (by rw [g3, Lb_ext, hd, show i + 1 - i = 1 by omega]; rfl)
          refine ⟨r', ?_, ?_⟩
          · rw [hr, g1, List.append_assoc]
            congr 1
            rw [← g2, ← hs1]
            rfl
          · rw [c8, hd2, show (bt t i == 47) = false from beq_eq_false_iff_ne.2 hb47]
            exact g4)
        refine ⟨R2, Ev.succ ?_, p2⟩
        simp only [spec_ReadQuery.l0, if_pos c1, if_pos c2, if_neg hb47, u1, if_pos c5, if_pos c6, if_pos c7, Int.toNat_natCast]
        exact e2
    · exact stop i (by omega) d acc (by omega) hs hq
theorem specRead_ev (t : ByteArray) : ∃ R, Ev (fun k => spec_ReadQuery.f k t) R ∧ IsRead t R := by
  unfold spec_ReadQuery.f
  by_cases h : (t.size : Int) > 40
  · refine ⟨([], 5), by simp only [if_pos h]; exact Ev.now _, isRead_none fun q h1 h2 => ?_⟩
    have hl := okQ_len h1
    have hb : ∀ q : List S130, (∀ s ∈ q, tstS s = true) → (txtL q).length ≤ 3 * q.length := by
      intro q
      induction q with
      | nil => intro _; simp [txtL]
      | cons s r ih =>
        intro hq
        obtain ⟨c, _, hL⟩ := tst_char (hq s (by simp))
        have := ih (fun x hx => hq x (by simp [hx]))
        unfold txtL
        rw [hL]
        split <;> simp <;> omega
    have h3 := hb q (okQ_tst h1)
    rw [← Lb_txt, h2, Lb_len] at h3
    omega
  · simp only [if_neg h]
    have ht : t.size ≤ 40 := by omega
    obtain ⟨R, e, p⟩ := specRead_loop t ht 40 1 (by omega) (by omega) (by omega) false [] (by simp) (fun x hx => by cases hx) (fun q h1 h2 => by
      refine ⟨q, rfl, ?_⟩
      have hl := okQ_len h1
      cases q with
      | nil => simp at hl
      | cons s r =>
        have hL : Lb t = txtL (s :: r) := by rw [← h2, Lb_txt]
        have h0 : ∃ R, Lb t = 47 :: R ∧ R = (if s.f0 = true then [47] else []) ++ (Lb s.f1 ++ txtL r) := by
          rw [hL, show txtL (s :: r) = (if s.f0 = true then [47, 47] else [47]) ++ (Lb s.f1 ++ txtL r) from rfl]
          by_cases h0 : s.f0 = true
          · rw [if_pos h0, if_pos h0]; exact ⟨_, rfl, rfl⟩
          · rw [if_neg h0, if_neg h0]; exact ⟨_, rfl, rfl⟩
        obtain ⟨R, e1, e2⟩ := h0
        have hsz : 0 < t.size := by rw [← Lb_len, e1]; simp
        obtain ⟨c, R', d1, d2, d3⟩ := Lb_bt t 0 hsz
        rw [List.drop_zero, e1] at d1
        injection d1 with d1 d1'
        have hpv : (bt t ((1 - 1 : Nat) : Int) == 47) = true := by
          rw [show (1 - 1 : Nat) = 0 from rfl, d2, ← d1]; rfl
        rw [hpv, e1]
        exact Or.inr (Or.inl ⟨s, r, rfl, rfl, rfl, by simpa using e2⟩))
    exact ⟨R, e, p⟩

/-- Does a text begin with a slash. -/
def sl1 : List UInt8 → Bool
  | [] => false
  | c :: _ => c == 47
theorem prefix_eq (x : ByteArray) : strings_HasPrefix.f x (⟨#[47]⟩ : ByteArray) = some (sl1 (Lb x)) := by
  unfold strings_HasPrefix.f stringslite_HasPrefix.f
  have h1 : ((⟨#[47]⟩ : ByteArray).size : Int) = 1 := rfl
  rw [h1]
  by_cases h : (x.size : Int) ≥ 1
  · simp only [if_pos h, show (0 : Int) ≤ 1 by decide, if_true, if_pos (show (1 : Int) ≤ (x.size : Int) by omega), Option.bind_some]
    congr 1
    have e : (x.extract 0 ((1 : Int)).toNat).toList = (Lb x).take 1 := by
      rw [(Lb_eq _ _).2 (Lb_ext x 0 ((1 : Int)).toNat)]; rfl
    rw [e, show (⟨#[47]⟩ : ByteArray).toList = [47] from by rw [Lib.toList_data]]
    have hl := Lb_len x
    cases hL : Lb x with
    | nil => rw [hL] at hl; simp at hl; omega
    | cons c R =>
      by_cases hc : c = 47
      · subst hc; simp [sl1]
      · simp [hc, sl1]
  · simp only [if_neg h, Option.bind_some]
    congr 1
    have hl := Lb_len x
    cases hL : Lb x with
    | nil => rfl
    | cons c R => rw [hL] at hl; simp at hl; omega
theorem tail_of {x : ByteArray} {c : UInt8} {R : List UInt8} (h : Lb x = c :: R) : Lb (x.extract 1 x.size) = R := by
  have hs := size_of_Lb h
  rw [Lb_ext, h, List.drop_succ_cons, List.drop_zero, List.take_of_length_le (by rw [hs]; simp)]
theorem head_of {x : ByteArray} {c : UInt8} {R : List UInt8} (h : Lb x = c :: R) : Lb (x.extract 0 1) = [c] := by
  rw [Lb_ext, h]; rfl
theorem implRead_loop (t : ByteArray) : ∀ n, ∀ (acc : List S130) (x : ByteArray), acc.length + n = 7 → (∀ y ∈ acc, y.f1.size ≤ 1048576) → x.size ≤ 9223372036854775807 →
    (∀ q, okQ q = true → txtQ q = t → ∃ r, q = acc ++ r ∧ Lb x = txtL r) → ∃ R, Ev (fun k => impl_ReadQuery.l0 k t x acc) R ∧ IsRead t R := by
  intro n
  induction n with
  | zero =>
    intro acc x ha hs hx hq
    have hle : ¬ ((acc.length : Int) ≤ 6) := by omega
    refine ⟨_, Ev.succ ?_, isRead_none fun q h1 h2 => ?_⟩
    · simp only [impl_ReadQuery.l0, prefix_eq, Option.bind_some, decide_eq_false hle, ite_self]
      refine Ev.succ ?_
      simp only [impl_ReadQuery.j1, Bool.false_eq_true, if_false]
      have h3 : ¬ (okQ acc = true ∧ txtQ acc = t) := fun h => by have := okQ_len h.1; omega
      have := ask2_ev (t := t) acc (by omega) hs
      rw [if_neg h3] at this
      exact this
    · obtain ⟨r, hr, _⟩ := hq q h1 h2
      have := okQ_len h1
      rw [hr, List.length_append] at this
      omega
  | succ n ih =>
    intro acc x ha hs hx hq
    have hle : (acc.length : Int) ≤ 6 := by omega
    have hal : acc.length ≤ 1048576 := by omega
    have c7 : acc.length < 5864062014805 := by omega
    cases hL : Lb x with
    | nil =>
      refine ⟨_, Ev.succ ?_, isRead_end (acc := acc) fun q h1 h2 => ?_⟩
      · simp only [impl_ReadQuery.l0, prefix_eq, Option.bind_some, hL, show sl1 [] = false from rfl, Bool.false_eq_true, if_false]
        refine Ev.succ ?_
        simp only [impl_ReadQuery.j1, Bool.false_eq_true, if_false]
        exact ask2_ev acc hal hs
      · obtain ⟨r, hr, hA⟩ := hq q h1 h2
        cases r with
        | nil => rw [hr, List.append_nil]
        | cons s r => rw [hL] at hA; unfold txtL at hA; split at hA <;> simp at hA
    | cons c X =>
      have hsz := size_of_Lb hL
      by_cases hc : c = 47
      · subst hc
        have hp : sl1 (47 :: X) = true := rfl
        have sz1 : 1 ≤ (x.size : Int) := by rw [hsz]; simp; omega
        have t1 := tail_of hL
        -- what is left behind the slash
        have hq1 : ∀ q, okQ q = true → txtQ q = t → ∃ s r, q = acc ++ s :: r ∧ tstS s = true ∧ X = (if s.f0 = true then [47] else []) ++ (Lb s.f1 ++ txtL r) := by
          intro q h1 h2
          obtain ⟨r, hr, hA⟩ := hq q h1 h2
          rw [hL] at hA
          cases r with
          | nil => cases hA
          | cons s r =>
            refine ⟨s, r, hr, okQ_tst h1 s (by rw [hr]; simp), ?_⟩
            unfold txtL at hA
            by_cases h0 : s.f0 = true
            · rw [if_pos h0] at hA ⊢
              simp only [List.cons_append, List.nil_append, List.cons.injEq, true_and] at hA ⊢
              exact hA
            · rw [if_neg h0] at hA ⊢
              simp only [List.cons_append, List.nil_append, List.cons.injEq, true_and] at hA ⊢
              exact hA
        have gx1 : (x.extract 1 x.size).size ≤ 9223372036854775807 := by rw [ByteArray.size_extract]; omega
        have hs1 : x.size - 1 = (x.extract 1 x.size).size := by rw [ByteArray.size_extract]; omega
        generalize hx1 : x.extract 1 x.size = x1 at t1 gx1 hs1
        cases X with
        | nil =>
          refine ⟨([], 5), Ev.succ ?_, isRead_none fun q h1 h2 => ?_⟩
          · simp only [impl_ReadQuery.l0, prefix_eq, Option.bind_some, hL, hp, if_true, decide_eq_true hle]
            refine Ev.succ ?_
            simp only [impl_ReadQuery.j1, if_true, if_pos sz1, hx1, prefix_eq, Option.bind_some, t1, show sl1 [] = false from rfl, Bool.false_eq_true, if_false, if_pos (show x1.toList.isEmpty = true by rw [(Lb_eq _ _).2 t1]; rfl)]
            exact Ev.now _
          · obtain ⟨s, r, _, hs1, hX⟩ := hq1 q h1 h2
            obtain ⟨c, _, hc⟩ := tst_char hs1
            rw [hc] at hX
            simp at hX
        | cons c2 X2 =>
          have sz2 : 1 ≤ (x1.size : Int) := by rw [size_of_Lb t1]; simp; omega
          have t2 := tail_of t1
          by_cases hc2 : c2 = 47
          · subst hc2
            have hp2 : sl1 (47 :: X2) = true := rfl
            have gx2 : (x1.extract 1 x1.size).size ≤ 9223372036854775807 := by rw [ByteArray.size_extract]; omega
            have hs2 : x1.size - 1 = (x1.extract 1 x1.size).size := by rw [ByteArray.size_extract]; omega
            generalize hx2 : x1.extract 1 x1.size = x2 at t2 gx2 hs2
            cases X2 with
            | nil =>
              refine ⟨([], 5), Ev.succ ?_, isRead_none fun q h1 h2 => ?_⟩
              · simp only [impl_ReadQuery.l0, prefix_eq, Option.bind_some, hL, hp, if_true, decide_eq_true hle]
                refine Ev.succ ?_
                simp only [impl_ReadQuery.j1, if_true, if_pos sz1, hx1, prefix_eq, Option.bind_some, t1, hp2, hs1, if_pos sz2, hx2, if_pos (show x2.toList.isEmpty = true by rw [(Lb_eq _ _).2 t2]; rfl)]
                exact Ev.now _
              · obtain ⟨s, r, _, hs1, hX⟩ := hq1 q h1 h2
                obtain ⟨c, hc, hcL⟩ := tst_char hs1
                rw [hcL] at hX
                by_cases h0 : s.f0 = true
                · rw [if_pos h0] at hX; simp at hX
                · rw [if_neg h0] at hX
                  simp only [List.nil_append, List.cons_append, List.cons.injEq] at hX
                  exact hc hX.1.symm
            | cons c3 X3 =>
              have sz3 : 1 ≤ (x2.size : Int) := by rw [size_of_Lb t2]; simp; omega
              have ne : ¬ x2.toList.isEmpty = true := by rw [(Lb_eq _ _).2 t2]; simp
              have gx3 : (x2.extract 1 x2.size).size ≤ 9223372036854775807 := by rw [ByteArray.size_extract]; omega
              have hd3 := head_of t2
              have gs : (x2.extract 0 1).size ≤ 1048576 := by rw [size_of_Lb hd3]; simp
              obtain ⟨R, e, p⟩ := ih (acc ++ [(⟨true, x2.extract 0 1⟩ : S130)]) (x2.extract 1 x2.size) (by simp; omega) (fun y hy => by
                rcases List.mem_append.1 hy with hy | hy
                · exact hs y hy
                · simp at hy; subst hy; exact gs) gx3 (fun q h1 h2 => by
                obtain ⟨s, r, hr, hs1, hX⟩ := hq1 q h1 h2
                obtain ⟨c, hc, hcL⟩ := tst_char hs1
                by_cases h0 : s.f0 = true
                · rw [if_pos h0, hcL] at hX
                  simp only [List.nil_append, List.cons_append, List.cons.injEq, true_and] at hX
                  have hs2 : s.f1 = x2.extract 0 1 := Lb_inj (by rw [hcL, hd3, hX.1])
                  refine ⟨r, ?_, by rw [tail_of t2]; exact hX.2⟩
                  rw [hr, List.append_assoc]
                  congr 1
                  rw [← hs2, ← h0]
                  rfl
                · rw [if_neg h0, hcL] at hX
                  simp only [List.nil_append, List.cons_append, List.cons.injEq] at hX
                  exact absurd hX.1.symm hc)
              refine ⟨R, Ev.succ ?_, p⟩
              simp only [impl_ReadQuery.l0, prefix_eq, Option.bind_some, hL, hp, if_true, decide_eq_true hle]
              refine Ev.succ ?_
              simp only [impl_ReadQuery.j1, if_true, if_pos sz1, hx1, prefix_eq, Option.bind_some, t1, hp2, hs1, if_pos sz2, hx2, if_neg ne, hs2, show (0 : Int) ≤ 1 by decide, if_pos sz3, if_pos c7]
              exact e
          · have hp2 : sl1 (c2 :: X2) = false := beq_eq_false_iff_ne.2 hc2
            have ne : ¬ x1.toList.isEmpty = true := by rw [(Lb_eq _ _).2 t1]; simp
            have gx3 : (x1.extract 1 x1.size).size ≤ 9223372036854775807 := by rw [ByteArray.size_extract]; omega
            have hd3 := head_of t1
            have gs : (x1.extract 0 1).size ≤ 1048576 := by rw [size_of_Lb hd3]; simp
            obtain ⟨R, e, p⟩ := ih (acc ++ [(⟨false, x1.extract 0 1⟩ : S130)]) (x1.extract 1 x1.size) (by simp; omega) (fun y hy => by
              rcases List.mem_append.1 hy with hy | hy
              · exact hs y hy
              · simp at hy; subst hy; exact gs) gx3 (fun q h1 h2 => by
              obtain ⟨s, r, hr, hs1, hX⟩ := hq1 q h1 h2
              obtain ⟨c, hc, hcL⟩ := tst_char hs1
              by_cases h0 : s.f0 = true
              · rw [if_pos h0, hcL] at hX
                simp only [List.nil_append, List.cons_append, List.cons.injEq] at hX
                exact absurd hX.1 hc2
              · rw [if_neg h0, hcL] at hX
                simp only [List.nil_append, List.cons_append, List.cons.injEq] at hX
                have hs2 : s.f1 = x1.extract 0 1 := Lb_inj (by rw [hcL, hd3, hX.1])
                refine ⟨r, ?_, by rw [t2]; exact hX.2⟩
                rw [hr, List.append_assoc]
                congr 1
                rw [← hs2, ← (show s.f0 = false by simpa using h0)]
                rfl)
            refine ⟨R, Ev.succ ?_, p⟩
            simp only [impl_ReadQuery.l0, prefix_eq, Option.bind_some, hL, hp, if_true, decide_eq_true hle]
            refine Ev.succ ?_
            simp only [impl_ReadQuery.j1, if_true, if_pos sz1, hx1, prefix_eq, Option.bind_some, t1, hp2, Bool.false_eq_true, if_false, if_neg ne, show (0 : Int) ≤ 1 by decide, hs1, if_pos sz2, if_pos c7]
            exact e
      · refine ⟨_, Ev.succ ?_, isRead_end (acc := acc) fun q h1 h2 => ?_⟩
        · simp only [impl_ReadQuery.l0, prefix_eq, Option.bind_some, hL, show sl1 (c :: X) = false from beq_eq_false_iff_ne.2 hc, Bool.false_eq_true, if_false]
          refine Ev.succ ?_
          simp only [impl_ReadQuery.j1, Bool.false_eq_true, if_false]
          exact ask2_ev acc hal hs
        · obtain ⟨r, hr, hA⟩ := hq q h1 h2
          cases r with
          | nil => rw [hr, List.append_nil]
          | cons s r =>
            rw [hL] at hA
            unfold txtL at hA
            split at hA
            · simp only [List.cons_append, List.cons.injEq] at hA; exact absurd hA.1 hc
            · simp only [List.cons_append, List.cons.injEq] at hA; exact absurd hA.1 hc
theorem implRead_ev (t : ByteArray) (ht : t.size ≤ 9223372036854775807) : ∃ R, Ev (fun k => impl_ReadQuery.f k t) R ∧ IsRead t R := by
  unfold impl_ReadQuery.f
  exact implRead_loop t 7 [] t rfl (fun y hy => by cases hy) ht (fun q h1 h2 => ⟨q, rfl, by rw [← h2, Lb_txt]⟩)
end Go.Proofs.Ytcaijfndmkdboaa.Br
namespace Go.Proofs.Ytcaijfndmkdboaa.Br
open Go.RowKit Go.Proofs.Ytcaijfndmkdboaa.Y Go.Proofs.YtcaijfndmkdboaaW.PrintWords Go.Proofs.YtcaijfndmkdboaaW.PrintLast Go.Proofs.YtcaijfndmkdboaaW.PrintMore Go.Proofs.Ytcaijfndmkdboaa.Th
set_option linter.unusedVariables false
set_option linter.unusedSimpArgs false
/-- n marked steps from a on. -/
def mqs (F : Int → ByteArray) (a : Int) : Nat → List S130
  | 0 => []
  | n + 1 => mqs F a n ++ [⟨Int.tmod (a + 2 * n) 3 == 0, F (a + 2 * n + 1)⟩]
theorem mqs_len (F : Int → ByteArray) (a : Int) : ∀ n, (mqs F a n).length = n
  | 0 => rfl
  | n + 1 => by simp [mqs, mqs_len F a n]
theorem mqs_get (F : Int → ByteArray) (a : Int) : ∀ n j : Nat, j < n → rd_T130 (mqs F a n) j = ⟨Int.tmod (a + 2 * j) 3 == 0, F (a + 2 * j + 1)⟩
  | n + 1, j, h => by
    unfold mqs rd_T130
    rw [Int.toNat_natCast, List.getD_eq_getElem?_getD]
    by_cases hj : j < n
    · rw [List.getElem?_append_left (by rw [mqs_len]; exact hj)]
      have := mqs_get F a n j hj
      unfold rd_T130 at this
      rw [Int.toNat_natCast, List.getD_eq_getElem?_getD] at this
      exact this
    · have : j = n := by omega
      subst this
      rw [List.getElem?_append_right (by rw [mqs_len]; exact Nat.le_refl _), mqs_len]
      simp
theorem rdT_set (l : List S130) (i : Nat) (v : S130) (h : i < l.length) : rd_T130 (l.set i v) i = v := by
  unfold rd_T130
  rw [Int.toNat_natCast, List.getD_eq_getElem?_getD, List.getElem?_set_self h]
  rfl
theorem markQ_loop (F : Int → ByteArray) (hF : ∀ x : Int, x ≤ 1099511627776 → Ev (fun k => laws_markText.f k x) (F x)) (l : List S130) (hl : l.length ≤ 4194304) : ∀ i, i ≤ l.length →
    Ev (fun k => laws_markQueryStepS.l0 k (mqs F 1 i ++ l.drop i) (1 + 2 * (i : Int)) i) (1 + 2 * (l.length : Int), mqs F 1 l.length) := by
  refine down l.length ?_ ?_
  · refine Ev.succ ?_
    have : (mqs F 1 l.length ++ l.drop l.length).length = l.length := by simp [mqs_len]
    simp only [laws_markQueryStepS.l0, this, if_neg (show ¬ (l.length : Int) < (l.length : Int) by omega)]
    exact Ev.done (by simp)
  · intro i hi hnext
    have hlen : (mqs F 1 i ++ l.drop i).length = l.length := by simp [mqs_len]; omega
    have hil : i < (mqs F 1 i ++ l.drop i).length := by omega
    have hset : (mqs F 1 i ++ l.drop i).set i ⟨Int.tmod (1 + 2 * (i : Int)) 3 == 0, F (1 + 2 * (i : Int) + 1)⟩ = mqs F 1 (i + 1) ++ l.drop (i + 1) := by
      rw [List.drop_eq_getElem_cons (by omega : i < l.length), List.set_append_right _ _ (by rw [mqs_len]; exact Nat.le_refl _), mqs_len, Nat.sub_self, List.set_cons_zero, mqs, List.append_assoc]
      rfl
    have b1 : (i : Int) < (l.length : Int) := by omega
    have b2 : (0 : Int) ≤ (i : Int) := by omega
    have ht := hF (1 + 2 * (i : Int) + 1) (by omega)
    have f3 : wrap64 ((i : Int) + 1) = ((i + 1 : Nat) : Int) := by rw [w64 (by omega) (by omega)]; push_cast; rfl
    have f4 : wrap64 (1 + 2 * (i : Int) + 1) = 1 + 2 * (i : Int) + 1 := by clear f3; exact w64 (by omega) (by omega)
    have f5 : wrap64 (1 + 2 * (i : Int) + 1 + 1) = 1 + 2 * ((i + 1 : Nat) : Int) := by clear f3 f4; rw [w64 (by omega) (by omega)]; push_cast; omega
    refine Ev.succ ?_
    simp only [laws_markQueryStepS.l0, hlen, if_pos b1, if_pos b2, Option.bind_some, f4, Int.toNat_natCast, rdT_set _ i _ hil, List.set_set, f5, f3]
    refine Ev.bind ht ?_
    rw [hset]
    exact hnext
theorem markQ_ev (F : Int → ByteArray) (hF : ∀ x : Int, x ≤ 1099511627776 → Ev (fun k => laws_markText.f k x) (F x)) (l : List S130) (hl : l.length ≤ 4194304) : Ev (fun k => laws_markQuery.f k l 1) (1 + 2 * (l.length : Int), mqs F 1 l.length) := by
  unfold laws_markQuery.f
  refine Ev.bind (a := (1 + 2 * (l.length : Int), mqs F 1 l.length)) ?_ (Ev.now _)
  have := markQ_loop F hF l hl 0 (by omega)
  simpa [mqs, laws_markQueryStepS.f] using this
theorem heldQ_ev (F : Int → ByteArray) (hF : ∀ x : Int, x ≤ 1099511627776 → Ev (fun k => laws_markText.f k x) (F x)) (n : Nat) (hl : n ≤ 4194304) : Ev (fun k => laws_heldQuery.f k (mqs F 1 n) 1) (1 + 2 * (n : Int)) := by
  have loop : ∀ i, i ≤ n → Ev (fun k => laws_heldQueryStepS.l0 k (mqs F 1 n) (1 + 2 * (i : Int)) i) (1 + 2 * (n : Int)) := by
    refine down n ?_ ?_
    · refine Ev.succ ?_
      simp only [laws_heldQueryStepS.l0, mqs_len, if_neg (show ¬ (n : Int) < (n : Int) by omega)]
      exact Ev.now _
    · intro i hi hnext
      have b1 : (i : Int) < (n : Int) := by omega
      have b2 : (0 : Int) ≤ (i : Int) := by omega
      have ht := hF (1 + 2 * (i : Int) + 1) (by omega)
      have f3 : wrap64 ((i : Int) + 1) = ((i + 1 : Nat) : Int) := by rw [w64 (by omega) (by omega)]; push_cast; rfl
      have f4 : wrap64 (1 + 2 * (i : Int) + 1) = 1 + 2 * (i : Int) + 1 := by clear f3; exact w64 (by omega) (by omega)
      have f5 : wrap64 (1 + 2 * (i : Int) + 1 + 1) = 1 + 2 * ((i + 1 : Nat) : Int) := by clear f3 f4; rw [w64 (by omega) (by omega)]; push_cast; omega
      refine Ev.succ ?_
      simp only [laws_heldQueryStepS.l0, mqs_len, if_pos b1, if_pos b2, mqs_get F 1 n i hi, f4, bne_self_eq_false, Bool.false_eq_true, if_false]
      refine Ev.bind ht ?_
      simp only [if_true, f5, f3]
      exact hnext
  unfold laws_heldQuery.f
  refine Ev.bind (a := 1 + 2 * (n : Int)) ?_ ?_
  · have := loop 0 (by omega)
    simpa [laws_heldQueryStepS.f] using this
  · simp only [if_neg (show ¬ (1 + 2 * (n : Int)) < 0 by omega)]
    exact Ev.now _
end Go.Proofs.Ytcaijfndmkdboaa.Br
