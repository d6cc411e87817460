/- What the law FnExactQueryText leans on: plain facts, and what the printed functions that it reaches come to; for all arguments that the facts name. -/
import Derived.Test.YtndlepcfbbfegaaPx0
import Derived.Test.YtndlepcfbbfegaaPx37
import Derived.Test.YtndlepcfbbfegaaPx39
import Derived.Test.YtndlepcfbbfegaaPx40
import Derived.Test.YtndlepcfbbfegaaPx41
import Derived.Test.YtndlepcfbbfegaaPx47
import Derived.Test.YtndlepcfbbfegaaPx48
import Derived.Test.YtndlepcfbbfegaaPx99
import Derived.Test.YtndlepcfbbfegaaPx100
import Derived.Test.YtndlepcfbbfegaaPx101
import Derived.Test.YtndlepcfbbfegaaPx102
import Derived.Test.YtndlepcfbbfegaaPx103
import Derived.Test.YtndlepcfbbfegaaPx105
import Derived.Test.YtndlepcfbbfegaaPx106
import Derived.Test.YtndlepcfbbfegaaPx107
import Derived.Test.YtndlepcfbbfegaaPx110
import Derived.Test.YtndlepcfbbfegaaPx142
import Derived.Test.YtndlepcfbbfegaaPx162
import Derived.Test.YtndlepcfbbfegaaPx163
import Derived.Test.YtndlepcfbbfegaaPx164
import Derived.Test.YtndlepcfbbfegaaPx166
import Derived.Test.YtndlepcfbbfegaaPx167
import Derived.Test.YtndlepcfbbfegaaPx7000000
import Derived.Test.YtndlepcfbbfegaaPx7000001
namespace Go.Proofs.Ytndlepcfbbfegaa.Th

def g (l : List Int) (j : Nat) : Int := l.getD j 0

end Go.Proofs.Ytndlepcfbbfegaa.Th
namespace Go.Proofs.Ytndlepcfbbfegaa.Br
open Go.RowKit Go.Proofs.Ytndlepcfbbfegaa.P Go.Proofs.YtndlepcfbbfegaaW.PrintWords Go.Proofs.YtndlepcfbbfegaaW.PrintLast Go.Proofs.YtndlepcfbbfegaaW.PrintMore Go.Proofs.Ytndlepcfbbfegaa.Th
set_option linter.unusedVariables false
set_option linter.unusedSimpArgs false
theorem Ev.succ {α : Type} {g : Nat → Option α} {r : α} (h : Ev (fun k => g (k + 1)) r) : Ev g r := by
  obtain ⟨K, hK⟩ := h
  refine ⟨K + 1, fun k hk => ?_⟩
  obtain ⟨m, rfl⟩ : ∃ m, k = m + 1 := ⟨k - 1, by omega⟩
  exact hK m (by omega)
theorem Ev.done {α : Type} {r s : α} (h : r = s) : Ev (fun _ : Nat => some r) s := h ▸ Ev.now r
theorem w64 {x : Int} (h0 : -9223372036854775808 ≤ x) (h1 : x ≤ 9223372036854775807) : wrap64 x = x := by unfold wrap64; omega

end Go.Proofs.Ytndlepcfbbfegaa.Br
namespace Go.Proofs.Ytndlepcfbbfegaa.Br
open Go.RowKit Go.Proofs.Ytndlepcfbbfegaa.P Go.Proofs.YtndlepcfbbfegaaW.PrintWords Go.Proofs.YtndlepcfbbfegaaW.PrintLast Go.Proofs.YtndlepcfbbfegaaW.PrintMore Go.Proofs.Ytndlepcfbbfegaa.Th
set_option linter.unusedVariables false
set_option linter.unusedSimpArgs false
theorem down {P : Nat → Prop} (n : Nat) (h0 : P n) (h1 : ∀ i, i < n → P (i + 1) → P i) : ∀ i, i ≤ n → P i := by
  have key : ∀ d i, i + d = n → P i := by
    intro d
    induction d with
    | zero => intro i hi; obtain rfl : i = n := by omega
              exact h0
    | succ d ih => intro i hi; exact h1 i (by omega) (ih (i + 1) (by omega))
  intro i hi
  exact key (n - i) i (by omega)
theorem up1 (i : Nat) (h : i < 9223372036854775807) : wrap64 ((i : Int) + 1) = ((i + 1 : Nat) : Int) := by
  rw [w64 (by omega) (by omega)]; rfl
theorem ilt {i n : Nat} (h : i < n) : (i : Int) < (n : Int) := by omega
theorem inlt {n : Nat} : ¬ ((n : Int) < (n : Int)) := by omega
theorem i0 (i : Nat) : 0 ≤ (i : Int) := by omega
theorem getD_mem {α : Type} (l : List α) (i : Nat) (d : α) (h : i < l.length) : l.getD i d ∈ l := by
  rw [List.getD_eq_getElem?_getD, List.getElem?_eq_getElem h]
  exact List.getElem_mem h
theorem take1 (a : Int) (n : Nat) (h0 : 0 ≤ a) (h1 : a ≤ 1048576) (hn : n ≤ 9223372036854775807) : wrap64 (a - (n : Int)) = a - (n : Int) := w64 (by omega) (by omega)

/-! ### laws' queries -/
theorem szQueryStep_ev (b : Bool) (s : ByteArray) (a : Int) (h0 : 0 ≤ a) (h1 : a ≤ 1048576) (hs : s.size ≤ 9223372036854775807) :
    ∃ r, laws_szQueryStep.f b s a = some r ∧ (r < 0 ∨ (0 ≤ r ∧ r ≤ a ∧ (s.size : Int) ≤ 1048576)) := by
  unfold laws_szQueryStep.f
  rw [take1 a _ h0 h1 hs]
  by_cases h : a - (s.size : Int) < 0
  · exact ⟨-1, by rw [if_pos h], .inl (by omega)⟩
  · exact ⟨_, by rw [if_neg h], .inr (by omega)⟩
theorem szQuery_ev (l : List S167) (a : Int) (h0 : 0 ≤ a) (h1 : a ≤ 1048576) (hl : l.length ≤ 9223372036854775807) (hs : ∀ x ∈ l, x.f1.size ≤ 9223372036854775807) :
    ∃ r, Ev (fun k => laws_szQuery.f k l a) r ∧ (r < 0 ∨ (0 ≤ r ∧ r ≤ a ∧ (l.length : Int) ≤ 1048576 ∧ ∀ x ∈ l, (x.f1.size : Int) ≤ 1048576)) := by
  have loop : ∀ i, i ≤ l.length → ∀ c, 0 ≤ c → c ≤ 1048576 → ∃ r, Ev (fun k => laws_szQueryStepS.l0 k l c i) r ∧ (r < 0 ∨ (0 ≤ r ∧ r ≤ c ∧ ∀ j, i ≤ j → j < l.length → ((l.getD j z167).f1.size : Int) ≤ 1048576)) := by
    refine down l.length ?_ ?_
    · intro c hc _
      refine ⟨c, Ev.succ ?_, .inr ⟨hc, by omega, fun j h1 h2 => by omega⟩⟩
      simp only [laws_szQueryStepS.l0, if_neg inlt]
      exact Ev.now _
    · intro i hi ih c hc hc2
      have hm := getD_mem l i z167 hi
      obtain ⟨r, hr, hr2⟩ := szQueryStep_ev (l.getD i z167).f0 (l.getD i z167).f1 c hc hc2 (hs _ hm)
      by_cases hneg : r < 0
      · refine ⟨-1, Ev.succ ?_, .inl (by omega)⟩
        simp only [laws_szQueryStepS.l0, if_pos (ilt hi), if_pos (i0 i), rd_T167, Int.toNat_natCast, hr, Option.bind_some, if_pos hneg]
        exact Ev.now _
      · obtain ⟨q, hq, hq2⟩ := ih r (by omega) (by omega)
        refine ⟨q, Ev.succ ?_, ?_⟩
        · simp only [laws_szQueryStepS.l0, if_pos (ilt hi), if_pos (i0 i), rd_T167, Int.toNat_natCast, hr, Option.bind_some, if_neg hneg, up1 i (by omega)]
          exact hq
        · rcases hq2 with hq2 | ⟨q0, q1, q2⟩
          · exact .inl hq2
          · refine .inr ⟨q0, by omega, fun j hj1 hj2 => ?_⟩
            by_cases e : j = i
            · subst e; omega
            · exact q2 j (by omega) hj2
  unfold laws_szQuery.f laws_szQueryStepS.f
  rw [take1 a _ h0 h1 hl]
  by_cases h : a - (l.length : Int) < 0
  · exact ⟨-1, by simp only [if_pos h, Option.bind_some, show ((-1 : Int) < 0) = True from eq_true (by decide), if_true]; exact Ev.now _, .inl (by omega)⟩
  · obtain ⟨r, hr, hr2⟩ := loop 0 (by omega) (a - (l.length : Int)) (by omega) (by omega)
    by_cases hneg : r < 0
    · exact ⟨-1, by simp only [if_neg h]; exact hr.bind (by simp only [if_pos hneg]; exact Ev.now _), .inl (by omega)⟩
    · refine ⟨r, by simp only [if_neg h]; exact hr.bind (by simp only [if_neg hneg]; exact Ev.now _), .inr ⟨by omega, by omega, by omega, fun x hx => ?_⟩⟩
      obtain ⟨j, hj⟩ := List.getElem?_of_mem hx
      rcases hr2 with h2 | ⟨_, _, h2⟩
      · omega
      · have hlt := (List.getElem?_eq_some_iff.1 hj).1
        have := h2 j (by omega) hlt
        rwa [List.getD_eq_getElem?_getD, hj] at this
/-- A law's query as the program's. -/
def toQ (l : List S167) : List S125 := l.map fun x => ⟨x.f0, x.f1⟩
theorem toQuery_ev (l : List S167) (hl : l.length ≤ 1048576) : Ev (fun k => laws_toQuery.f k l) (toQ l) := by
  have loop : ∀ i, i ≤ l.length → ∀ o : List S125, o.length = l.length → o.take i = (toQ l).take i → Ev (fun k => laws_toQueryStepS.l0 k l o i) (toQ l) := by
    refine down l.length ?_ ?_
    · intro o ho ht
      have : o = toQ l := by rw [← List.take_length (l := o), ho, ht, List.take_of_length_le (by simp [toQ])]
      refine Ev.succ ?_
      simp only [laws_toQueryStepS.l0, if_neg inlt]
      exact Ev.done (by rw [this])
    · intro i hi ih o ho ht
      refine Ev.succ ?_
      simp only [laws_toQueryStepS.l0, if_pos (ilt hi), if_pos (i0 i), rd_T167, Int.toNat_natCast, laws_toQueryStep.f, Option.bind_some, if_pos (ilt (show i < o.length by omega)), up1 i (by omega)]
      refine ih _ (by simpa using ho) ?_
      rw [List.take_add_one, List.take_add_one, List.take_set_of_le (by omega), ht]
      have e1 : (o.set i (⟨(l.getD i z167).f0, (l.getD i z167).f1⟩ : S125))[i]? = some ⟨(l.getD i z167).f0, (l.getD i z167).f1⟩ := by
        rw [List.getElem?_set_self (by omega)]
      have e2 : (toQ l)[i]? = some ⟨(l.getD i z167).f0, (l.getD i z167).f1⟩ := by
        unfold toQ
        rw [List.getElem?_map, List.getElem?_eq_getElem hi, List.getD_eq_getElem?_getD, List.getElem?_eq_getElem hi]
        rfl
      rw [e1, e2]
  unfold laws_toQuery.f laws_toQueryStepS.f
  simp only [if_pos (i0 l.length), Int.toNat_natCast, if_pos (show l.length ≤ 11728124029610 by omega)]
  refine Ev.bind (loop 0 (by omega) _ (by simp) (by simp)) (Ev.now _)
theorem eqQuery_ev (l : List S125) (hl : l.length ≤ 1048576) : Ev (fun k => laws_eqQuery.f k l l) true := by
  have loop : ∀ i, i ≤ l.length → Ev (fun k => laws_eqQueryStepS.l0 k l l i) true := by
    refine down l.length ?_ ?_
    · refine Ev.succ ?_
      simp only [laws_eqQueryStepS.l0, if_neg inlt]
      exact Ev.now _
    · intro i hi ih
      refine Ev.succ ?_
      simp only [laws_eqQueryStepS.l0, if_pos (ilt hi), if_pos (i0 i), laws_eqQueryStep.f, bne_self_eq_false, Bool.false_eq_true, if_false, if_true, Option.bind_some, up1 i (by omega)]
      exact ih
  unfold laws_eqQuery.f laws_eqQueryStepS.f
  simp only [if_true]
  exact Ev.bind (loop 0 (by omega)) (by simp only [if_true]; exact Ev.now _)
theorem toQ_length (l : List S167) : (toQ l).length = l.length := by simp [toQ]
end Go.Proofs.Ytndlepcfbbfegaa.Br
namespace Go.Proofs.Ytndlepcfbbfegaa.Br
open Go.RowKit Go.Proofs.Ytndlepcfbbfegaa.P Go.Proofs.YtndlepcfbbfegaaW.PrintWords Go.Proofs.YtndlepcfbbfegaaW.PrintLast Go.Proofs.YtndlepcfbbfegaaW.PrintMore Go.Proofs.Ytndlepcfbbfegaa.Th
set_option linter.unusedVariables false
set_option linter.unusedSimpArgs false
theorem in_eq (a lo hi : Int) : spec_l00In.f a lo hi = some (decide (lo ≤ a ∧ a ≤ hi)) := by
  unfold spec_l00In.f
  by_cases h : a ≥ lo
  · rw [if_pos h]; congr 1; simp; omega
  · rw [if_neg h]; congr 1; simp; omega
theorem within_eq (a lo hi : Int) : impl_within.f a lo hi = some (decide (lo ≤ a ∧ a ≤ hi)) := by
  unfold impl_within.f
  by_cases h : a ≥ lo
  · rw [if_pos h]; congr 1; simp; omega
  · rw [if_neg h]; congr 1; simp; omega

end Go.Proofs.Ytndlepcfbbfegaa.Br
namespace Go.Proofs.Ytndlepcfbbfegaa.Br
open Go.RowKit Go.Proofs.Ytndlepcfbbfegaa.P Go.Proofs.YtndlepcfbbfegaaW.PrintWords Go.Proofs.YtndlepcfbbfegaaW.PrintLast Go.Proofs.YtndlepcfbbfegaaW.PrintMore Go.Proofs.Ytndlepcfbbfegaa.Th
set_option linter.unusedVariables false
set_option linter.unusedSimpArgs false
/-- The greatest of some numbers and a first one. -/
def most (x : Int) (l : List Int) : Int := l.foldl mx x

end Go.Proofs.Ytndlepcfbbfegaa.Br
namespace Go.Proofs.Ytndlepcfbbfegaa.Br
open Go.RowKit Go.Proofs.Ytndlepcfbbfegaa.P Go.Proofs.YtndlepcfbbfegaaW.PrintWords Go.Proofs.YtndlepcfbbfegaaW.PrintLast Go.Proofs.YtndlepcfbbfegaaW.PrintMore Go.Proofs.Ytndlepcfbbfegaa.Th
set_option linter.unusedVariables false
set_option linter.unusedSimpArgs false
/-- Is a text a test. -/
def tst (l : List UInt8) : Bool := l == [40] || l == [91] || l == [97] || l == [98] || l == [42] || l == [46]

theorem toList_len (a : ByteArray) : a.toList.length = a.size := by rw [Lib.toList_data]; simp
theorem toList_one {a : ByteArray} (h : a.size = 1) : ∃ c : UInt8, a = ⟨#[c]⟩ ∧ a.toList = [c] := by
  obtain ⟨⟨l⟩⟩ := a
  match l, h with
  | [c], _ => exact ⟨c, rfl, by rw [Lib.toList_data]⟩

theorem sTest_eq (a : ByteArray) : spec_l05Test.f a = some (tst a.toList) := by
  unfold spec_l05Test.f tst
  by_cases h1 : a.toList = [40]
  · simp [h1]
  · by_cases h2 : a.toList = [91]
    · simp [h2]
    · by_cases h3 : a.toList = [97]
      · simp [h3]
      · by_cases h4 : a.toList = [98]
        · simp [h4]
        · by_cases h5 : a.toList = [42]
          · simp [h5]
          · simp [h1, h2, h3, h4, h5]

theorem iTest_eq (a : ByteArray) : impl_isTest.f a = some (tst a.toList) := by
  unfold impl_isTest.f
  by_cases h : a.size = 1
  · obtain ⟨c, rfl, hl⟩ := toList_one h
    rw [if_pos (by rw [h]; rfl)]
    unfold strings_Contains.f
    rw [if_pos h, hl]
    simp only [Option.bind_some]
    congr 1
    show decide (0 ≤ Lib.indexByte [40, 91, 97, 98, 42, 46] c) = tst [c]
    have key : ∀ n : Fin 256, decide (0 ≤ Lib.indexByte [40, 91, 97, 98, 42, 46] (UInt8.ofNat n.val)) = tst [UInt8.ofNat n.val] := by decide +kernel
    have := key ⟨c.toNat, c.toNat_lt⟩
    simpa using this
  · rw [if_neg (by omega)]
    have hl := toList_len a
    unfold tst
    have : ∀ x : UInt8, (a.toList == [x]) = false := by
      intro x
      rw [beq_eq_false_iff_ne]
      intro e
      rw [e] at hl
      simp at hl
      omega
    simp [this]

end Go.Proofs.Ytndlepcfbbfegaa.Br
namespace Go.Proofs.Ytndlepcfbbfegaa.Br
open Go.RowKit Go.Proofs.Ytndlepcfbbfegaa.P Go.Proofs.YtndlepcfbbfegaaW.PrintWords Go.Proofs.YtndlepcfbbfegaaW.PrintLast Go.Proofs.YtndlepcfbbfegaaW.PrintMore Go.Proofs.Ytndlepcfbbfegaa.Th
set_option linter.unusedVariables false
set_option linter.unusedSimpArgs false
theorem drop_all {α : Type} (l : List α) (p : α → Bool) (i : Nat) (d : α) (h : i < l.length) : (l.drop i).all p = (p (l.getD i d) && (l.drop (i + 1)).all p) := by
  rw [List.drop_eq_getElem_cons h, List.all_cons, List.getD_eq_getElem?_getD, List.getElem?_eq_getElem h]
  rfl
theorem drop_end {α : Type} (l : List α) : l.drop l.length = [] := List.drop_length
def tstS (x : S125) : Bool := tst x.f1.toList
def okQ (l : List S125) : Bool := l.all tstS && decide (1 ≤ (l.length : Int) ∧ (l.length : Int) ≤ 6)
theorem specOkQ_ev (l : List S125) (hl : l.length ≤ 1048576) : Ev (fun k => spec_l05Ok.f k l) (okQ l) := by
  have loop : ∀ i, i ≤ l.length → Ev (fun k => spec_l05Ok.l0 k i l) ((l.drop i).all tstS && decide (1 ≤ (l.length : Int) ∧ (l.length : Int) ≤ 6)) := by
    refine down l.length ?_ ?_
    · refine Ev.succ ?_
      simp only [spec_l05Ok.l0, if_neg inlt, in_eq, Option.bind_some, drop_end, List.all_nil, Bool.true_and]
      exact Ev.now _
    · intro i hi ih
      refine Ev.succ ?_
      simp only [spec_l05Ok.l0, if_pos (ilt hi), if_pos (i0 i), rd_T125, Int.toNat_natCast, sTest_eq, Option.bind_some, up1 i (by omega)]
      rw [drop_all l tstS i z125 hi]
      by_cases e : tst (l.getD i z125).f1.toList = true
      · simp only [if_pos e, show tstS (l.getD i z125) = true from e, Bool.true_and]
        exact ih
      · simp only [if_neg e, show tstS (l.getD i z125) = false from by simpa [tstS] using e, Bool.false_and]
        exact Ev.now _
  exact loop 0 (by omega)
theorem implValidQ_ev (l : List S125) (hl : l.length ≤ 1048576) : Ev (fun k => impl_ValidQuery.f k l) (okQ l) := by
  have loop : ∀ i, i ≤ l.length → ∃ r : Int, Ev (fun k => slices_IndexFunc_Limpl_QueryStep_impl_QueryStep_at_impl_ValidQuery_1.l0 k l (l.length : Int) i) r ∧ ((l.drop i).all tstS = !(decide (r ≥ 0))) := by
    refine down l.length ?_ ?_
    · refine ⟨-1, Ev.succ ?_, by rw [drop_end]; rfl⟩
      simp only [slices_IndexFunc_Limpl_QueryStep_impl_QueryStep_at_impl_ValidQuery_1.l0, if_neg inlt]
      exact Ev.now _
    · intro i hi ih
      obtain ⟨r, hr, he⟩ := ih
      by_cases e : tst (l.getD i z125).f1.toList = true
      · refine ⟨r, Ev.succ ?_, ?_⟩
        · simp only [slices_IndexFunc_Limpl_QueryStep_impl_QueryStep_at_impl_ValidQuery_1.l0, if_pos (ilt hi), if_pos (i0 i), rd_T125, Int.toNat_natCast, impl_ValidQuery_1.f, iTest_eq, Option.bind_some, e, Bool.not_true, Bool.false_eq_true, if_false, up1 i (by omega)]
          exact hr
        · rw [drop_all l tstS i z125 hi, show tstS (l.getD i z125) = true from e, Bool.true_and, he]
      · have e' : tst (l.getD i z125).f1.toList = false := by simpa using e
        refine ⟨(i : Int), Ev.succ ?_, ?_⟩
        · simp only [slices_IndexFunc_Limpl_QueryStep_impl_QueryStep_at_impl_ValidQuery_1.l0, if_pos (ilt hi), if_pos (i0 i), rd_T125, Int.toNat_natCast, impl_ValidQuery_1.f, iTest_eq, Option.bind_some, e', Bool.not_false, if_true]
          exact Ev.now _
        · rw [drop_all l tstS i z125 hi, show tstS (l.getD i z125) = false from e', Bool.false_and]
          simp
  obtain ⟨r, hr, he⟩ := loop 0 (by omega)
  unfold impl_ValidQuery.f impl_size_impl_QueryStep.f okQ
  simp only [Option.bind_some, within_eq]
  by_cases h : 1 ≤ (l.length : Int) ∧ (l.length : Int) ≤ 6
  · simp only [decide_eq_true h, if_true, Bool.and_true]
    rw [List.drop_zero] at he
    rw [he]
    unfold slices_ContainsFunc_Limpl_QueryStep_impl_QueryStep_at_impl_ValidQuery_1.f slices_IndexFunc_Limpl_QueryStep_impl_QueryStep_at_impl_ValidQuery_1.f
    exact Ev.bind (Ev.bind hr (Ev.now _)) (Ev.now _)
  · simp only [decide_eq_false h, Bool.false_eq_true, if_false, Bool.and_false]
    exact Ev.now _
end Go.Proofs.Ytndlepcfbbfegaa.Br
namespace Go.Proofs.Ytndlepcfbbfegaa.Br
open Go.RowKit Go.Proofs.Ytndlepcfbbfegaa.P Go.Proofs.YtndlepcfbbfegaaW.PrintWords Go.Proofs.YtndlepcfbbfegaaW.PrintLast Go.Proofs.YtndlepcfbbfegaaW.PrintMore Go.Proofs.Ytndlepcfbbfegaa.Th
set_option linter.unusedVariables false
set_option linter.unusedSimpArgs false
def stepTxt (x : S125) : ByteArray := if x.f0 = true then (⟨#[47]⟩ : ByteArray) ++ ((⟨#[47]⟩ : ByteArray) ++ x.f1) else (⟨#[47]⟩ : ByteArray) ++ x.f1
def txtQ : List S125 → ByteArray
  | [] => ⟨#[]⟩
  | x :: r => stepTxt x ++ txtQ r
theorem txt_drop (l : List S125) (i : Nat) (h : i < l.length) : txtQ (l.drop i) = stepTxt (l.getD i z125) ++ txtQ (l.drop (i + 1)) := by
  rw [List.drop_eq_getElem_cons h, txtQ, List.getD_eq_getElem?_getD, List.getElem?_eq_getElem h]
  rfl
theorem one47 : (⟨#[47]⟩ : ByteArray).size = 1 := rfl
theorem app_nil (a : ByteArray) : a ++ (⟨#[]⟩ : ByteArray) = a := ByteArray.append_empty
theorem specText_ev (l : List S125) (hl : l.length ≤ 1048576) (hs : ∀ x ∈ l, x.f1.size ≤ 1048576) : Ev (fun k => spec_l05Text.f k l) (txtQ l) := by
  have loop : ∀ i, i ≤ l.length → ∀ o : ByteArray, o.size ≤ 1048578 * i → Ev (fun k => spec_l05Text.l0 k o i l) (o ++ txtQ (l.drop i)) := by
    refine down l.length ?_ ?_
    · intro o _
      refine Ev.succ ?_
      simp only [spec_l05Text.l0, if_neg inlt, drop_end, txtQ, app_nil]
      exact Ev.now _
    · intro i hi ih o ho
      have hm := hs _ (getD_mem l i z125 hi)
      refine Ev.succ ?_
      rw [txt_drop l i hi]
      simp only [spec_l05Text.l0, if_pos (ilt hi), if_pos (i0 i), rd_T125, Int.toNat_natCast, up1 i (by omega), if_pos (show o.size + 1 ≤ 9223372036854775807 by omega)]
      unfold stepTxt
      by_cases e : (l.getD i z125).f0 = true
      · simp only [if_pos e, if_pos (show (o ++ (⟨#[47]⟩ : ByteArray)).size + 1 ≤ 9223372036854775807 by rw [ByteArray.size_append, one47]; omega), if_pos (show ((o ++ (⟨#[47]⟩ : ByteArray)) ++ (⟨#[47]⟩ : ByteArray)).size + (l.getD i z125).f1.size ≤ 9223372036854775807 by rw [ByteArray.size_append, ByteArray.size_append, one47]; omega)]
        have := ih (((o ++ (⟨#[47]⟩ : ByteArray)) ++ (⟨#[47]⟩ : ByteArray)) ++ (l.getD i z125).f1) (by rw [ByteArray.size_append, ByteArray.size_append, ByteArray.size_append, one47]; omega)
        simp only [ByteArray.append_assoc] at this ⊢
        exact this
      · simp only [if_neg e, if_pos (show (o ++ (⟨#[47]⟩ : ByteArray)).size + (l.getD i z125).f1.size ≤ 9223372036854775807 by rw [ByteArray.size_append, one47]; omega)]
        have := ih ((o ++ (⟨#[47]⟩ : ByteArray)) ++ (l.getD i z125).f1) (by rw [ByteArray.size_append, ByteArray.size_append, one47]; omega)
        simp only [ByteArray.append_assoc] at this ⊢
        exact this
  have := loop 0 (by omega) (⟨#[]⟩ : ByteArray) (by show (0 : Nat) ≤ _; omega)
  rw [List.drop_zero, show (⟨#[]⟩ : ByteArray) ++ txtQ l = txtQ l from ByteArray.empty_append] at this
  exact this
def textQ (l : List S125) : ByteArray := if okQ l = true then txtQ l else ⟨#[]⟩
theorem specQText_ev (l : List S125) (hl : l.length ≤ 1048576) (hs : ∀ x ∈ l, x.f1.size ≤ 1048576) : Ev (fun k => spec_QueryText.f k l) (textQ l) := by
  unfold spec_QueryText.f textQ
  refine Ev.bind (specOkQ_ev l hl) ?_
  by_cases h : okQ l = true
  · simp only [if_pos h]
    exact Ev.bind (specText_ev l hl hs) (Ev.now _)
  · simp only [if_neg h]
    exact Ev.now _
theorem implQText_ev (l : List S125) (hl : l.length ≤ 1048576) (hs : ∀ x ∈ l, x.f1.size ≤ 1048576) : Ev (fun k => impl_QueryText.f k l) (textQ l) := by
  have loop : ∀ i, i ≤ l.length → ∀ o : ByteArray, o.size ≤ 1048578 * i → Ev (fun k => impl_QueryText.l0 k o l (l.length : Int) i) (o ++ txtQ (l.drop i)) := by
    refine down l.length ?_ ?_
    · intro o _
      refine Ev.succ ?_
      simp only [impl_QueryText.l0, if_neg inlt, drop_end, txtQ, app_nil]
      exact Ev.now _
    · intro i hi ih o ho
      have hm := hs _ (getD_mem l i z125 hi)
      refine Ev.succ ?_
      rw [txt_drop l i hi]
      simp only [impl_QueryText.l0, if_pos (ilt hi), if_pos (i0 i), rd_T125, Int.toNat_natCast, up1 i (by omega), if_pos (show o.size + 1 ≤ 9223372036854775807 by omega), if_pos (show 1 + (l.getD i z125).f1.size ≤ 9223372036854775807 by omega)]
      unfold stepTxt
      by_cases e : (l.getD i z125).f0 = true
      · simp only [if_pos e, if_pos (show (o ++ (⟨#[47]⟩ : ByteArray)).size + ((⟨#[47]⟩ : ByteArray) ++ (l.getD i z125).f1).size ≤ 9223372036854775807 by rw [ByteArray.size_append, ByteArray.size_append, one47]; omega)]
        have := ih ((o ++ (⟨#[47]⟩ : ByteArray)) ++ ((⟨#[47]⟩ : ByteArray) ++ (l.getD i z125).f1)) (by rw [ByteArray.size_append, ByteArray.size_append, ByteArray.size_append, one47]; omega)
        simp only [ByteArray.append_assoc] at this ⊢
        exact this
      · simp only [if_neg e, if_pos (show o.size + ((⟨#[47]⟩ : ByteArray) ++ (l.getD i z125).f1).size ≤ 9223372036854775807 by rw [ByteArray.size_append, one47]; omega)]
        have := ih (o ++ ((⟨#[47]⟩ : ByteArray) ++ (l.getD i z125).f1)) (by rw [ByteArray.size_append, ByteArray.size_append, one47]; omega)
        simp only [ByteArray.append_assoc] at this ⊢
        exact this
  unfold impl_QueryText.f textQ
  refine Ev.bind (implValidQ_ev l hl) ?_
  by_cases h : okQ l = true
  · simp only [if_pos h]
    have := loop 0 (by omega) (⟨#[]⟩ : ByteArray) (by show (0 : Nat) ≤ _; omega)
    rw [List.drop_zero, show (⟨#[]⟩ : ByteArray) ++ txtQ l = txtQ l from ByteArray.empty_append] at this
    exact this
  · simp only [if_neg h]
    exact Ev.now _
theorem toQ_sizes (l : List S167) (h : ∀ x ∈ l, (x.f1.size : Int) ≤ 1048576) : ∀ x ∈ toQ l, x.f1.size ≤ 1048576 := by
  intro x hx
  unfold toQ at hx
  obtain ⟨y, hy, rfl⟩ := List.mem_map.1 hx
  have := h y hy
  show y.f1.size ≤ 1048576
  omega
end Go.Proofs.Ytndlepcfbbfegaa.Br
