/- What the law FnExactMatchedAt leans on: plain facts, and what the printed functions that it reaches come to; for all arguments that the facts name. -/
import Derived.Test.YthhmkkclmopkhaaPx0
import Derived.Test.YthhmkkclmopkhaaPx9
import Derived.Test.YthhmkkclmopkhaaPx12
import Derived.Test.YthhmkkclmopkhaaPx13
import Derived.Test.YthhmkkclmopkhaaPx25
import Derived.Test.YthhmkkclmopkhaaPx26
import Derived.Test.YthhmkkclmopkhaaPx27
import Derived.Test.YthhmkkclmopkhaaPx28
import Derived.Test.YthhmkkclmopkhaaPx29
import Derived.Test.YthhmkkclmopkhaaPx36
import Derived.Test.YthhmkkclmopkhaaPx37
import Derived.Test.YthhmkkclmopkhaaPx48
import Derived.Test.YthhmkkclmopkhaaPx49
import Derived.Test.YthhmkkclmopkhaaPx50
import Derived.Test.YthhmkkclmopkhaaPx51
namespace Go.Proofs.Ythhmkkclmopkhaa.Th

def isC (b : Int) : Bool := b == 40 || b == 91
def isR (b : Int) : Bool := b == 41 || b == 93

def g (l : List Int) (j : Nat) : Int := l.getD j 0

end Go.Proofs.Ythhmkkclmopkhaa.Th
namespace Go.Proofs.Ythhmkkclmopkhaa.Br
open Go.RowKit Go.Proofs.Ythhmkkclmopkhaa.P Go.Proofs.YthhmkkclmopkhaaW.PrintWords Go.Proofs.YthhmkkclmopkhaaW.PrintLast Go.Proofs.YthhmkkclmopkhaaW.PrintMore Go.Proofs.Ythhmkkclmopkhaa.Th
set_option linter.unusedVariables false
set_option linter.unusedSimpArgs false
theorem Ev.succ {α : Type} {g : Nat → Option α} {r : α} (h : Ev (fun k => g (k + 1)) r) : Ev g r := by
  obtain ⟨K, hK⟩ := h
  refine ⟨K + 1, fun k hk => ?_⟩
  obtain ⟨m, rfl⟩ : ∃ m, k = m + 1 := ⟨k - 1, by omega⟩
  exact hK m (by omega)
theorem w64 {x : Int} (h0 : -9223372036854775808 ≤ x) (h1 : x ≤ 9223372036854775807) : wrap64 x = x := by unfold wrap64; omega

end Go.Proofs.Ythhmkkclmopkhaa.Br
namespace Go.Proofs.Ythhmkkclmopkhaa.Br
open Go.RowKit Go.Proofs.Ythhmkkclmopkhaa.P Go.Proofs.YthhmkkclmopkhaaW.PrintWords Go.Proofs.YthhmkkclmopkhaaW.PrintLast Go.Proofs.YthhmkkclmopkhaaW.PrintMore Go.Proofs.Ythhmkkclmopkhaa.Th
set_option linter.unusedVariables false
set_option linter.unusedSimpArgs false
theorem isReturn_eq (b : Int) : impl_isReturn.f b = some (isR b) := by
  unfold impl_isReturn.f isR
  by_cases h : b = 41 <;> simp [h]
theorem isCall_eq (b : Int) : impl_isCall.f b = some (isC b) := by
  unfold impl_isCall.f isC
  by_cases h : b = 40 <;> simp [h]
theorem sReturn_eq (b : Int) : spec_l01Return.f b = some (isR b) := by
  unfold spec_l01Return.f isR
  by_cases h : b = 41 <;> simp [h]
theorem sCall_eq (b : Int) : spec_l01Call.f b = some (isC b) := by
  unfold spec_l01Call.f isC
  by_cases h : b = 40 <;> simp [h]

end Go.Proofs.Ythhmkkclmopkhaa.Br
namespace Go.Proofs.Ythhmkkclmopkhaa.Br
open Go.RowKit Go.Proofs.Ythhmkkclmopkhaa.P Go.Proofs.YthhmkkclmopkhaaW.PrintWords Go.Proofs.YthhmkkclmopkhaaW.PrintLast Go.Proofs.YthhmkkclmopkhaaW.PrintMore Go.Proofs.Ythhmkkclmopkhaa.Th
set_option linter.unusedVariables false
set_option linter.unusedSimpArgs false
theorem in_eq (a lo hi : Int) : spec_l00In.f a lo hi = some (decide (lo ≤ a ∧ a ≤ hi)) := by
  unfold spec_l00In.f
  by_cases h : a ≥ lo
  · rw [if_pos h]; congr 1; simp; omega
  · rw [if_neg h]; congr 1; simp; omega
theorem within_eq (a lo hi : Int) : impl_within.f a lo hi = some (decide (lo ≤ a ∧ a ≤ hi)) := by
  unfold impl_within.f
  by_cases h : a ≥ lo
  · rw [if_pos h]; congr 1; simp; omega
  · rw [if_neg h]; congr 1; simp; omega

end Go.Proofs.Ythhmkkclmopkhaa.Br
namespace Go.Proofs.Ythhmkkclmopkhaa.Br
open Go.RowKit Go.Proofs.Ythhmkkclmopkhaa.P Go.Proofs.YthhmkkclmopkhaaW.PrintWords Go.Proofs.YthhmkkclmopkhaaW.PrintLast Go.Proofs.YthhmkkclmopkhaaW.PrintMore Go.Proofs.Ythhmkkclmopkhaa.Th
set_option linter.unusedVariables false
set_option linter.unusedSimpArgs false
theorem down {P : Nat → Prop} (n : Nat) (h0 : P n) (h1 : ∀ i, i < n → P (i + 1) → P i) : ∀ i, i ≤ n → P i := by
  have key : ∀ d i, i + d = n → P i := by
    intro d
    induction d with
    | zero => intro i hi; obtain rfl : i = n := by omega
              exact h0
    | succ d ih => intro i hi; exact h1 i (by omega) (ih (i + 1) (by omega))
  intro i hi
  exact key (n - i) i (by omega)
theorem up1 (i : Nat) (h : i < 9223372036854775807) : wrap64 ((i : Int) + 1) = ((i + 1 : Nat) : Int) := by
  rw [w64 (by omega) (by omega)]; rfl
theorem i0 (i : Nat) : 0 ≤ (i : Int) := by omega
end Go.Proofs.Ythhmkkclmopkhaa.Br
namespace Go.Proofs.Ythhmkkclmopkhaa.Br
open Go.RowKit Go.Proofs.Ythhmkkclmopkhaa.P Go.Proofs.YthhmkkclmopkhaaW.PrintWords Go.Proofs.YthhmkkclmopkhaaW.PrintLast Go.Proofs.YthhmkkclmopkhaaW.PrintMore Go.Proofs.Ythhmkkclmopkhaa.Th
set_option linter.unusedVariables false
set_option linter.unusedSimpArgs false
/-- How many words of n symbols close d open calls, for depths up to L. -/
def wy (L : Nat) : Nat → Nat → Int
  | 0, d => if d = 0 then 1 else 0
  | n + 1, d => if d ≤ L then 2 * wy L n d + 2 * wy L n (d + 1) + (if d = 0 then 0 else 2 * wy L n (d - 1)) else 0
theorem wy_range (L : Nat) : ∀ n d, 0 ≤ wy L n d ∧ wy L n d ≤ 6 ^ n
  | 0, d => by unfold wy; split <;> simp
  | n + 1, d => by
    have h0 := wy_range L n d
    have h1 := wy_range L n (d + 1)
    have h2 := wy_range L n (d - 1)
    have e : (6 : Int) ^ (n + 1) = 6 * 6 ^ n := by rw [Int.pow_succ]; omega
    rw [e]
    unfold wy
    generalize (6 : Int) ^ n = B at *
    split
    · split <;> omega
    · omega
theorem pow_le (n : Nat) (h : n ≤ 20) : (6 : Int) ^ n ≤ 3656158440062976 := by
  have h1 : (6 : Nat) ^ n ≤ 6 ^ 20 := Nat.pow_le_pow_right (by decide) h
  have h2 : (6 : Nat) ^ 20 = 3656158440062976 := by decide
  have h3 : ((6 ^ n : Nat) : Int) = (6 : Int) ^ n := by push_cast; rfl
  omega
theorem wy_small (L n d : Nat) (h : n ≤ 20) : 0 ≤ wy L n d ∧ wy L n d ≤ 3656158440062976 := by
  have := wy_range L n d
  have := pow_le n h
  omega
def rowW (L n : Nat) : List Int := (List.range (L + 2)).map (wy L n)
def prow (L n d : Nat) : List Int := (List.range (L + 2)).map (fun e => if e < d then wy L n e else 0)
def tab (L m : Nat) : List (List Int) := (List.range m).map (rowW L)
theorem rowW_len (L n : Nat) : (rowW L n).length = L + 2 := by simp [rowW]
theorem prow_len (L n d : Nat) : (prow L n d).length = L + 2 := by simp [prow]
theorem tab_len (L m : Nat) : (tab L m).length = m := by simp [tab]
theorem rd_range (f : Nat → Int) (N d : Nat) (h : d < N) : rd ((List.range N).map f) d = f d := by
  unfold rd
  rw [Int.toNat_natCast, List.getD_eq_getElem?_getD, List.getElem?_map, List.getElem?_range h]
  rfl
theorem rdL_tab (L m n : Nat) (h : n < m) : rd_L1 (tab L m) n = rowW L n := by
  unfold rd_L1 tab
  rw [Int.toNat_natCast, List.getD_eq_getElem?_getD, List.getElem?_map, List.getElem?_range h]
  rfl
theorem prow_zero (L n : Nat) : prow L n 0 = List.replicate (L + 2) 0 := by
  unfold prow
  apply List.ext_getElem
  · simp
  · intro i h1 h2; simp
theorem prow_set (L n d : Nat) (h : d ≤ L) : (prow L n d).set d (wy L n d) = prow L n (d + 1) := by
  unfold prow
  apply List.ext_getElem
  · simp
  · intro i h1 h2
    rw [List.getElem_set]
    simp only [List.getElem_map, List.getElem_range]
    by_cases e : d = i
    · subst e; simp
    · rw [if_neg e]
      by_cases e2 : i < d
      · rw [if_pos e2, if_pos (by omega)]
      · rw [if_neg e2, if_neg (by omega)]
theorem prow_all (L n : Nat) (hn : 1 ≤ n) : prow L n (L + 1) = rowW L n := by
  unfold prow rowW
  apply List.ext_getElem
  · simp
  · intro i h1 h2
    simp only [List.getElem_map, List.getElem_range]
    by_cases e : i < L + 1
    · rw [if_pos e]
    · rw [if_neg e]
      obtain ⟨m, rfl⟩ : ∃ m, n = m + 1 := ⟨n - 1, by omega⟩
      unfold wy
      rw [if_neg (by omega)]
theorem row_first (L : Nat) : (List.replicate (L + 2) (0 : Int)).set 0 1 = rowW L 0 := by
  unfold rowW
  apply List.ext_getElem
  · simp
  · intro i h1 h2
    rw [List.getElem_set]
    simp only [List.getElem_map, List.getElem_range, List.getElem_replicate]
    unfold wy
    by_cases e : i = 0
    · subst e; simp
    · rw [if_neg (fun h => e h.symm), if_neg e]
theorem tab_succ (L m : Nat) : tab L (m + 1) = tab L m ++ [rowW L m] := by
  unfold tab
  rw [List.range_succ, List.map_append]
  rfl

theorem ways_l1 (L : Nat) (hL : L ≤ 20) (n : Nat) (hn : n + 1 ≤ L) (R : List (List Int)) (hR : Ev (fun k => spec_l01Ways.l0 k L (tab L (n + 2)) ((n + 2 : Nat) : Int)) R) :
    ∀ d, d ≤ L + 1 → Ev (fun k => spec_l01Ways.l1 k L (tab L (n + 1)) ((n + 1 : Nat) : Int) (prow L (n + 1) d) d) R := by
  have hw : ∀ d, 0 ≤ wy L n d ∧ wy L n d ≤ 3656158440062976 := fun d => wy_small L n d (by omega)
  have b0 : ((n + 1 : Nat) : Int) > 0 := by omega
  have b1 : (n : Int) < ((tab L (n + 1)).length : Int) := by rw [tab_len]; omega
  have b2 : (tab L (n + 1)).length < 5864062014805 := by rw [tab_len]; omega
  have b3 : ¬ ((L + 1 : Nat) : Int) ≤ (L : Int) := by omega
  have hall := prow_all L (n + 1) (by omega)
  have b4 : n < n + 1 := by omega
  have f1 : wrap64 (((n + 1 : Nat) : Int) - 1) = (n : Int) := by rw [w64 (by omega) (by omega)]; push_cast; omega
  have f2 : wrap64 (((n + 1 : Nat) : Int) + 1) = ((n + 2 : Nat) : Int) := by rw [w64 (by omega) (by omega)]; push_cast; omega
  refine down (L + 1) ?_ ?_
  · refine Ev.succ ?_
    simp only [spec_l01Ways.l1, if_pos b0, decide_eq_false b3]
    refine Ev.succ ?_
    simp only [spec_l01Ways.j3, Bool.false_eq_true, if_false, if_pos b2, f2]
    rw [hall, ← tab_succ]
    exact hR
  · intro d hd ih
    have q0 := hw d
    have q1 := hw (d + 1)
    have q2 := hw (d - 1)
    have hdL : d ≤ L := by clear f1 f2; omega
    have c0 : (d : Int) ≤ (L : Int) := by clear f1 f2; omega
    have c1 : d < L + 2 := by clear f1 f2; omega
    have c2 : d + 1 < L + 2 := by clear f1 f2; omega
    have c3 : d - 1 < L + 2 := by clear f1 f2; omega
    have e2 : rd (rowW L n) d = wy L n d := rd_range _ _ _ c1
    have e3 : rd (rowW L n) ((d + 1 : Nat) : Int) = wy L n (d + 1) := rd_range _ _ _ c2
    have e4 : rd (rowW L n) ((d - 1 : Nat) : Int) = wy L n (d - 1) := rd_range _ _ _ c3
    have g1 : (d : Int) < ((rowW L n).length : Int) := by rw [rowW_len]; exact_mod_cast c1
    have g2 : ((d + 1 : Nat) : Int) < ((rowW L n).length : Int) := by rw [rowW_len]; exact_mod_cast c2
    have g3 : (d : Int) < ((prow L (n + 1) d).length : Int) := by rw [prow_len]; exact_mod_cast c1
    have g4 : ((d - 1 : Nat) : Int) < ((rowW L n).length : Int) := by rw [rowW_len]; exact_mod_cast c3
    have e5 : ∀ v : Int, rd ((prow L (n + 1) d).set d v) d = v := by
      intro v
      unfold rd
      rw [Int.toNat_natCast, List.getD_eq_getElem?_getD, List.getElem?_set_self (by rw [prow_len]; exact c1)]
      rfl
    have ed : wy L (n + 1) d = 2 * wy L n d + 2 * wy L n (d + 1) + (if d = 0 then 0 else 2 * wy L n (d - 1)) := by
      conv => lhs; unfold wy
      rw [if_pos hdL]
    have hset := prow_set L (n + 1) d hdL
    have u1 := up1 d (by clear f1 f2; omega)
    generalize wy L n d = A at *
    generalize wy L n (d + 1) = B at *
    generalize wy L n (d - 1) = C at *
    have f3 : wrap64 (2 * A) = 2 * A := w64 (by clear f1 f2 u1; omega) (by clear f1 f2 u1; omega)
    have f4 : wrap64 (2 * B) = 2 * B := w64 (by clear f1 f2 u1 f3; omega) (by clear f1 f2 u1 f3; omega)
    have f5 : wrap64 (2 * A + 2 * B) = 2 * A + 2 * B := w64 (by clear f1 f2 u1 f3 f4; omega) (by clear f1 f2 u1 f3 f4; omega)
    have f7 : wrap64 (2 * C) = 2 * C := w64 (by clear f1 f2 u1 f3 f4 f5; omega) (by clear f1 f2 u1 f3 f4 f5; omega)
    have f8 : wrap64 (2 * A + 2 * B + 2 * C) = 2 * A + 2 * B + 2 * C := w64 (by clear f1 f2 u1 f3 f4 f5 f7; omega) (by clear f1 f2 u1 f3 f4 f5 f7; omega)
    refine Ev.succ ?_
    simp only [spec_l01Ways.l1, if_pos b0, decide_eq_true c0]
    refine Ev.succ ?_
    simp only [spec_l01Ways.j3, if_true, f1, if_pos (i0 n), if_pos b1, if_pos (i0 d), rdL_tab L (n + 1) n b4, if_pos g1, u1, if_pos (i0 (d + 1)), if_pos g2, if_pos g3, e2, e3, f3, f4, f5, Option.bind_some, Int.toNat_natCast]
    by_cases d0 : d = 0
    · subst d0
      rw [if_pos rfl, Int.add_zero] at ed
      simp only [Int.natCast_zero, show ¬ ((0 : Int) > 0) by decide, if_false]
      rw [ed] at hset
      rw [hset]
      exact ih
    · rw [if_neg d0] at ed
      have h1 : (d : Int) > 0 := by clear f1 f2 u1 f3 f4 f5 f7 f8; omega
      have f6 : wrap64 ((d : Int) - 1) = ((d - 1 : Nat) : Int) := by clear f1 f2 u1 f3 f4 f5 f7 f8; rw [w64 (by omega) (by omega)]; omega
      simp only [if_pos h1, f6, if_pos (i0 (d - 1)), if_pos g4, e4, f7, e5, f8, List.set_set]
      rw [ed] at hset
      rw [hset]
      exact ih
theorem ways_ev (L : Nat) (hL : L ≤ 20) : Ev (fun k => spec_l01Ways.f k L) (tab L (L + 1)) := by
  have f0 : wrap64 ((L : Int) + 2) = ((L + 2 : Nat) : Int) := by rw [w64 (by omega) (by omega)]; push_cast; rfl
  have loop : ∀ n, n ≤ L + 1 → Ev (fun k => spec_l01Ways.l0 k L (tab L n) n) (tab L (L + 1)) := by
    refine down (L + 1) ?_ ?_
    · refine Ev.succ ?_
      simp only [spec_l01Ways.l0, if_neg (show ¬ ((L + 1 : Nat) : Int) ≤ (L : Int) by omega)]
      exact Ev.now _
    · intro n hn ih
      refine Ev.succ ?_
      simp only [spec_l01Ways.l0, if_pos (show (n : Int) ≤ (L : Int) by omega), f0, if_pos (i0 (L + 2)), Int.toNat_natCast, if_pos (show L + 2 ≤ 35184372088832 by omega), Option.bind_some]
      by_cases n0 : n = 0
      · subst n0
        simp only [Int.natCast_zero, if_true, List.length_replicate, if_pos (show (0 : Int) < ((L + 2 : Nat) : Int) by omega), Int.toNat_zero]
        rw [row_first]
        refine Ev.succ ?_
        simp only [spec_l01Ways.j1]
        refine Ev.succ ?_
        simp only [spec_l01Ways.l1, show ¬ ((0 : Int) > 0) by decide, if_false]
        refine Ev.succ ?_
        have u0 : wrap64 ((0 : Int) + 1) = ((0 + 1 : Nat) : Int) := by rw [w64 (by decide) (by decide)]; rfl
        simp only [spec_l01Ways.j3, Bool.false_eq_true, if_false, if_pos (show (tab L 0).length < 5864062014805 by rw [tab_len]; omega), u0]
        rw [← tab_succ]
        exact ih
      · obtain ⟨m, rfl⟩ : ∃ m, n = m + 1 := ⟨n - 1, by omega⟩
        simp only [if_neg (show ¬ ((m + 1 : Nat) : Int) = 0 by omega)]
        refine Ev.succ ?_
        simp only [spec_l01Ways.j1]
        have := ways_l1 L hL m (by omega) _ ih 0 (by omega)
        rw [prow_zero] at this
        exact this
  unfold spec_l01Ways.f
  exact loop 0 (by omega)

/-- The depth behind a symbol, -1 if there is none. -/
def nx (d : Nat) (c : Int) : Int := if isC c = true then (d : Int) + 1 else if isR c = true then (d : Int) - 1 else d
/-- What the words with a symbol next are in number. -/
def ow (L n d : Nat) (x : Nat) : Int := if nx d (bt (⟨#[40, 91, 41, 93, 97, 98]⟩ : ByteArray) x) < 0 then 0 else wy L n (nx d (bt (⟨#[40, 91, 41, 93, 97, 98]⟩ : ByteArray) x)).toNat
def rem (L n d : Nat) : Nat → Int
  | 0 => 0
  | m + 1 => ow L n d (5 - m) + rem L n d m
theorem rem_all (L n d : Nat) (h : d ≤ L) : wy L (n + 1) d = rem L n d 6 := by
  have s0 : bt (⟨#[40, 91, 41, 93, 97, 98]⟩ : ByteArray) ((0 : Nat) : Int) = 40 := by decide
  have s1 : bt (⟨#[40, 91, 41, 93, 97, 98]⟩ : ByteArray) ((1 : Nat) : Int) = 91 := by decide
  have s2 : bt (⟨#[40, 91, 41, 93, 97, 98]⟩ : ByteArray) ((2 : Nat) : Int) = 41 := by decide
  have s3 : bt (⟨#[40, 91, 41, 93, 97, 98]⟩ : ByteArray) ((3 : Nat) : Int) = 93 := by decide
  have s4 : bt (⟨#[40, 91, 41, 93, 97, 98]⟩ : ByteArray) ((4 : Nat) : Int) = 97 := by decide
  have s5 : bt (⟨#[40, 91, 41, 93, 97, 98]⟩ : ByteArray) ((5 : Nat) : Int) = 98 := by decide
  have o0 : ow L n d 0 = wy L n (d + 1) := by
    unfold ow; rw [s0, show nx d 40 = (d : Int) + 1 from rfl, if_neg (by omega)]; congr 1
  have o1 : ow L n d 1 = wy L n (d + 1) := by
    unfold ow; rw [s1, show nx d 91 = (d : Int) + 1 from rfl, if_neg (by omega)]; congr 1
  have o2 : ow L n d 2 = if d = 0 then 0 else wy L n (d - 1) := by
    unfold ow; rw [s2, show nx d 41 = (d : Int) - 1 from rfl]
    by_cases h0 : d = 0
    · rw [if_pos h0, if_pos (by omega)]
    · rw [if_neg h0, if_neg (by omega)]; congr 1; omega
  have o3 : ow L n d 3 = if d = 0 then 0 else wy L n (d - 1) := by
    unfold ow; rw [s3, show nx d 93 = (d : Int) - 1 from rfl]
    by_cases h0 : d = 0
    · rw [if_pos h0, if_pos (by omega)]
    · rw [if_neg h0, if_neg (by omega)]; congr 1; omega
  have o4 : ow L n d 4 = wy L n d := by
    unfold ow; rw [s4, show nx d 97 = (d : Int) from rfl, if_neg (by omega)]; congr 1
  have o5 : ow L n d 5 = wy L n d := by
    unfold ow; rw [s5, show nx d 98 = (d : Int) from rfl, if_neg (by omega)]; congr 1
  simp only [rem, Nat.reduceSub, o0, o1, o2, o3, o4, o5]
  conv => lhs; unfold wy
  rw [if_pos h]
  by_cases h0 : d = 0
  · simp only [if_pos h0]; omega
  · simp only [if_neg h0]; omega
end Go.Proofs.Ythhmkkclmopkhaa.Br
namespace Go.Proofs.Ythhmkkclmopkhaa.Br
open Go.RowKit Go.Proofs.Ythhmkkclmopkhaa.P Go.Proofs.YthhmkkclmopkhaaW.PrintWords Go.Proofs.YthhmkkclmopkhaaW.PrintLast Go.Proofs.YthhmkkclmopkhaaW.PrintMore Go.Proofs.Ythhmkkclmopkhaa.Th
set_option linter.unusedVariables false
set_option linter.unusedSimpArgs false
theorem tw_out : ∀ n d, n < d → tw n d = 0
  | 0, d, h => by unfold tw; rw [if_neg (by omega)]
  | n + 1, d, h => by
    unfold tw
    rw [tw_out n (d + 1) (by omega), tw_out n d (by omega), if_neg (by omega), tw_out n (d - 1) (by omega)]
    rfl
theorem wy_tw (L : Nat) : ∀ n d, n ≤ L → wy L n d = tw n d
  | 0, d, _ => by unfold wy tw; rfl
  | n + 1, d, h => by
    by_cases hd : d ≤ L
    · unfold wy tw
      rw [if_pos hd, wy_tw L n d (by omega), wy_tw L n (d + 1) (by omega), wy_tw L n (d - 1) (by omega)]
      omega
    · rw [tw_out (n + 1) d (by omega)]
      unfold wy
      rw [if_neg hd]
/-- The depth behind a symbol, whatever the depth. -/
def nxI (d : Int) (c : Int) : Int := if isC c = true then d + 1 else if isR c = true then d - 1 else d
theorem nxI_near (d c : Int) : d - 1 ≤ nxI d c ∧ nxI d c ≤ d + 1 := by
  unfold nxI
  split
  · omega
  · split <;> omega
theorem nextI_eq (d : Int) (h0 : -100 ≤ d) (h1 : d ≤ 100) (c : Int) : spec_l01Next.f d c = some (nxI d c) := by
  have f1 : wrap64 (d + 1) = d + 1 := w64 (by omega) (by omega)
  have f2 : wrap64 (d - 1) = d - 1 := w64 (by omega) (by omega)
  unfold spec_l01Next.f nxI
  simp only [sCall_eq, sReturn_eq, Option.bind_some, f1, f2]
  split
  · rfl
  · split <;> rfl
theorem behind_eq (d : Int) (h0 : -100 ≤ d) (h1 : d ≤ 100) (c : Int) : impl_depthBehind.f d c = some (nxI d c) := by
  have f1 : wrap64 (d + 1) = d + 1 := w64 (by omega) (by omega)
  have f2 : wrap64 (d - 1) = d - 1 := w64 (by omega) (by omega)
  unfold impl_depthBehind.f nxI
  simp only [isCall_eq, isReturn_eq, Option.bind_some, f1, f2]
  split
  · rfl
  · split <;> rfl
/-- What the words of n symbols with e open calls are in number; none if e is no depth. -/
def own (L n : Nat) (e : Int) : Int := if e < 0 then 0 else wy L n e.toNat
theorem own_range (L n : Nat) (h : n ≤ 20) (e : Int) : 0 ≤ own L n e ∧ own L n e ≤ 3656158440062976 := by
  unfold own
  split
  · omega
  · exact wy_small L n _ h
theorem ways_eq (L n : Nat) (b : Bool) (e : Int) (hn : n ≤ L) (he : (n : Int) + e ≤ 20) : impl_ways.f b n e = some (own L n e) := by
  unfold impl_ways.f waysF own
  by_cases h : e < 0
  · rw [if_pos h, if_pos h]
  · rw [if_neg h, if_neg h]
    obtain ⟨d, rfl⟩ := Int.eq_ofNat_of_zero_le (show 0 ≤ e by omega)
    rw [Int.toNat_natCast, Int.toNat_natCast, wy_tw L n d hn]
    by_cases h2 : (n : Int) < (d : Int)
    · rw [if_pos h2, tw_out n d (by omega)]
    · rw [if_neg h2, if_pos he]
theorem own_cell (L n : Nat) (e : Int) (h0 : ¬ e < 0) (h1 : e ≤ (L : Int) + 1) (hn : n ≤ L) : rd (rd_L1 (tab L (L + 1)) n) e = own L n e ∧ e < ((rd_L1 (tab L (L + 1)) n).length : Int) := by
  obtain ⟨d, rfl⟩ := Int.eq_ofNat_of_zero_le (show 0 ≤ e by omega)
  rw [rdL_tab L (L + 1) n (by omega), rowW_len]
  refine ⟨?_, by omega⟩
  unfold own
  rw [if_neg h0, Int.toNat_natCast]
  exact rd_range _ _ _ (by omega)
abbrev sy : ByteArray := ⟨#[40, 91, 41, 93, 97, 98]⟩
/-- What is left from symbol x on. -/
def remI (L n : Nat) (d : Int) : Nat → Int
  | 0 => 0
  | m + 1 => own L n (nxI d (bt sy ((5 - m : Nat) : Int))) + remI L n d m
theorem remI_step (L n : Nat) (d : Int) (x : Nat) (h : x < 6) : remI L n d (6 - x) = own L n (nxI d (bt sy x)) + remI L n d (6 - (x + 1)) := by
  obtain ⟨m, hm⟩ : ∃ m, 6 - x = m + 1 := ⟨5 - x, by omega⟩
  rw [hm, show 6 - (x + 1) = m by omega, remI, show 5 - m = x by omega]
theorem ow_own (L n d x : Nat) : ow L n d x = own L n (nxI d (bt sy x)) := rfl
theorem remI_rem (L n d : Nat) : ∀ m, remI L n d m = rem L n d m
  | 0 => rfl
  | m + 1 => by rw [remI, rem, remI_rem L n d m, ow_own]
theorem remI_le (L n : Nat) (hn : n ≤ 20) (d : Int) : ∀ m, m ≤ 6 → remI L n d m ≤ m * 3656158440062976
  | 0, _ => by simp [remI]
  | m + 1, hm => by
    have := remI_le L n hn d m (by omega)
    have h5 := (own_range L n hn (nxI d (bt sy ((5 - m : Nat) : Int)))).2
    simp only [remI]
    push_cast
    omega
/-- Both pick the same word. -/
theorem at_both (L : Nat) (hL : L ≤ 20) (b : Bool) : ∀ n, ∀ (l : List Int) (d : Nat) (q : Int), d + n ≤ L → l.length + n = L → 0 ≤ q → q < wy L n d →
    ∃ w, Ev (fun k => spec_MatchedAt.l0 k q (tab L (L + 1)) l d n) (w, 0) ∧ Ev (fun k => impl_MatchedAt.l0 k q l d ((n : Int) - 1) b) (w, 0) := by
  intro n
  induction n with
  | zero =>
    intro l d q _ hl h0 h1
    refine ⟨strOfNums l, Ev.succ ?_, Ev.succ ?_⟩
    · simp only [spec_MatchedAt.l0, show ¬ (((0 : Nat) : Int) > 0) by decide, if_false]
      exact Ev.now _
    · simp only [impl_MatchedAt.l0, show ¬ ((((0 : Nat) : Int) - 1) ≥ 0) by decide, if_false]
      exact Ev.now _
  | succ n ih =>
    intro l d q hd hl h0 h1
    have f1 : wrap64 (((n + 1 : Nat) : Int) - 1) = (n : Int) := by rw [w64 (by omega) (by omega)]; push_cast; omega
    have f3 : wrap64 ((n : Int) - 1) = (n : Int) - 1 := w64 (by clear f1; omega) (by clear f1; omega)
    have f4 : ((n + 1 : Nat) : Int) - 1 = (n : Int) := by clear f1 f3; omega
    have t1 : (n : Int) < ((tab L (L + 1)).length : Int) := by clear f1 f3; rw [tab_len]; omega
    have t2 : l.length < 140737488355328 := by clear f1 f3; omega
    have d0 : -100 ≤ (d : Int) := by clear f1 f3; omega
    have d1 : (d : Int) ≤ 100 := by clear f1 f3; omega
    have hn20 : n ≤ 20 := by clear f1 f3; omega
    have inner : ∀ x, x ≤ 6 → ∀ q : Int, 0 ≤ q → q < remI L n d (6 - x) → ∃ w, Ev (fun k => spec_MatchedAt.l1 k q (tab L (L + 1)) l d ((n + 1 : Nat) : Int) x) (w, 0) ∧ Ev (fun k => impl_MatchedAt.l1 k q l d (n : Int) x b) (w, 0) := by
      refine down 6 ?_ ?_
      · intro q q0 q1
        simp only [Nat.sub_self, remI] at q1
        omega
      · intro x hx ihx q q0 q1
        rw [remI_step L n d x hx] at q1
        have x6 : (x : Int) < 6 := by clear f1 f3; omega
        have hx1 := up1 x (by clear f1 f3; omega)
        have hnear := nxI_near d (bt sy x)
        have hw := ways_eq L n b (nxI d (bt sy x)) (by clear f1 f3 hx1; omega) (by clear f1 f3 hx1; omega)
        have hr := own_range L n hn20 (nxI d (bt sy x))
        have hrem := remI_le L n hn20 d (6 - (x + 1)) (by clear f1 f3 hx1; omega)
        by_cases hq : q < own L n (nxI d (bt sy x))
        · have hneg : ¬ nxI d (bt sy x) < 0 := by
            intro h
            unfold own at hq
            rw [if_pos h] at hq
            clear f1 f3 hx1; omega
          obtain ⟨c1, c2⟩ := own_cell L n _ hneg (by clear f1 f3 hx1; omega) (by clear f1 f3 hx1; omega)
          obtain ⟨e, he⟩ := Int.eq_ofNat_of_zero_le (show 0 ≤ nxI d (bt sy x) by clear f1 f3 hx1; omega)
          have hq2 : q < wy L n e := by
            unfold own at hq
            rw [if_neg hneg, he, Int.toNat_natCast] at hq
            exact hq
          obtain ⟨w, r1, r2⟩ := ih (l ++ [bt sy x]) e q (by clear f1 f3 hx1; omega) (by rw [List.length_append]; simp; clear f1 f3 hx1; omega) q0 hq2
          rw [← he] at r1 r2
          have hge : 0 ≤ nxI d (bt sy x) := by clear f1 f3 hx1; omega
          refine ⟨w, Ev.succ ?_, Ev.succ ?_⟩
          · simp only [spec_MatchedAt.l1, if_pos x6, if_pos (i0 x), nextI_eq d d0 d1, Option.bind_some, if_neg hneg, f1, if_pos (i0 n), if_pos t1, if_pos hge, if_pos c2, c1, if_pos hq, if_pos t2]
            exact r1
          · simp only [impl_MatchedAt.l1, if_pos x6, if_pos (i0 x), behind_eq d d0 d1, Option.bind_some, hw, if_neg (show ¬ q ≥ own L n (nxI d (bt sy x)) by clear f1 f3 hx1; omega), if_pos t2, f3]
            exact r2
        · have f2 : wrap64 (q - own L n (nxI d (bt sy x))) = q - own L n (nxI d (bt sy x)) := by clear f1 f3 hx1; exact w64 (by omega) (by omega)
          obtain ⟨w, r1, r2⟩ := ihx (q - own L n (nxI d (bt sy x))) (by clear f1 f3 hx1 f2; omega) (by clear f1 f3 hx1 f2; omega)
          refine ⟨w, Ev.succ ?_, Ev.succ ?_⟩
          · by_cases hneg : nxI d (bt sy x) < 0
            · have o0 : own L n (nxI d (bt sy x)) = 0 := by unfold own; rw [if_pos hneg]
              rw [o0, Int.sub_zero] at r1
              simp only [spec_MatchedAt.l1, if_pos x6, if_pos (i0 x), nextI_eq d d0 d1, Option.bind_some, if_pos hneg, hx1]
              exact r1
            · obtain ⟨c1, c2⟩ := own_cell L n _ hneg (by clear f1 f3 hx1 f2; omega) (by clear f1 f3 hx1 f2; omega)
              have hge : 0 ≤ nxI d (bt sy x) := by clear f1 f3 hx1 f2; omega
              simp only [spec_MatchedAt.l1, if_pos x6, if_pos (i0 x), nextI_eq d d0 d1, Option.bind_some, if_neg hneg, f1, if_pos (i0 n), if_pos t1, if_pos hge, if_pos c2, c1, if_neg hq, f2, hx1]
              exact r1
          · simp only [impl_MatchedAt.l1, if_pos x6, if_pos (i0 x), behind_eq d d0 d1, Option.bind_some, hw, if_pos (show q ≥ own L n (nxI d (bt sy x)) by clear f1 f3 hx1 f2; omega), f2, hx1]
            exact r2
    rw [rem_all L n d (by clear f1 f3; omega), ← remI_rem] at h1
    obtain ⟨w, r1, r2⟩ := inner 0 (by clear f1 f3; omega) q h0 h1
    refine ⟨w, Ev.succ ?_, Ev.succ ?_⟩
    · simp only [spec_MatchedAt.l0, if_pos (show ((n + 1 : Nat) : Int) > 0 by clear f1 f3; omega)]
      exact r1
    · simp only [impl_MatchedAt.l0, f4, if_pos (show (n : Int) ≥ 0 by clear f1 f3; omega)]
      exact r2
theorem iCount_eq (a : Int) : impl_CountMatched.f a = some (if 0 ≤ a ∧ a ≤ 20 then (tw a.toNat 0, 0) else (0, 2)) := by
  unfold impl_CountMatched.f
  simp only [within_eq, Option.bind_some]
  by_cases h : 0 ≤ a ∧ a ≤ 20
  · obtain ⟨L, rfl⟩ := Int.eq_ofNat_of_zero_le h.1
    simp only [decide_eq_true h, if_true, if_pos h, Int.toNat_natCast, impl_endings.f, Option.bind_some, ways_eq L L true 0 (Nat.le_refl _) (by omega)]
    have e : own L L 0 = tw L 0 := by
      unfold own
      rw [if_neg (by omega)]
      exact wy_tw L L 0 (by omega)
    rw [e]
  · simp only [decide_eq_false h, Bool.false_eq_true, if_false, if_neg h]
/-- MatchedAt, by both. -/
theorem matchedAt_both (a q : Int) : ∃ R, Ev (fun k => spec_MatchedAt.f k a q) R ∧ Ev (fun k => impl_MatchedAt.f k a q) R := by
  by_cases h : 0 ≤ a ∧ a ≤ 20
  · obtain ⟨L, rfl⟩ := Int.eq_ofNat_of_zero_le h.1
    have hL : L ≤ 20 := by omega
    obtain ⟨c1, c2⟩ := own_cell L L 0 (by omega) (by omega) (by omega)
    have e0 : own L L 0 = wy L L 0 := rfl
    have e1 : wy L L 0 = tw L 0 := wy_tw L L 0 (Nat.le_refl _)
    have hb := wy_small L L 0 hL
    have f1 : wrap64 (wy L L 0 - 1) = wy L L 0 - 1 := w64 (by omega) (by omega)
    have f5 : wrap64 ((L : Int) - 1) = (L : Int) - 1 := w64 (by clear f1; omega) (by clear f1; omega)
    have t1 : (L : Int) < ((tab L (L + 1)).length : Int) := by clear f1 f5; rw [tab_len]; omega
    by_cases hq : 0 ≤ q ∧ q ≤ wy L L 0 - 1
    · obtain ⟨w, r1, r2⟩ := at_both L hL true L [] 0 q (by clear f1 f5; omega) (by simp) hq.1 (by clear f1 f5; omega)
      refine ⟨(w, 0), ?_, ?_⟩
      · unfold spec_MatchedAt.f
        simp only [in_eq, Option.bind_some, decide_eq_true h, if_true]
        refine Ev.bind (ways_ev L hL) ?_
        simp only [if_pos (i0 L), if_pos t1, if_pos c2, c1, e0, f1, decide_eq_true hq, if_true]
        exact r1
      · unfold impl_MatchedAt.f
        simp only [iCount_eq, if_pos h, Option.bind_some, Int.toNat_natCast, if_true, ← e1, f1, within_eq, decide_eq_true hq, Bool.not_true]
        refine Ev.succ ?_
        simp only [impl_MatchedAt.j0, Bool.false_eq_true, if_false, impl_endings.f, Option.bind_some, f5]
        exact r2
    · refine ⟨(⟨#[]⟩, 2), ?_, ?_⟩
      · unfold spec_MatchedAt.f
        simp only [in_eq, Option.bind_some, decide_eq_true h, if_true]
        refine Ev.bind (ways_ev L hL) ?_
        simp only [if_pos (i0 L), if_pos t1, if_pos c2, c1, e0, f1, decide_eq_false hq, Bool.false_eq_true, if_false]
        exact Ev.now _
      · unfold impl_MatchedAt.f
        simp only [iCount_eq, if_pos h, Option.bind_some, Int.toNat_natCast, if_true, ← e1, f1, within_eq, decide_eq_false hq, Bool.not_false]
        refine Ev.succ ?_
        simp only [impl_MatchedAt.j0, if_true]
        exact Ev.now _
  · refine ⟨(⟨#[]⟩, 2), ?_, ?_⟩
    · unfold spec_MatchedAt.f
      simp only [in_eq, Option.bind_some, decide_eq_false h, Bool.false_eq_true, if_false]
      exact Ev.now _
    · unfold impl_MatchedAt.f
      simp only [iCount_eq, if_neg h, Option.bind_some, show ¬ (2 : Int) = 0 by decide, if_false]
      refine Ev.succ ?_
      simp only [impl_MatchedAt.j0, if_true]
      exact Ev.now _
end Go.Proofs.Ythhmkkclmopkhaa.Br
