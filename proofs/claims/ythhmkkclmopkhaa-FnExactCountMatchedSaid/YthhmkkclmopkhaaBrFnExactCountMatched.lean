/- What the law FnExactCountMatched leans on: plain facts, and what the printed functions that it reaches come to; for all arguments that the facts name. -/
import Derived.Test.YthhmkkclmopkhaaPx0
import Derived.Test.YthhmkkclmopkhaaPx8
import Derived.Test.YthhmkkclmopkhaaPx9
import Derived.Test.YthhmkkclmopkhaaPx25
import Derived.Test.YthhmkkclmopkhaaPx26
import Derived.Test.YthhmkkclmopkhaaPx27
import Derived.Test.YthhmkkclmopkhaaPx28
import Derived.Test.YthhmkkclmopkhaaPx29
namespace Go.Proofs.Ythhmkkclmopkhaa.Th

def g (l : List Int) (j : Nat) : Int := l.getD j 0

end Go.Proofs.Ythhmkkclmopkhaa.Th
namespace Go.Proofs.Ythhmkkclmopkhaa.Br
open Go.RowKit Go.Proofs.Ythhmkkclmopkhaa.P Go.Proofs.YthhmkkclmopkhaaW.PrintWords Go.Proofs.YthhmkkclmopkhaaW.PrintLast Go.Proofs.YthhmkkclmopkhaaW.PrintMore Go.Proofs.Ythhmkkclmopkhaa.Th
set_option linter.unusedVariables false
set_option linter.unusedSimpArgs false
theorem Ev.succ {α : Type} {g : Nat → Option α} {r : α} (h : Ev (fun k => g (k + 1)) r) : Ev g r := by
  obtain ⟨K, hK⟩ := h
  refine ⟨K + 1, fun k hk => ?_⟩
  obtain ⟨m, rfl⟩ : ∃ m, k = m + 1 := ⟨k - 1, by omega⟩
  exact hK m (by omega)
theorem w64 {x : Int} (h0 : -9223372036854775808 ≤ x) (h1 : x ≤ 9223372036854775807) : wrap64 x = x := by unfold wrap64; omega

end Go.Proofs.Ythhmkkclmopkhaa.Br
namespace Go.Proofs.Ythhmkkclmopkhaa.Br
open Go.RowKit Go.Proofs.Ythhmkkclmopkhaa.P Go.Proofs.YthhmkkclmopkhaaW.PrintWords Go.Proofs.YthhmkkclmopkhaaW.PrintLast Go.Proofs.YthhmkkclmopkhaaW.PrintMore Go.Proofs.Ythhmkkclmopkhaa.Th
set_option linter.unusedVariables false
set_option linter.unusedSimpArgs false
theorem in_eq (a lo hi : Int) : spec_l00In.f a lo hi = some (decide (lo ≤ a ∧ a ≤ hi)) := by
  unfold spec_l00In.f
  by_cases h : a ≥ lo
  · rw [if_pos h]; congr 1; simp; omega
  · rw [if_neg h]; congr 1; simp; omega
theorem within_eq (a lo hi : Int) : impl_within.f a lo hi = some (decide (lo ≤ a ∧ a ≤ hi)) := by
  unfold impl_within.f
  by_cases h : a ≥ lo
  · rw [if_pos h]; congr 1; simp; omega
  · rw [if_neg h]; congr 1; simp; omega

end Go.Proofs.Ythhmkkclmopkhaa.Br
namespace Go.Proofs.Ythhmkkclmopkhaa.Br
open Go.RowKit Go.Proofs.Ythhmkkclmopkhaa.P Go.Proofs.YthhmkkclmopkhaaW.PrintWords Go.Proofs.YthhmkkclmopkhaaW.PrintLast Go.Proofs.YthhmkkclmopkhaaW.PrintMore Go.Proofs.Ythhmkkclmopkhaa.Th
set_option linter.unusedVariables false
set_option linter.unusedSimpArgs false
theorem down {P : Nat → Prop} (n : Nat) (h0 : P n) (h1 : ∀ i, i < n → P (i + 1) → P i) : ∀ i, i ≤ n → P i := by
  have key : ∀ d i, i + d = n → P i := by
    intro d
    induction d with
    | zero => intro i hi; obtain rfl : i = n := by omega
              exact h0
    | succ d ih => intro i hi; exact h1 i (by omega) (ih (i + 1) (by omega))
  intro i hi
  exact key (n - i) i (by omega)
theorem up1 (i : Nat) (h : i < 9223372036854775807) : wrap64 ((i : Int) + 1) = ((i + 1 : Nat) : Int) := by
  rw [w64 (by omega) (by omega)]; rfl
theorem i0 (i : Nat) : 0 ≤ (i : Int) := by omega
end Go.Proofs.Ythhmkkclmopkhaa.Br
namespace Go.Proofs.Ythhmkkclmopkhaa.Br
open Go.RowKit Go.Proofs.Ythhmkkclmopkhaa.P Go.Proofs.YthhmkkclmopkhaaW.PrintWords Go.Proofs.YthhmkkclmopkhaaW.PrintLast Go.Proofs.YthhmkkclmopkhaaW.PrintMore Go.Proofs.Ythhmkkclmopkhaa.Th
set_option linter.unusedVariables false
set_option linter.unusedSimpArgs false
/-- How many words of n symbols close d open calls, for depths up to L. -/
def wy (L : Nat) : Nat → Nat → Int
  | 0, d => if d = 0 then 1 else 0
  | n + 1, d => if d ≤ L then 2 * wy L n d + 2 * wy L n (d + 1) + (if d = 0 then 0 else 2 * wy L n (d - 1)) else 0
theorem wy_range (L : Nat) : ∀ n d, 0 ≤ wy L n d ∧ wy L n d ≤ 6 ^ n
  | 0, d => by unfold wy; split <;> simp
  | n + 1, d => by
    have h0 := wy_range L n d
    have h1 := wy_range L n (d + 1)
    have h2 := wy_range L n (d - 1)
    have e : (6 : Int) ^ (n + 1) = 6 * 6 ^ n := by rw [Int.pow_succ]; omega
    rw [e]
    unfold wy
    generalize (6 : Int) ^ n = B at *
    split
    · split <;> omega
    · omega
theorem pow_le (n : Nat) (h : n ≤ 20) : (6 : Int) ^ n ≤ 3656158440062976 := by
  have h1 : (6 : Nat) ^ n ≤ 6 ^ 20 := Nat.pow_le_pow_right (by decide) h
  have h2 : (6 : Nat) ^ 20 = 3656158440062976 := by decide
  have h3 : ((6 ^ n : Nat) : Int) = (6 : Int) ^ n := by push_cast; rfl
  omega
theorem wy_small (L n d : Nat) (h : n ≤ 20) : 0 ≤ wy L n d ∧ wy L n d ≤ 3656158440062976 := by
  have := wy_range L n d
  have := pow_le n h
  omega
def rowW (L n : Nat) : List Int := (List.range (L + 2)).map (wy L n)
def prow (L n d : Nat) : List Int := (List.range (L + 2)).map (fun e => if e < d then wy L n e else 0)
def tab (L m : Nat) : List (List Int) := (List.range m).map (rowW L)
theorem rowW_len (L n : Nat) : (rowW L n).length = L + 2 := by simp [rowW]
theorem prow_len (L n d : Nat) : (prow L n d).length = L + 2 := by simp [prow]
theorem tab_len (L m : Nat) : (tab L m).length = m := by simp [tab]
theorem rd_range (f : Nat → Int) (N d : Nat) (h : d < N) : rd ((List.range N).map f) d = f d := by
  unfold rd
  rw [Int.toNat_natCast, List.getD_eq_getElem?_getD, List.getElem?_map, List.getElem?_range h]
  rfl
theorem rdL_tab (L m n : Nat) (h : n < m) : rd_L1 (tab L m) n = rowW L n := by
  unfold rd_L1 tab
  rw [Int.toNat_natCast, List.getD_eq_getElem?_getD, List.getElem?_map, List.getElem?_range h]
  rfl
theorem prow_zero (L n : Nat) : prow L n 0 = List.replicate (L + 2) 0 := by
  unfold prow
  apply List.ext_getElem
  · simp
  · intro i h1 h2; simp
theorem prow_set (L n d : Nat) (h : d ≤ L) : (prow L n d).set d (wy L n d) = prow L n (d + 1) := by
  unfold prow
  apply List.ext_getElem
  · simp
  · intro i h1 h2
    rw [List.getElem_set]
    simp only [List.getElem_map, List.getElem_range]
    by_cases e : d = i
    · subst e; simp
    · rw [if_neg e]
      by_cases e2 : i < d
      · rw [if_pos e2, if_pos (by omega)]
      · rw [if_neg e2, if_neg (by omega)]
theorem prow_all (L n : Nat) (hn : 1 ≤ n) : prow L n (L + 1) = rowW L n := by
  unfold prow rowW
  apply List.ext_getElem
  · simp
  · intro i h1 h2
    simp only [List.getElem_map, List.getElem_range]
    by_cases e : i < L + 1
    · rw [if_pos e]
    · rw [if_neg e]
      obtain ⟨m, rfl⟩ : ∃ m, n = m + 1 := ⟨n - 1, by omega⟩
      unfold wy
      rw [if_neg (by omega)]
theorem row_first (L : Nat) : (List.replicate (L + 2) (0 : Int)).set 0 1 = rowW L 0 := by
  unfold rowW
  apply List.ext_getElem
  · simp
  · intro i h1 h2
    rw [List.getElem_set]
    simp only [List.getElem_map, List.getElem_range, List.getElem_replicate]
    unfold wy
    by_cases e : i = 0
    · subst e; simp
    · rw [if_neg (fun h => e h.symm), if_neg e]
theorem tab_succ (L m : Nat) : tab L (m + 1) = tab L m ++ [rowW L m] := by
  unfold tab
  rw [List.range_succ, List.map_append]
  rfl

theorem ways_l1 (L : Nat) (hL : L ≤ 20) (n : Nat) (hn : n + 1 ≤ L) (R : List (List Int)) (hR : Ev (fun k => spec_l01Ways.l0 k L (tab L (n + 2)) ((n + 2 : Nat) : Int)) R) :
    ∀ d, d ≤ L + 1 → Ev (fun k => spec_l01Ways.l1 k L (tab L (n + 1)) ((n + 1 : Nat) : Int) (prow L (n + 1) d) d) R := by
  have hw : ∀ d, 0 ≤ wy L n d ∧ wy L n d ≤ 3656158440062976 := fun d => wy_small L n d (by omega)
  have b0 : ((n + 1 : Nat) : Int) > 0 := by omega
  have b1 : (n : Int) < ((tab L (n + 1)).length : Int) := by rw [tab_len]; omega
  have b2 : (tab L (n + 1)).length < 5864062014805 := by rw [tab_len]; omega
  have b3 : ¬ ((L + 1 : Nat) : Int) ≤ (L : Int) := by omega
  have hall := prow_all L (n + 1) (by omega)
  have b4 : n < n + 1 := by omega
  have f1 : wrap64 (((n + 1 : Nat) : Int) - 1) = (n : Int) := by rw [w64 (by omega) (by omega)]; push_cast; omega
  have f2 : wrap64 (((n + 1 : Nat) : Int) + 1) = ((n + 2 : Nat) : Int) := by rw [w64 (by omega) (by omega)]; push_cast; omega
  refine down (L + 1) ?_ ?_
  · refine Ev.succ ?_
    simp only [spec_l01Ways.l1, if_pos b0, decide_eq_false b3]
    refine Ev.succ ?_
    simp only [spec_l01Ways.j3, Bool.false_eq_true, if_false, if_pos b2, f2]
    rw [hall, ← tab_succ]
    exact hR
  · intro d hd ih
    have q0 := hw d
    have q1 := hw (d + 1)
    have q2 := hw (d - 1)
    have hdL : d ≤ L := by clear f1 f2; omega
    have c0 : (d : Int) ≤ (L : Int) := by clear f1 f2; omega
    have c1 : d < L + 2 := by clear f1 f2; omega
    have c2 : d + 1 < L + 2 := by clear f1 f2; omega
    have c3 : d - 1 < L + 2 := by clear f1 f2; omega
    have e2 : rd (rowW L n) d = wy L n d := rd_range _ _ _ c1
    have e3 : rd (rowW L n) ((d + 1 : Nat) : Int) = wy L n (d + 1) := rd_range _ _ _ c2
    have e4 : rd (rowW L n) ((d - 1 : Nat) : Int) = wy L n (d - 1) := rd_range _ _ _ c3
    have g1 : (d : Int) < ((rowW L n).length : Int) := by rw [rowW_len]; exact_mod_cast c1
    have g2 : ((d + 1 : Nat) : Int) < ((rowW L n).length : Int) := by rw [rowW_len]; exact_mod_cast c2
    have g3 : (d : Int) < ((prow L (n + 1) d).length : Int) := by rw [prow_len]; exact_mod_cast c1
    have g4 : ((d - 1 : Nat) : Int) < ((rowW L n).length : Int) := by rw [rowW_len]; exact_mod_cast c3
    have e5 : ∀ v : Int, rd ((prow L (n + 1) d).set d v) d = v := by
      intro v
      unfold rd
      rw [Int.toNat_natCast, List.getD_eq_getElem?_getD, List.getElem?_set_self (by rw [prow_len]; exact c1)]
      rfl
    have ed : wy L (n + 1) d = 2 * wy L n d + 2 * wy L n (d + 1) + (if d = 0 then 0 else 2 * wy L n (d - 1)) := by
      conv => lhs; unfold wy
      rw [if_pos hdL]
    have hset := prow_set L (n + 1) d hdL
    have u1 := up1 d (by clear f1 f2; omega)
    generalize wy L n d = A at *
    generalize wy L n (d + 1) = B at *
    generalize wy L n (d - 1) = C at *
    have f3 : wrap64 (2 * A) = 2 * A := w64 (by clear f1 f2 u1; omega) (by clear f1 f2 u1; omega)
    have f4 : wrap64 (2 * B) = 2 * B := w64 (by clear f1 f2 u1 f3; omega) (by clear f1 f2 u1 f3; omega)
    have f5 : wrap64 (2 * A + 2 * B) = 2 * A + 2 * B := w64 (by clear f1 f2 u1 f3 f4; omega) (by clear f1 f2 u1 f3 f4; omega)
    have f7 : wrap64 (2 * C) = 2 * C := w64 (by clear f1 f2 u1 f3 f4 f5; omega) (by clear f1 f2 u1 f3 f4 f5; omega)
    have f8 : wrap64 (2 * A + 2 * B + 2 * C) = 2 * A + 2 * B + 2 * C := w64 (by clear f1 f2 u1 f3 f4 f5 f7; omega) (by clear f1 f2 u1 f3 f4 f5 f7; omega)
    refine Ev.succ ?_
    simp only [spec_l01Ways.l1, if_pos b0, decide_eq_true c0]
    refine Ev.succ ?_
    simp only [spec_l01Ways.j3, if_true, f1, if_pos (i0 n), if_pos b1, if_pos (i0 d), rdL_tab L (n + 1) n b4, if_pos g1, u1, if_pos (i0 (d + 1)), if_pos g2, if_pos g3, e2, e3, f3, f4, f5, Option.bind_some, Int.toNat_natCast]
    by_cases d0 : d = 0
    · subst d0
      rw [if_pos rfl, Int.add_zero] at ed
      simp only [Int.natCast_zero, show ¬ ((0 : Int) > 0) by decide, if_false]
      rw [ed] at hset
      rw [hset]
      exact ih
    · rw [if_neg d0] at ed
      have h1 : (d : Int) > 0 := by clear f1 f2 u1 f3 f4 f5 f7 f8; omega
      have f6 : wrap64 ((d : Int) - 1) = ((d - 1 : Nat) : Int) := by clear f1 f2 u1 f3 f4 f5 f7 f8; rw [w64 (by omega) (by omega)]; omega
      simp only [if_pos h1, f6, if_pos (i0 (d - 1)), if_pos g4, e4, f7, e5, f8, List.set_set]
      rw [ed] at hset
      rw [hset]
      exact ih
theorem ways_ev (L : Nat) (hL : L ≤ 20) : Ev (fun k => spec_l01Ways.f k L) (tab L (L + 1)) := by
  have f0 : wrap64 ((L : Int) + 2) = ((L + 2 : Nat) : Int) := by rw [w64 (by omega) (by omega)]; push_cast; rfl
  have loop : ∀ n, n ≤ L + 1 → Ev (fun k => spec_l01Ways.l0 k L (tab L n) n) (tab L (L + 1)) := by
    refine down (L + 1) ?_ ?_
    · refine Ev.succ ?_
      simp only [spec_l01Ways.l0, if_neg (show ¬ ((L + 1 : Nat) : Int) ≤ (L : Int) by omega)]
      exact Ev.now _
    · intro n hn ih
      refine Ev.succ ?_
      simp only [spec_l01Ways.l0, if_pos (show (n : Int) ≤ (L : Int) by omega), f0, if_pos (i0 (L + 2)), Int.toNat_natCast, if_pos (show L + 2 ≤ 35184372088832 by omega), Option.bind_some]
      by_cases n0 : n = 0
      · subst n0
        simp only [Int.natCast_zero, if_true, List.length_replicate, if_pos (show (0 : Int) < ((L + 2 : Nat) : Int) by omega), Int.toNat_zero]
        rw [row_first]
        refine Ev.succ ?_
        simp only [spec_l01Ways.j1]
        refine Ev.succ ?_
        simp only [spec_l01Ways.l1, show ¬ ((0 : Int) > 0) by decide, if_false]
        refine Ev.succ ?_
        have u0 : wrap64 ((0 : Int) + 1) = ((0 + 1 : Nat) : Int) := by rw [w64 (by decide) (by decide)]; rfl
        simp only [spec_l01Ways.j3, Bool.false_eq_true, if_false, if_pos (show (tab L 0).length < 5864062014805 by rw [tab_len]; omega), u0]
        rw [← tab_succ]
        exact ih
      · obtain ⟨m, rfl⟩ : ∃ m, n = m + 1 := ⟨n - 1, by omega⟩
        simp only [if_neg (show ¬ ((m + 1 : Nat) : Int) = 0 by omega)]
        refine Ev.succ ?_
        simp only [spec_l01Ways.j1]
        have := ways_l1 L hL m (by omega) _ ih 0 (by omega)
        rw [prow_zero] at this
        exact this
  unfold spec_l01Ways.f
  exact loop 0 (by omega)

end Go.Proofs.Ythhmkkclmopkhaa.Br
namespace Go.Proofs.Ythhmkkclmopkhaa.Br
open Go.RowKit Go.Proofs.Ythhmkkclmopkhaa.P Go.Proofs.YthhmkkclmopkhaaW.PrintWords Go.Proofs.YthhmkkclmopkhaaW.PrintLast Go.Proofs.YthhmkkclmopkhaaW.PrintMore Go.Proofs.Ythhmkkclmopkhaa.Th
set_option linter.unusedVariables false
set_option linter.unusedSimpArgs false
theorem tw_out : ∀ n d, n < d → tw n d = 0
  | 0, d, h => by unfold tw; rw [if_neg (by omega)]
  | n + 1, d, h => by
    unfold tw
    rw [tw_out n (d + 1) (by omega), tw_out n d (by omega), if_neg (by omega), tw_out n (d - 1) (by omega)]
    rfl
theorem wy_tw (L : Nat) : ∀ n d, n ≤ L → wy L n d = tw n d
  | 0, d, _ => by unfold wy tw; rfl
  | n + 1, d, h => by
    by_cases hd : d ≤ L
    · unfold wy tw
      rw [if_pos hd, wy_tw L n d (by omega), wy_tw L n (d + 1) (by omega), wy_tw L n (d - 1) (by omega)]
      omega
    · rw [tw_out (n + 1) d (by omega)]
      unfold wy
      rw [if_neg hd]
/-- What the words of n symbols with e open calls are in number; none if e is no depth. -/
def own (L n : Nat) (e : Int) : Int := if e < 0 then 0 else wy L n e.toNat
theorem ways_eq (L n : Nat) (b : Bool) (e : Int) (hn : n ≤ L) (he : (n : Int) + e ≤ 20) : impl_ways.f b n e = some (own L n e) := by
  unfold impl_ways.f waysF own
  by_cases h : e < 0
  · rw [if_pos h, if_pos h]
  · rw [if_neg h, if_neg h]
    obtain ⟨d, rfl⟩ := Int.eq_ofNat_of_zero_le (show 0 ≤ e by omega)
    rw [Int.toNat_natCast, Int.toNat_natCast, wy_tw L n d hn]
    by_cases h2 : (n : Int) < (d : Int)
    · rw [if_pos h2, tw_out n d (by omega)]
    · rw [if_neg h2, if_pos he]
theorem own_cell (L n : Nat) (e : Int) (h0 : ¬ e < 0) (h1 : e ≤ (L : Int) + 1) (hn : n ≤ L) : rd (rd_L1 (tab L (L + 1)) n) e = own L n e ∧ e < ((rd_L1 (tab L (L + 1)) n).length : Int) := by
  obtain ⟨d, rfl⟩ := Int.eq_ofNat_of_zero_le (show 0 ≤ e by omega)
  rw [rdL_tab L (L + 1) n (by omega), rowW_len]
  refine ⟨?_, by omega⟩
  unfold own
  rw [if_neg h0, Int.toNat_natCast]
  exact rd_range _ _ _ (by omega)
theorem sCount_ev (a : Int) : Ev (fun k => spec_CountMatched.f k a) (if 0 ≤ a ∧ a ≤ 20 then (tw a.toNat 0, 0) else (0, 2)) := by
  unfold spec_CountMatched.f
  simp only [in_eq, Option.bind_some]
  by_cases h : 0 ≤ a ∧ a ≤ 20
  · obtain ⟨L, rfl⟩ := Int.eq_ofNat_of_zero_le h.1
    simp only [decide_eq_true h, if_true, if_pos h, Int.toNat_natCast]
    refine Ev.bind (ways_ev L (by omega)) ?_
    obtain ⟨c1, c2⟩ := own_cell L L 0 (by omega) (by omega) (by omega)
    have e : own L L 0 = tw L 0 := by
      unfold own
      rw [if_neg (by omega)]
      exact wy_tw L L 0 (by omega)
    simp only [if_pos (i0 L), if_pos (show (L : Int) < ((tab L (L + 1)).length : Int) by rw [tab_len]; omega), if_pos c2, c1, e]
    exact Ev.now _
  · simp only [decide_eq_false h, Bool.false_eq_true, if_false, if_neg h]
    exact Ev.now _
theorem iCount_eq (a : Int) : impl_CountMatched.f a = some (if 0 ≤ a ∧ a ≤ 20 then (tw a.toNat 0, 0) else (0, 2)) := by
  unfold impl_CountMatched.f
  simp only [within_eq, Option.bind_some]
  by_cases h : 0 ≤ a ∧ a ≤ 20
  · obtain ⟨L, rfl⟩ := Int.eq_ofNat_of_zero_le h.1
    simp only [decide_eq_true h, if_true, if_pos h, Int.toNat_natCast, impl_endings.f, Option.bind_some, ways_eq L L true 0 (Nat.le_refl _) (by omega)]
    have e : own L L 0 = tw L 0 := by
      unfold own
      rw [if_neg (by omega)]
      exact wy_tw L L 0 (by omega)
    rw [e]
  · simp only [decide_eq_false h, Bool.false_eq_true, if_false, if_neg h]
end Go.Proofs.Ythhmkkclmopkhaa.Br
