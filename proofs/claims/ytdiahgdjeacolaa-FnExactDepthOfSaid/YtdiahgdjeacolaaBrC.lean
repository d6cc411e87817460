/- What the program's reading of a word (match) and the reference's functions on matching come to: the reading from the left of the plain facts. -/
import Derived.Test.YtdiahgdjeacolaaPx59
import Derived.Test.YtdiahgdjeacolaaPx64
import Derived.Test.YtdiahgdjeacolaaPx77
import Derived.Test.YtdiahgdjeacolaaTh
import Derived.Test.YtdiahgdjeacolaaBrB
namespace Go.Proofs.Ytdiahgdjeacolaa.Br
open Go.RowKit Go.Proofs.Ytdiahgdjeacolaa.P Go.Proofs.YtdiahgdjeacolaaW.PrintWords Go.Proofs.YtdiahgdjeacolaaW.PrintLast Go.Proofs.YtdiahgdjeacolaaW.PrintMore Go.Proofs.Ytdiahgdjeacolaa.Th
set_option linter.unusedVariables false
set_option linter.unusedSimpArgs false

theorem isReturn_eq (b : Int) : impl_isReturn.f b = some (isR b) := by
  unfold impl_isReturn.f isR
  by_cases h : b = 41 <;> simp [h]
theorem isCall_eq (b : Int) : impl_isCall.f b = some (isC b) := by
  unfold impl_isCall.f isC
  by_cases h : b = 40 <;> simp [h]
theorem sReturn_eq (b : Int) : spec_l01Return.f b = some (isR b) := by
  unfold spec_l01Return.f isR
  by_cases h : b = 41 <;> simp [h]
theorem sCall_eq (b : Int) : spec_l01Call.f b = some (isC b) := by
  unfold spec_l01Call.f isC
  by_cases h : b = 40 <;> simp [h]

theorem rd_last {c : List Int} (h : c ≠ []) : rd c ((c.length : Int) - 1) = top c := by
  unfold rd top
  have : 0 < c.length := List.length_pos_iff.2 h
  rw [List.getLast?_eq_getElem?, List.getD_eq_getElem?_getD, show ((c.length : Int) - 1).toNat = c.length - 1 by omega, List.getElem?_eq_getElem (by omega)]
  rfl

theorem top_nil {c : List Int} (h : c = []) : top c = -1 := by subst h; rfl
theorem take_last {c : List Int} : c.take ((c.length : Int) - 1).toNat = c.dropLast := by
  rw [List.dropLast_eq_take, show ((c.length : Int) - 1).toNat = c.length - 1 by omega]

/-- From the head of j2 on: the parent is told, a call is put on the stack, the rows grow. -/
theorem match_j2 (a : ByteArray) (hn : a.size ≤ 1048576) (i : Nat) (hi : i < a.size) (x6 : Int) (p r c d q : List Int) (R : List Int × List Int × List Int × List Int × List Int)
    (lp : p.length ≤ i) (lr : r.length ≤ i + 1) (lc : c.length ≤ i) (ld : d.length ≤ i + 1) (lq : q.length ≤ i)
    (h : if isC (bt a i) = true then Ev (fun k => impl_match.l0 k a a.size (i + 1 : Nat) (p ++ [-2]) r (c ++ [(i : Int)]) (d ++ [(c.length : Int) + 1]) (q ++ [top c])) R
         else Ev (fun k => impl_match.l0 k a a.size (i + 1 : Nat) (p ++ [x6]) r c (d ++ [(c.length : Int)]) (q ++ [top c])) R) :
    Ev (fun k => impl_match.j2 k a i i x6 a.size i p r c d q) R := by
  have j3 : Ev (fun k => impl_match.j3 k a i i x6 (top c) a.size i p r c d q) R := by
    refine Ev.succ ?_
    simp only [impl_match.j3, if_pos (show (0 : Int) ≤ (i : Int) by omega), if_pos (show (i : Int) < (a.size : Int) by omega), isCall_eq, Option.bind_some]
    have j4 : ∀ (x : Int) (c2 : List Int), c2.length ≤ i + 1 → Ev (fun k => impl_match.l0 k a a.size (i + 1 : Nat) (p ++ [x]) r c2 (d ++ [(c2.length : Int)]) (q ++ [top c])) R → Ev (fun k => impl_match.j4 k a x (top c) a.size i p r c2 d q) R := by
      intro x c2 l2 h2
      refine Ev.succ ?_
      simp only [impl_match.j4, Option.bind_some, impl_size_int64.f, List.length_cons, List.length_nil]
      rw [w64 (by omega) (by omega)]
      simp only [if_pos (show p.length + (0 + 1) < 17592186044416 by omega), if_pos (show q.length + (0 + 1) < 17592186044416 by omega), if_pos (show d.length + (0 + 1) < 17592186044416 by omega)]
      exact h2
    by_cases hC : isC (bt a i) = true
    · simp only [hC, if_true, List.length_cons, List.length_nil, if_pos (show c.length + (0 + 1) < 17592186044416 by omega)] at h ⊢
      refine j4 (-2) (c ++ [(i : Int)]) (by simp; omega) ?_
      simpa using h
    · simp only [if_neg hC] at h ⊢
      exact j4 x6 c (by omega) h
  refine Ev.succ ?_
  simp only [impl_match.j2]
  by_cases hc : c = []
  · simp only [if_neg (show ¬ (c.length : Int) > 0 by simp [hc])]
    rw [top_nil hc] at j3
    exact j3
  · have : 0 < c.length := List.length_pos_iff.2 hc
    rw [w64 (by omega) (by omega)]
    simp only [if_pos (show (c.length : Int) > 0 by omega), if_pos (show 0 ≤ (c.length : Int) - 1 by omega), if_pos (show (c.length : Int) - 1 < (c.length : Int) by omega), rd_last hc]
    exact j3

theorem match_loop (a : ByteArray) (hn : a.size ≤ 1048576) : ∀ d i : Nat, i + d = a.size →
    Ev (fun k => impl_match.l0 k a a.size i (st (bt a) i).p (st (bt a) i).r (st (bt a) i).c (st (bt a) i).d (st (bt a) i).q)
      ((st (bt a) a.size).p, (st (bt a) a.size).r, (st (bt a) a.size).c, (st (bt a) a.size).d, (st (bt a) a.size).q) := by
  intro d
  induction d with
  | zero =>
    intro i hi
    obtain rfl : i = a.size := by omega
    refine Ev.succ ?_
    simp only [impl_match.l0, if_neg (show ¬ (a.size : Int) < (a.size : Int) by omega)]
    exact Ev.now _
  | succ d ih =>
    intro i hi
    have B := basic (bt a) i
    have hnext := ih (i + 1) (by omega)
    have hst : st (bt a) (i + 1) = Th.step (st (bt a) i) i (bt a i) := rfl
    rw [hst] at hnext
    obtain ⟨lp, lq, ld, lr, lc, hc, hr⟩ := B
    generalize st (bt a) i = s at *
    refine Ev.succ ?_
    simp only [impl_match.l0, if_pos (show (i : Int) < (a.size : Int) by omega), if_pos (show (0 : Int) ≤ (i : Int) by omega), isReturn_eq, Option.bind_some]
    by_cases hR : isR (bt a i) = true
    · have hC := isR_notC hR
      simp only [hR, if_true]
      refine Ev.succ ?_
      simp only [impl_match.j1]
      by_cases he : s.c = []
      · simp only [he, List.length_nil, Int.ofNat_zero, Int.natCast_zero, BEq.rfl, if_true, Option.bind_some, List.length_cons]
        simp only [if_pos (show s.r.length + (0 + 1) < 17592186044416 by omega)]
        refine match_j2 a hn i (by omega) (-2) _ _ _ _ _ _ (by omega) (by simp; omega) (by simp) (by omega) (by omega) ?_
        rw [if_neg (by simp [hC])]
        simp only [Th.step, hR, if_true, he] at hnext
        exact hnext
      · have hl : 0 < s.c.length := List.length_pos_iff.2 he
        have ht := hc _ (top_mem he)
        have hz : ((s.c.length : Int) == 0) = false := by simp; omega
        simp only [hz, Bool.false_eq_true, if_false]
        rw [w64 (by omega) (by omega)]
        simp only [if_pos (show (0 : Int) ≤ (i : Int) by omega), if_pos (show (i : Int) < (a.size : Int) by omega), isReturn_eq, Option.bind_some, hR, if_true,
          if_pos (show 0 ≤ (s.c.length : Int) - 1 by omega), if_pos (show (s.c.length : Int) - 1 < (s.c.length : Int) by omega), rd_last he, if_pos ht.1, if_pos (show top s.c < (s.p.length : Int) by omega), if_pos (show (s.c.length : Int) - 1 ≤ (s.c.length : Int) by omega), take_last]
        refine match_j2 a hn i (by omega) _ _ _ _ _ _ _ (by simp; omega) (by omega) (by simp; omega) (by omega) (by omega) ?_
        rw [if_neg (by simp [hC])]
        simp only [Th.step, hR, if_true, if_neg he] at hnext
        exact hnext
    · have hR' : isR (bt a i) = false := by simpa using hR
      simp only [hR', Bool.false_eq_true, if_false]
      refine Ev.succ ?_
      simp only [impl_match.j1, Bool.false_eq_true, if_false, if_pos (show (0 : Int) ≤ (i : Int) by omega), if_pos (show (i : Int) < (a.size : Int) by omega), isReturn_eq, Option.bind_some, hR']
      refine match_j2 a hn i (by omega) (-1) _ _ _ _ _ _ (by omega) (by omega) (by omega) (by omega) (by omega) ?_
      by_cases hC : isC (bt a i) = true
      · rw [if_pos hC]
        simp only [Th.step, hR', Bool.false_eq_true, if_false, hC, if_true] at hnext
        exact hnext
      · rw [if_neg hC]
        simp only [Th.step, hR', Bool.false_eq_true, if_false, hC] at hnext
        exact hnext

theorem match_ev (a : ByteArray) (hn : a.size ≤ 1048576) : Ev (fun k => impl_match.f k a)
    ((st (bt a) a.size).p, (st (bt a) a.size).r, (st (bt a) a.size).c, (st (bt a) a.size).d, (st (bt a) a.size).q) := match_loop a hn a.size 0 (by omega)

end Go.Proofs.Ytdiahgdjeacolaa.Br
