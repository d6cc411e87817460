/- The reference's functions on partners, pending symbols, depths and the core of a word, by the plain facts. -/
import Derived.Test.YtdiahgdjeacolaaPx66
import Derived.Test.YtdiahgdjeacolaaPx73
import Derived.Test.YtdiahgdjeacolaaPx76
import Derived.Test.YtdiahgdjeacolaaTh
import Derived.Test.YtdiahgdjeacolaaBrC
namespace Go.Proofs.Ytdiahgdjeacolaa.Br
open Go.RowKit Go.Proofs.Ytdiahgdjeacolaa.P Go.Proofs.YtdiahgdjeacolaaW.PrintWords Go.Proofs.YtdiahgdjeacolaaW.PrintLast Go.Proofs.YtdiahgdjeacolaaW.PrintMore Go.Proofs.Ytdiahgdjeacolaa.Th
set_option linter.unusedVariables false
set_option linter.unusedSimpArgs false

theorem partners_loop (a : ByteArray) (hn : a.size ≤ 1048576) : ∀ d i : Nat, i + d = a.size →
    Ev (fun k => spec_l01Partners.l0 k a (st (bt a) i).p (st (bt a) i).c i) (st (bt a) a.size).p := by
  intro d
  induction d with
  | zero =>
    intro i hi
    obtain rfl : i = a.size := by omega
    refine Ev.succ ?_
    simp only [spec_l01Partners.l0, if_neg (show ¬ (a.size : Int) < (a.size : Int) by omega)]
    exact Ev.now _
  | succ d ih =>
    intro i hi
    have B := basic (bt a) i
    have hnext := ih (i + 1) (by omega)
    have hst : st (bt a) (i + 1) = Th.step (st (bt a) i) i (bt a i) := rfl
    rw [hst] at hnext
    obtain ⟨lp, lq, ld, lr, lc, hc, hr⟩ := B
    generalize st (bt a) i = s at *
    refine Ev.succ ?_
    simp only [spec_l01Partners.l0, if_pos (show (i : Int) < (a.size : Int) by omega), if_pos (show (0 : Int) ≤ (i : Int) by omega), sCall_eq, sReturn_eq, Option.bind_some]
    by_cases hC : isC (bt a i) = true
    · have hR : isR (bt a i) = false := by
        cases h : isR (bt a i) with
        | false => rfl
        | true => rw [isR_notC h] at hC; cases hC
      simp only [hC, if_true]
      rw [w64 (by omega) (by omega)]
      simp only [if_pos (show s.p.length < 17592186044416 by omega), if_pos (show s.c.length < 17592186044416 by omega)]
      simp only [Th.step, hR, Bool.false_eq_true, if_false, hC, if_true] at hnext
      exact hnext
    · have hC' : isC (bt a i) = false := by simpa using hC
      simp only [hC', Bool.false_eq_true, if_false]
      by_cases hR : isR (bt a i) = true
      · simp only [hR, if_true]
        refine Ev.succ ?_
        simp only [spec_l01Partners.j1]
        by_cases he : s.c = []
        · simp only [he, List.length_nil, show decide (((0 : Nat) : Int) > 0) = false by decide, Bool.false_eq_true, if_false, if_pos (show (i : Int) < (a.size : Int) by omega), if_pos (show (0 : Int) ≤ (i : Int) by omega), sReturn_eq, Option.bind_some, hR, if_true, if_pos (show s.p.length < 17592186044416 by omega)]
          rw [w64 (by omega) (by omega)]
          simp only [Th.step, hR, if_true, he] at hnext
          exact hnext
        · have hl : 0 < s.c.length := List.length_pos_iff.2 he
          have ht := hc _ (top_mem he)
          rw [w64 (show -9223372036854775808 ≤ (s.c.length : Int) - 1 by omega) (by omega), w64 (by omega) (by omega)]
          simp only [show decide ((s.c.length : Int) > 0) = true by simp; omega, if_true, Option.bind_some,
            if_pos (show 0 ≤ (s.c.length : Int) - 1 by omega), if_pos (show (s.c.length : Int) - 1 < (s.c.length : Int) by omega), rd_last he, if_pos ht.1, if_pos (show top s.c < (s.p.length : Int) by omega), if_pos (show (s.c.length : Int) - 1 ≤ (s.c.length : Int) by omega), take_last, List.length_set, if_pos (show s.p.length < 17592186044416 by omega)]
          simp only [Th.step, hR, if_true, if_neg he] at hnext
          exact hnext
      · have hR' : isR (bt a i) = false := by simpa using hR
        simp only [hR', Bool.false_eq_true, if_false]
        refine Ev.succ ?_
        simp only [spec_l01Partners.j1, Bool.false_eq_true, if_false, if_pos (show (i : Int) < (a.size : Int) by omega), if_pos (show (0 : Int) ≤ (i : Int) by omega), sReturn_eq, Option.bind_some, hR', if_pos (show s.p.length < 17592186044416 by omega)]
        rw [w64 (by omega) (by omega)]
        simp only [Th.step, hR', Bool.false_eq_true, if_false, hC'] at hnext
        exact hnext

theorem partners_ev (a : ByteArray) (hn : a.size ≤ 1048576) : Ev (fun k => spec_l01Partners.f k a) (st (bt a) a.size).p := partners_loop a hn a.size 0 (by omega)

theorem depths_loop (a : ByteArray) (hn : a.size ≤ 1048576) : ∀ d i : Nat, i + d = a.size →
    Ev (fun k => spec_l01Depths.l0 k a (st (bt a) i).d ((st (bt a) i).c.length : Int) i) (st (bt a) a.size).d := by
  intro d
  induction d with
  | zero =>
    intro i hi
    obtain rfl : i = a.size := by omega
    refine Ev.succ ?_
    simp only [spec_l01Depths.l0, if_neg (show ¬ (a.size : Int) < (a.size : Int) by omega)]
    exact Ev.now _
  | succ d ih =>
    intro i hi
    have B := basic (bt a) i
    have hnext := ih (i + 1) (by omega)
    have hst : st (bt a) (i + 1) = Th.step (st (bt a) i) i (bt a i) := rfl
    rw [hst] at hnext
    obtain ⟨lp, lq, ld, lr, lc, hc, hr⟩ := B
    generalize st (bt a) i = s at *
    refine Ev.succ ?_
    have b1 : (i : Int) < (a.size : Int) := by omega
    have b2 : (0 : Int) ≤ (i : Int) := by omega
    have b3 : s.d.length < 17592186044416 := by omega
    have e1 : wrap64 ((s.c.length : Int) + 1) = (s.c.length : Int) + 1 := w64 (by omega) (by omega)
    have e3 : wrap64 ((s.c.length : Int) - 1) = (s.c.length : Int) - 1 := w64 (by omega) (by omega)
    have e4 : wrap64 ((i : Int) + 1) = (i : Int) + 1 := w64 (by omega) (by omega)
    simp only [spec_l01Depths.l0, if_pos b1, if_pos b2, sCall_eq, sReturn_eq, Option.bind_some, e1, e3, e4, if_pos b3]
    clear e1 e3 e4
    by_cases hC : isC (bt a i) = true
    · have hR : isR (bt a i) = false := by
        cases h : isR (bt a i) with
        | false => rfl
        | true => rw [isR_notC h] at hC; cases hC
      simp only [hC, if_true, hR, Bool.false_eq_true, if_false]
      simp only [Th.step, hR, Bool.false_eq_true, if_false, hC, if_true, List.length_append, List.length_cons, List.length_nil] at hnext
      exact hnext
    · have hC' : isC (bt a i) = false := by simpa using hC
      simp only [hC', Bool.false_eq_true, if_false]
      by_cases hR : isR (bt a i) = true
      · simp only [hR, if_true]
        by_cases he : s.c = []
        · simp only [he, List.length_nil, if_neg (show ¬ ((0 : Nat) : Int) > 0 by decide)]
          simp only [Th.step, hR, if_true, he] at hnext
          exact hnext
        · have hl : 0 < s.c.length := List.length_pos_iff.2 he
          simp only [if_pos (show (s.c.length : Int) > 0 by omega)]
          simp only [Th.step, hR, if_true, if_neg he, List.length_dropLast] at hnext
          rw [show ((s.c.length - 1 : Nat) : Int) = (s.c.length : Int) - 1 by omega] at hnext
          exact hnext
      · have hR' : isR (bt a i) = false := by simpa using hR
        simp only [hR', Bool.false_eq_true, if_false]
        simp only [Th.step, hR', Bool.false_eq_true, if_false, hC'] at hnext
        exact hnext

theorem depths_ev (a : ByteArray) (hn : a.size ≤ 1048576) : Ev (fun k => spec_l01Depths.f k a) (st (bt a) a.size).d := depths_loop a hn a.size 0 (by omega)

theorem g_rd (l : List Int) (i : Nat) : rd l i = g l i := by unfold rd g; simp

theorem pending_loop (a : ByteArray) (hn : a.size ≤ 1048576) (p : List Int) (hp : p.length = a.size) : ∀ d i : Nat, i + d = a.size →
    Ev (fun k => spec_l01Pending.l0 k a p ((sel (fun j => g p j == -2 && isR (bt a j)) i).length : Int) ((sel (fun j => g p j == -2 && isC (bt a j)) i).length : Int) i)
      (((sel (fun j => g p j == -2 && isR (bt a j)) a.size).length : Int), ((sel (fun j => g p j == -2 && isC (bt a j)) a.size).length : Int)) := by
  intro d
  induction d with
  | zero =>
    intro i hi
    obtain rfl : i = a.size := by omega
    refine Ev.succ ?_
    simp only [spec_l01Pending.l0, if_neg (show ¬ (a.size : Int) < (a.size : Int) by omega)]
    exact Ev.now _
  | succ d ih =>
    intro i hi
    have hnext := ih (i + 1) (by omega)
    have e1 : ((sel (fun j => g p j == -2 && isR (bt a j)) (i + 1)).length : Int) = (sel (fun j => g p j == -2 && isR (bt a j)) i).length + (if g p i = -2 ∧ isR (bt a i) = true then 1 else 0) := by
      rw [sel]; by_cases h1 : g p i = -2 <;> by_cases h2 : isR (bt a i) = true <;> simp [h1, h2]
    have e2 : ((sel (fun j => g p j == -2 && isC (bt a j)) (i + 1)).length : Int) = (sel (fun j => g p j == -2 && isC (bt a j)) i).length + (if g p i = -2 ∧ isC (bt a i) = true then 1 else 0) := by
      rw [sel]; by_cases h1 : g p i = -2 <;> by_cases h2 : isC (bt a i) = true <;> simp [h1, h2]
    have l1 := sel_len (f := fun j => g p j == -2 && isR (bt a j)) i
    have l2 := sel_len (f := fun j => g p j == -2 && isC (bt a j)) i
    rw [e1, e2] at hnext
    generalize ((sel (fun j => g p j == -2 && isR (bt a j)) a.size).length : Int) = R1 at *
    generalize ((sel (fun j => g p j == -2 && isC (bt a j)) a.size).length : Int) = R2 at *
    generalize (sel (fun j => g p j == -2 && isR (bt a j)) i).length = x at *
    generalize (sel (fun j => g p j == -2 && isC (bt a j)) i).length = y at *
    clear e1 e2
    have b1 : (i : Int) < (a.size : Int) := by omega
    have b2 : (0 : Int) ≤ (i : Int) := by omega
    have b3 : (i : Int) < (p.length : Int) := by omega
    have f1 : wrap64 ((x : Int) + 1) = (x : Int) + 1 := w64 (by omega) (by omega)
    have f2 : wrap64 ((y : Int) + 1) = (y : Int) + 1 := w64 (by omega) (by omega)
    have f3 : wrap64 ((i : Int) + 1) = (i : Int) + 1 := w64 (by omega) (by omega)
    refine Ev.succ ?_
    simp only [spec_l01Pending.l0, if_pos b1, if_pos b2, if_pos b3, g_rd, sReturn_eq, Option.bind_some]
    have fin : ∀ z : Bool, z = (g p i == -2 && isR (bt a i)) → Ev (fun k => spec_l01Pending.j1 k a p x y i z) (R1, R2) := by
      intro z hz
      refine Ev.succ ?_
      simp only [spec_l01Pending.j1, if_pos b1, if_pos b2, if_pos b3, g_rd, sCall_eq, Option.bind_some, f1, f2, f3]
      subst hz
      by_cases h1 : g p i = -2 <;> by_cases h2 : isR (bt a i) = true <;> by_cases h3 : isC (bt a i) = true <;>
        simp only [h1, h2, h3, and_self, if_true, if_false, and_true, true_and, and_false, false_and, Int.add_zero, Bool.false_eq_true, BEq.rfl, Bool.true_and, Bool.and_true, Bool.and_false, Bool.false_and] at hnext ⊢ <;> first | exact hnext | (simp only [beq_eq_false_iff_ne.2 h1, Bool.false_and, Bool.false_eq_true, if_false]; exact hnext)
    by_cases h1 : g p i = -2
    · simp only [h1, if_true]
      exact fin _ (by simp [h1])
    · simp only [h1, if_false]
      exact fin _ (by simp [h1])

theorem pending_ev (a : ByteArray) (hn : a.size ≤ 1048576) : Ev (fun k => spec_l01Pending.f k a) (((st (bt a) a.size).r.length : Int), ((st (bt a) a.size).c.length : Int)) := by
  unfold spec_l01Pending.f
  refine Ev.bind (partners_ev a hn) ?_
  have := pending_loop a hn (st (bt a) a.size).p (basic (bt a) a.size).lp a.size 0 (by omega)
  rw [pend_r, pend_c] at this
  exact this

end Go.Proofs.Ytdiahgdjeacolaa.Br
