/- The depth of a drawn word grows at calls and falls at returns that match, and is that of open calls in the end: for all bytes, the law's function answers true. -/
import Derived.Test.YtpbckaimchoplaaPx9
import Derived.Test.YtpbckaimchoplaaPx20
import Derived.Test.YtpbckaimchoplaaPx36
import Derived.Test.YtpbckaimchoplaaPx37
import Derived.Test.YtpbckaimchoplaaPx38
import Derived.Test.YtpbckaimchoplaaBrFnDepths
namespace Go.Proofs.Ytpbckaimchoplaa.Pure
open Go.RowKit Go.Proofs.Ytpbckaimchoplaa.P Go.Proofs.YtpbckaimchoplaaW.PrintWords Go.Proofs.YtpbckaimchoplaaW.PrintLast Go.Proofs.YtpbckaimchoplaaW.PrintMore Go.Proofs.Ytpbckaimchoplaa.Br Go.Proofs.Ytpbckaimchoplaa.Th
set_option linter.unusedVariables false
set_option linter.unusedSimpArgs false

theorem call_eq (b : Int) : laws_a2Call.f b = some (isC b) := by
  unfold laws_a2Call.f isC
  by_cases h : b = 40 <;> simp [h]
theorem return_eq (b : Int) : laws_a2Return.f b = some (isR b) := by
  unfold laws_a2Return.f isR
  by_cases h : b = 41 <;> simp [h]

theorem step_d (b : Int → Int) (n : Nat) : (st b (n + 1)).d = (st b n).d ++ [((st b (n + 1)).c.length : Int)] := by
  show (Th.step (st b n) n (b n)).d = _ ++ [((Th.step (st b n) n (b n)).c.length : Int)]
  unfold Th.step
  split
  · split
    · simp
    · simp
  · split
    · simp
    · simp
theorem d_get (b : Int → Int) : ∀ n i : Nat, i ≤ n → rd (st b n).d i = ((st b i).c.length : Int)
  | 0, i, h => by
    obtain rfl : i = 0 := by omega
    simp [st, rd]
  | n + 1, i, h => by
    have ld := (basic b n).ld
    rw [step_d]
    unfold rd
    rw [Int.toNat_natCast, List.getD_eq_getElem?_getD]
    by_cases hi : i ≤ n
    · have := d_get b n i hi
      unfold rd at this
      rw [Int.toNat_natCast, List.getD_eq_getElem?_getD] at this
      rw [List.getElem?_append_left (by omega)]
      exact this
    · obtain rfl : i = n + 1 := by omega
      rw [List.getElem?_append_right (by omega), ld]
      simp
theorem c_next (b : Int → Int) (n : Nat) : ((st b (n + 1)).c.length : Int) =
    (let x := if isC (b n) = true then ((st b n).c.length : Int) + 1 else ((st b n).c.length : Int); if isR (b n) = true ∧ x > 0 then x - 1 else x) := by
  show ((Th.step (st b n) n (b n)).c.length : Int) = _
  unfold Th.step
  by_cases hR : isR (b n) = true
  · have hC := isR_notC hR
    by_cases he : (st b n).c = []
    · simp [hR, hC, he]
    · have : 0 < (st b n).c.length := List.length_pos_iff.2 he
      simp only [hR, hC, if_true, if_neg he, Bool.false_eq_true, if_false, true_and, List.length_dropLast]
      rw [if_pos (by omega)]
      omega
  · by_cases hC : isC (b n) = true
    · simp [hR, hC]
    · simp [hR, hC]

theorem depths_l (w : ByteArray) (hn : w.size ≤ 60) (G : Int) (hG : G = most 0 (st (bt w) w.size).d) : ∀ d i : Nat, i + d = w.size →
    Ev (fun k => laws_FnDepths.l0 k w (st (bt w) w.size).d G (most 0 ((st (bt w) w.size).d.take (i + 1))) i) true := by
  have ld := (basic (bt w) w.size).ld
  intro d
  induction d with
  | zero =>
    intro i hi
    obtain rfl : i = w.size := by omega
    refine Ev.succ ?_
    simp only [laws_FnDepths.l0, if_neg (show ¬ (w.size : Int) < (w.size : Int) by omega)]
    refine Ev.done ?_
    rw [List.take_of_length_le (by omega), hG]
    simp
  | succ d ih =>
    intro i hi
    have hnext := ih (i + 1) (by omega)
    have hg0 := d_get (bt w) w.size i (by omega)
    have hg1 := d_get (bt w) w.size (i + 1) (by omega)
    have hcn := c_next (bt w) i
    have hl := (basic (bt w) i).lc
    have htk : most 0 ((st (bt w) w.size).d.take (i + 1 + 1)) = mx (most 0 ((st (bt w) w.size).d.take (i + 1))) ((st (bt w) (i + 1)).c.length : Int) := by
      rw [List.take_succ_eq_append_getElem (by omega : i + 1 < (st (bt w) w.size).d.length), most, List.foldl_append]
      unfold rd at hg1
      rw [Int.toNat_natCast, List.getD_eq_getElem?_getD, List.getElem?_eq_getElem (by omega)] at hg1
      simp only [Option.getD_some] at hg1
      rw [hg1]
      rfl
    rw [htk] at hnext
    have b1 : (i : Int) < (w.size : Int) := by omega
    have b2 : (0 : Int) ≤ (i : Int) := by omega
    have b3 : (i : Int) < ((st (bt w) w.size).d.length : Int) := by omega
    have b4 : (0 : Int) ≤ ((i + 1 : Nat) : Int) := by omega
    have b5 : ((i + 1 : Nat) : Int) < ((st (bt w) w.size).d.length : Int) := by omega
    generalize most 0 ((st (bt w) w.size).d.take (i + 1)) = M at *
    generalize hD : (st (bt w) w.size).d = D at *
    generalize hx : ((st (bt w) i).c.length : Int) = x at *
    generalize hy : ((st (bt w) (i + 1)).c.length : Int) = y at *
    have x0 : 0 ≤ x ∧ x ≤ 60 := by omega
    have f1 : wrap64 ((i : Int) + 1) = ((i + 1 : Nat) : Int) := by rw [w64 (by omega) (by omega)]; push_cast; rfl
    have j4 : Ev (fun k => laws_FnDepths.j4 k w D G M i y) true := by
      refine Ev.succ ?_
      simp only [laws_FnDepths.j4, f1, if_pos b4, if_pos b5, hg1, if_true]
      unfold mx at hnext
      by_cases h : M < y
      · rw [if_pos h] at hnext
        simp only [gt_iff_lt, if_pos h]
        exact hnext
      · rw [if_neg h] at hnext
        simp only [gt_iff_lt, if_neg h]
        exact hnext
    have j2 : ∀ z : Int, 0 ≤ z → z ≤ 61 → (if isR (bt w i) = true ∧ z > 0 then z - 1 else z) = y → Ev (fun k => laws_FnDepths.j2 k w D G M i z) true := by
      intro z z0 z1 hz
      have f2 : wrap64 (z - 1) = z - 1 := w64 (by omega) (by omega)
      refine Ev.succ ?_
      simp only [laws_FnDepths.j2, if_pos b2, if_pos b1, return_eq, Option.bind_some]
      have j3 : ∀ q : Bool, (if q = true then z - 1 else z) = y → Ev (fun k => laws_FnDepths.j3 k w D G M i z q) true := by
        intro q hq
        refine Ev.succ ?_
        simp only [laws_FnDepths.j3, f2]
        cases q with
        | true => simp only [if_true] at hq ⊢; rw [hq]; exact j4
        | false => simp only [Bool.false_eq_true, if_false] at hq ⊢; rw [hq]; exact j4
      by_cases hR : isR (bt w i) = true
      · simp only [hR, if_true]
        simp only [hR, true_and] at hz
        refine j3 _ ?_
        simpa using hz
      · simp only [hR, if_false]
        simp only [hR, false_and, if_false] at hz
        exact j3 false (by simpa using hz)
    refine Ev.succ ?_
    have f3 : wrap64 (x + 1) = x + 1 := w64 (by omega) (by omega)
    simp only [laws_FnDepths.l0, if_pos b1, if_pos b2, if_pos b3, call_eq, Option.bind_some, hg0, f3]
    by_cases hC : isC (bt w i) = true
    · simp only [hC, if_true] at hcn ⊢
      exact j2 _ (by omega) (by omega) hcn.symm
    · simp only [hC, if_false] at hcn ⊢
      exact j2 _ (by omega) (by omega) hcn.symm

theorem FnDepths : laws_FnDepths.Pure := by
  intro l m h1 h2 h3 h4 h5 h6
  apply Ev.rounds
  unfold laws_FnDepths.f laws_a2Long.f
  by_cases c0 : (l.length : Int) > 3000
  · simp only [if_pos c0, Option.bind_some, if_true]; exact Ev.now _
  by_cases c1 : (m.length : Int) > 3000
  · simp only [if_neg c0, Option.bind_some, c1, decide_true, if_true]; exact Ev.now _
  simp only [if_neg c0, Option.bind_some, c1, decide_false, Bool.false_eq_true, if_false]
  obtain ⟨w, ew, ow, sw⟩ := a2word l (bytes_of_wf h3) 16 (by decide)
  have hn : w.size ≤ 1048576 := by omega
  have hs : w.size ≤ 60 := by omega
  refine Ev.bind ew (Ev.bind (iDepths_ev w hn) (Ev.bind (iDepth_ev w hn) ?_))
  have hp : Ev (fun k => impl_PendingOf.f k w) (((st (bt w) w.size).r.length : Int), ((st (bt w) w.size).c.length : Int), 0) := by
    unfold impl_PendingOf.f
    refine Ev.bind (valid_ev w hn) ?_
    simp only [ow, if_true]
    exact Ev.bind (match_ev w hn) (Ev.now _)
  refine Ev.bind hp ?_
  have ld := (basic (bt w) w.size).ld
  have f1 : wrap64 ((w.size : Int) + 1) = (w.size : Int) + 1 := w64 (by omega) (by omega)
  have e0 := d_get (bt w) w.size 0 (by omega)
  have en := d_get (bt w) w.size w.size (by omega)
  have b1 : ((st (bt w) w.size).d.length : Int) = (w.size : Int) + 1 := by omega
  have b2 : 0 < ((st (bt w) w.size).d.length : Int) := by omega
  have b3 : (0 : Int) ≤ (w.size : Int) := by omega
  have b4 : (w.size : Int) < ((st (bt w) w.size).d.length : Int) := by omega
  have e0' : rd (st (bt w) w.size).d 0 = 0 := by simpa [st] using e0
  simp only [ow, if_true, f1, b1, e0', if_pos b3, en, bne_self_eq_false]
  rw [b1] at b2 b4
  simp only [if_pos b2, if_pos b4]
  refine Ev.succ ?_
  simp only [laws_FnDepths.j0, Bool.false_eq_true, if_false]
  have := depths_l w hs _ rfl w.size 0 (Nat.zero_add _)
  have h0 : most 0 ((st (bt w) w.size).d.take (0 + 1)) = 0 := by
    obtain ⟨t, ht⟩ := st_d (bt w) w.size
    rw [ht]
    simp [most, mx]
  rw [h0] at this
  exact this
end Go.Proofs.Ytpbckaimchoplaa.Pure
