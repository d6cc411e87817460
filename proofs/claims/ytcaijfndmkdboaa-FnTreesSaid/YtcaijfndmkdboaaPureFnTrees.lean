/- The factors of a drawn matched word are this word, one behind the other, and each place of a drawn word has its parent, whose children are those places: for all bytes, the law's function answers true. -/
import Derived.Test.YtcaijfndmkdboaaPt5
import Derived.Test.YtcaijfndmkdboaaPt19
import Derived.Test.YtcaijfndmkdboaaPt22
import Derived.Test.YtcaijfndmkdboaaBrFnTrees
namespace Go.Proofs.Ytcaijfndmkdboaa.Pure
open Go.RowKit Go.Proofs.Ytcaijfndmkdboaa.T Go.Proofs.YtcaijfndmkdboaaW.PrintWords Go.Proofs.YtcaijfndmkdboaaW.PrintLast Go.Proofs.YtcaijfndmkdboaaW.PrintMore Go.Proofs.Ytcaijfndmkdboaa.Br Go.Proofs.Ytcaijfndmkdboaa.Th
set_option linter.unusedVariables false
set_option linter.unusedSimpArgs false
set_option linter.unusedSectionVars false

theorem call_eq (b : Int) : laws_a2Call.f b = some (isC b) := by
  unfold laws_a2Call.f isC
  by_cases h : b = 40 <;> simp [h]

theorem rdOf_at (pre L : List ByteArray) (f : ByteArray) : rdOf ByteArray.empty (pre ++ f :: L) (pre.length : Int) = f := by
  unfold rdOf
  rw [Int.toNat_natCast, List.getD_eq_getElem?_getD, List.getElem?_append_right (Nat.le_refl _)]
  simp
theorem trees_l0 (x1 : List Int) (a : ByteArray) (ha : okw a = true) (hm : mtc a = true) (R : Bool) (hR : Ev (fun k => laws_FnTrees.j2 k x1 false) R) :
    ∀ i L, Fac a i L → ∀ pre : List ByteArray, pre.length ≤ i → Ev (fun k => laws_FnTrees.l0 k x1 a (pre ++ L) 0 (a.extract 0 i) pre.length) R := by
  intro i L hF
  have hn : a.size ≤ 60 := okw_size ha
  induction hF with
  | nil =>
    intro pre hp
    refine Ev.succ ?_
    rw [List.append_nil]
    simp only [laws_FnTrees.l0, if_neg (show ¬ (pre.length : Int) < (pre.length : Int) by omega), if_true]
    rw [ext_all, show (a.toList != a.toList) = false by simp]
    exact hR
  | @cons i e L hie he h0 h1 hk hF ih =>
    intro pre hp
    have hsz := ext_size a (i := i) he
    have hf60 : (a.extract i e).size ≤ 1048576 := by omega
    have hok := okw_extract ha (i := i) he
    have hmt := part_mtc hm (by omega) he h0 h1
    have nxt := ih (pre ++ [a.extract i e]) (by simp; omega)
    rw [List.append_assoc, List.singleton_append] at nxt
    have lenl : ((pre ++ [a.extract i e]).length : Int) = ((pre.length + 1 : Nat) : Int) := by simp
    rw [lenl] at nxt
    have b1 : (pre.length : Int) < ((pre ++ a.extract i e :: L).length : Int) := by simp; omega
    have b2 : (0 : Int) ≤ (pre.length : Int) := by omega
    have bf : bt (a.extract i e) 0 = bt a i := by
      have := bt_extract a (i := i) (j := 0) he (by omega)
      simpa using this
    have lp := (basic (bt (a.extract i e)) (a.extract i e).size).lp
    have jn := ext_join a (i := i) (e := e) (by omega) he
    have hs0 : (a.extract 0 i).size = i := by rw [ext_size a (by omega)]; omega
    have d1 : i + (a.extract i e).size ≤ 9223372036854775807 := by omega
    have d2 : 0 < ((a.extract i e).size : Int) := by omega
    have d3 : ¬ ((a.extract i e).size : Int) < 1 := by omega
    have hb : ((((a.extract i e).size : Int) == 1) == isC (bt a i)) = false := by
      by_cases hC : isC (bt a i) = true
      · rw [if_pos hC] at hk
        have := (mtc_p hm (show i < a.size by omega)).1 hC
        rw [hC, show (((a.extract i e).size : Int) == 1) = false from beq_eq_false_iff_ne.2 (by omega)]
        rfl
      · rw [if_neg hC] at hk
        rw [show isC (bt a i) = false by simpa using hC, show (((a.extract i e).size : Int) == 1) = true from beq_iff_eq.2 (by omega)]
        rfl
    have u0 : wrap64 (((a.extract i e).size : Int) - 1) = ((a.extract i e).size : Int) - 1 := w64 (by omega) (by omega)
    have hC1 : ((a.extract i e).size : Int) > 1 → rd (st (bt (a.extract i e)) (a.extract i e).size).p 0 = ((a.extract i e).size : Int) - 1 := by
      clear u0
      intro h2
      have hC : isC (bt a i) = true := by
        by_cases hC : isC (bt a i) = true
        · exact hC
        · rw [if_neg hC] at hk; omega
      rw [if_pos hC] at hk
      have hp0 := part_first hm hie he h0 h1 hC hk
      have := g_rd (st (bt (a.extract i e)) (a.extract i e).size).p 0
      rw [show ((0 : Nat) : Int) = 0 from rfl] at this
      rw [this, hp0, hsz]
    have u1 : wrap64 ((pre.length : Int) + 1) = ((pre.length + 1 : Nat) : Int) := by clear u0; rw [w64 (by omega) (by omega)]; push_cast; rfl
    have j1 : Ev (fun k => laws_FnTrees.j1 k x1 a (pre ++ a.extract i e :: L) 0 (a.extract 0 i) pre.length false) R := by
      refine Ev.succ ?_
      simp only [laws_FnTrees.j1, Bool.false_eq_true, if_false, if_pos b2, if_pos b1, rdOf_at]
      refine Ev.bind (iPartners_ev _ hf60) ?_
      simp only [hok, if_true, lp, hs0, jn, u1, if_pos d1]
      by_cases h2 : ((a.extract i e).size : Int) > 1
      · simp only [if_pos h2, if_pos d2, u0, hC1 h2, if_true]
        exact nxt
      · simp only [if_neg h2]
        exact nxt
    refine Ev.succ ?_
    simp only [laws_FnTrees.l0, if_pos b1, if_pos b2, rdOf_at]
    refine Ev.bind (iIsMatched_ev _ hf60) ?_
    simp only [hok, if_true, hmt, if_neg d3, if_pos d2, call_eq, Option.bind_some, bf]
    rw [hb]
    exact j1

section
variable (w : ByteArray) (hn : w.size ≤ 60) (hw : okw w = true)
/-- How many places have a parent below. -/
def cnt (w : ByteArray) (t : Nat) : Nat := (sel (fun j => decide (g (st (bt w) w.size).q j + 1 < t)) w.size).length
def chl (w : ByteArray) (x : Int) : List Int := sel (fun j => g (st (bt w) w.size).q j == x) w.size
theorem cnt_step (t : Nat) : cnt w (t + 1) = cnt w t + (chl w ((t : Int) - 1)).length := by
  unfold cnt chl
  refine sel_add _ _ _ _ (fun j hj => ?_) (fun j hj h => ?_)
  · rw [Bool.eq_iff_iff]; simp; omega
  · simp at h; omega
theorem cnt_zero : cnt w 0 = 0 := by
  unfold cnt
  rw [sel_none]
  · rfl
  · intro j hj
    have := par_le (bt w) w.size j hj
    simp; omega
theorem cnt_all : cnt w (w.size + 1) = w.size := by
  unfold cnt
  refine sel_every _ _ fun j hj => ?_
  have := par_le (bt w) w.size j hj
  simp; omega
theorem chl_len (x : Int) : (chl w x).length ≤ w.size := sel_len _
theorem chl_at (x : Int) (m : Nat) (hm : m < (chl w x).length) : ∃ j : Nat, j < w.size ∧ rd (chl w x) m = j ∧ g (st (bt w) w.size).q j = x := by
  have hmem : rd (chl w x) m ∈ chl w x := by
    unfold rd
    rw [Int.toNat_natCast]
    exact getD_mem _ _ _ hm
  have hmem' := hmem
  unfold chl at hmem'
  rw [mem_sel] at hmem'
  obtain ⟨j, hj, e, hf⟩ := hmem'
  exact ⟨j, hj, e, by simpa using hf⟩
theorem chl_inc (x : Int) (m : Nat) (hm : m + 1 < (chl w x).length) : rd (chl w x) m < rd (chl w x) ((m + 1 : Nat) : Int) := by
  have h := sel_inc (f := fun j => g (st (bt w) w.size).q j == x) w.size
  have := List.pairwise_iff_getElem.1 h m (m + 1) (by show m < (chl w x).length; omega) hm (by omega)
  unfold rd
  rw [Int.toNat_natCast, Int.toNat_natCast, List.getD_eq_getElem?_getD, List.getD_eq_getElem?_getD, List.getElem?_eq_getElem (show m < (chl w x).length by omega), List.getElem?_eq_getElem hm]
  exact this
include hn hw
theorem trees_l2 (x19 x20 : Int) (h0 : -1 ≤ x20) (h1 : x20 < w.size) (R : Bool) (hR : Ev (fun k => laws_FnTrees.l1 k w (st (bt w) w.size).q (st (bt w) w.size).p (wrap64 (x19 + ((chl w x20).length : Int))) (wrap64 (x20 + 1))) R) :
    ∀ m, m ≤ (chl w x20).length → Ev (fun k => laws_FnTrees.l2 k w (st (bt w) w.size).q (st (bt w) w.size).p x19 x20 (chl w x20) m) R := by
  have lq := (basic (bt w) w.size).lq
  have lp := (basic (bt w) w.size).lp
  have hl := chl_len w x20
  refine down _ ?_ ?_
  · refine Ev.succ ?_
    simp only [laws_FnTrees.l2, if_neg (show ¬ ((chl w x20).length : Int) < ((chl w x20).length : Int) by omega)]
    exact hR
  · intro m hm ih
    obtain ⟨j, hj, ej, eq⟩ := chl_at w x20 m hm
    have hle := par_le (bt w) w.size j hj
    have hq : rd (st (bt w) w.size).q (j : Int) = x20 := by rw [g_rd]; exact eq
    have c1 : ¬ (j : Int) < 0 := by omega
    have c2 : ¬ (j : Int) ≥ (w.size : Int) := by omega
    have c3 : (0 : Int) ≤ (j : Int) := by omega
    have c4 : (j : Int) < ((st (bt w) w.size).q.length : Int) := by omega
    have c5 : ¬ (j : Int) ≤ x20 := by omega
    have c6 : (m : Int) < ((chl w x20).length : Int) := by omega
    have c7 : (0 : Int) ≤ (m : Int) := by omega
    -- what is asked of the place's match
    have tail : Ev (fun k => if x20 ≥ 0 then (if 0 ≤ x20 then (if x20 < ((st (bt w) w.size).p.length : Int) then (if (rd (st (bt w) w.size).p x20) ≥ 0 then (if (j : Int) ≥ (rd (st (bt w) w.size).p x20) then (some false) else (laws_FnTrees.l2 k w (st (bt w) w.size).q (st (bt w) w.size).p x19 x20 (chl w x20) ((m + 1 : Nat) : Int))) else (laws_FnTrees.l2 k w (st (bt w) w.size).q (st (bt w) w.size).p x19 x20 (chl w x20) ((m + 1 : Nat) : Int))) else (none)) else (none)) else (laws_FnTrees.l2 k w (st (bt w) w.size).q (st (bt w) w.size).p x19 x20 (chl w x20) ((m + 1 : Nat) : Int))) R := by
      by_cases hx : x20 ≥ 0
      · obtain ⟨i, rfl⟩ := Int.eq_ofNat_of_zero_le hx
        obtain ⟨p1, p2, p3⟩ := par_in (bt w) w.size j i hj eq
        simp only [if_pos hx, if_pos (show (i : Int) < ((st (bt w) w.size).p.length : Int) by omega), g_rd]
        by_cases hp : g (st (bt w) w.size).p i ≥ 0
        · simp only [if_pos hp, if_neg (show ¬ (j : Int) ≥ g (st (bt w) w.size).p i by omega)]
          exact ih
        · simp only [if_neg hp]
          exact ih
      · simp only [if_neg hx]
        exact ih
    by_cases m0 : (m : Int) > 0
    · obtain ⟨q, rfl⟩ : ∃ q, m = q + 1 := ⟨m - 1, by omega⟩
      have inc := chl_inc w x20 q hm
      rw [ej] at inc
      have k1 : (0 : Int) ≤ (q : Int) := by omega
      have k2 : (q : Int) < ((chl w x20).length : Int) := by omega
      have k3 : ¬ rd (chl w x20) (q : Int) ≥ (j : Int) := by omega
      have f1 : wrap64 (((q + 1 : Nat) : Int) - 1) = (q : Int) := by rw [w64 (by omega) (by omega)]; push_cast; omega
      have u1 : wrap64 (((q + 1 : Nat) : Int) + 1) = ((q + 1 + 1 : Nat) : Int) := by clear f1; rw [w64 (by omega) (by omega)]; push_cast; rfl
      refine Ev.succ ?_
      simp only [laws_FnTrees.l2, if_pos c6, if_pos c7, ej, if_neg c1, if_neg c2, if_pos c3, if_pos c4, hq, if_true, if_neg c5, u1, if_pos m0, f1, if_pos k1, if_pos k2, if_neg k3]
      exact tail
    · have u1 : wrap64 ((m : Int) + 1) = ((m + 1 : Nat) : Int) := by rw [w64 (by omega) (by omega)]; push_cast; rfl
      refine Ev.succ ?_
      simp only [laws_FnTrees.l2, if_pos c6, if_pos c7, ej, if_neg c1, if_neg c2, if_pos c3, if_pos c4, hq, if_true, if_neg c5, u1, if_neg m0]
      exact tail
theorem trees_l1 : ∀ t, t ≤ w.size + 1 → Ev (fun k => laws_FnTrees.l1 k w (st (bt w) w.size).q (st (bt w) w.size).p (cnt w t) ((t : Int) - 1)) true := by
  refine down (w.size + 1) ?_ ?_
  · refine Ev.succ ?_
    simp only [laws_FnTrees.l1, if_neg (show ¬ ((w.size + 1 : Nat) : Int) - 1 < (w.size : Int) by omega), cnt_all]
    refine Ev.done ?_
    simp
  · intro t ht ih
    have hl := chl_len w ((t : Int) - 1)
    have hc : cnt w t ≤ w.size := by unfold cnt; exact sel_len _
    have cs := cnt_step w t
    have k1 : -1 ≤ (t : Int) - 1 := by omega
    have k2 : (t : Int) - 1 < (w.size : Int) := by omega
    have k3 : -1 ≤ (t : Int) - 1 ∧ (t : Int) - 1 ≤ (w.size : Int) - 1 := by omega
    have k4 : w.size ≤ 1048576 := by omega
    have go : Ev (fun k => laws_FnTrees.j5 k w (st (bt w) w.size).q (st (bt w) w.size).p (cnt w t) ((t : Int) - 1) (chl w ((t : Int) - 1)) false) true := by
      refine Ev.succ ?_
      simp only [laws_FnTrees.j5, Bool.false_eq_true, if_false]
      have f1 : wrap64 ((cnt w t : Int) + ((chl w ((t : Int) - 1)).length : Int)) = (cnt w (t + 1) : Int) := by rw [w64 (by omega) (by omega)]; omega
      have f2 : wrap64 ((t : Int) - 1 + 1) = ((t + 1 : Nat) : Int) - 1 := by clear f1; rw [w64 (by omega) (by omega)]; omega
      exact trees_l2 w hn hw _ _ k1 k2 true (by rw [f1, f2]; exact ih) 0 (Nat.zero_le _)
    refine Ev.succ ?_
    simp only [laws_FnTrees.l1, if_pos k2]
    refine Ev.bind (iChildren_ev w _ k4) ?_
    simp only [childR, hw, if_true, if_pos k3, call_eq, Option.bind_some]
    by_cases hx : (t : Int) - 1 ≥ 0
    · simp only [if_pos hx]
      by_cases hC : isC (bt w ((t : Int) - 1)) = true
      · simp only [if_pos hC]
        exact go
      · simp only [if_neg hC]
        obtain ⟨i, hi⟩ := Int.eq_ofNat_of_zero_le hx
        have e0 : sel (fun j => g (st (bt w) w.size).q j == (t : Int) - 1) w.size = [] := by
          refine sel_none _ _ fun j hj => ?_
          by_cases e : g (st (bt w) w.size).q j = (t : Int) - 1
          · have := (par_in (bt w) w.size j i hj (by rw [e, hi])).2.1
            rw [hi] at hC
            exact absurd this hC
          · simpa using e
        have e1 : decide (((sel (fun j => g (st (bt w) w.size).q j == (t : Int) - 1) w.size).length : Int) > 0) = false := by rw [e0]; decide
        rw [e1]
        exact go
    · simp only [if_neg hx]
      exact go
end

theorem FnTrees : laws_FnTrees.Pure := by
  intro l m h1 h2 h3 h4 h5 h6
  apply Ev.rounds
  unfold laws_FnTrees.f laws_a2Long.f
  by_cases c0 : (l.length : Int) > 3000
  · simp only [if_pos c0, Option.bind_some, if_true]; exact Ev.now _
  by_cases c1 : (m.length : Int) > 3000
  · simp only [if_neg c0, Option.bind_some, c1, decide_true, if_true]; exact Ev.now _
  simp only [if_neg c0, Option.bind_some, c1, decide_false, Bool.false_eq_true, if_false]
  obtain ⟨u, eu, ou, mu, su⟩ := a2matched l (bytes_of_wf h3)
  obtain ⟨L, fL, eL⟩ := fac_ev u (by omega) ou mu
  refine Ev.bind eu (Ev.bind eL ?_)
  obtain ⟨w, ew, ow, sw⟩ := a2word m (bytes_of_wf h6) 14 (by decide)
  have hR : Ev (fun k => laws_FnTrees.j2 k m false) true := by
    refine Ev.succ ?_
    simp only [laws_FnTrees.j2, Bool.false_eq_true, if_false]
    refine Ev.bind ew (Ev.bind (iParents_ev w (by omega)) (Ev.bind (sPartners_ev w (by omega)) ?_))
    simp only [ow, if_true, (basic (bt w) w.size).lq, bne_self_eq_false]
    refine Ev.succ ?_
    simp only [laws_FnTrees.j3, Bool.false_eq_true, if_false]
    have := trees_l1 w (by omega) ow 0 (by omega)
    rw [cnt_zero] at this
    simpa using this
  have := trees_l0 m u ou mu true hR 0 L fL [] (by simp)
  have e0 : u.extract 0 0 = ⟨#[]⟩ := by
    refine ba_ext (by rw [ext_size u (by omega)]; rfl) fun j hj => ?_
    rw [ext_size u (by omega)] at hj; omega
  rw [e0] at this
  simpa using this
end Go.Proofs.Ytcaijfndmkdboaa.Pure
