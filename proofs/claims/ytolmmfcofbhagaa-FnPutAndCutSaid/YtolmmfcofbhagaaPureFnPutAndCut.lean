/- A matched word that is put into a drawn word changes no other match, and is cut out again; a completed word is matched and has the word in it: for all bytes, the law's function answers true. -/
import Derived.Test.YtolmmfcofbhagaaPp3
import Derived.Test.YtolmmfcofbhagaaPp9
import Derived.Test.YtolmmfcofbhagaaPp17
import Derived.Test.YtolmmfcofbhagaaPp40
import Derived.Test.YtolmmfcofbhagaaBrFnPutAndCut
namespace Go.Proofs.Ytolmmfcofbhagaa.Pure
open Go.RowKit Go.Proofs.Ytolmmfcofbhagaa.PC Go.Proofs.YtolmmfcofbhagaaW.PrintWords Go.Proofs.YtolmmfcofbhagaaW.PrintLast Go.Proofs.YtolmmfcofbhagaaW.PrintMore Go.Proofs.Ytolmmfcofbhagaa.Br Go.Proofs.Ytolmmfcofbhagaa.Th
set_option linter.unusedVariables false
set_option linter.unusedSimpArgs false

theorem at_ev (l : List Int) (hs : Bytes l) (n : Nat) (hn : n ≤ 60) : ∃ i : Nat, laws_a2At.f l 0 ((n : Int) + 1) = some (i : Int) ∧ i ≤ n := by
  unfold laws_a2At.f
  by_cases h : (0 : Int) ≥ (l.length : Int)
  · exact ⟨0, by rw [if_pos h]; rfl, Nat.zero_le _⟩
  · obtain ⟨b0, b1⟩ := bytes_rd hs 0
    have f1 : wrap64 (rd l 0) = rd l 0 := w64 (by omega) (by omega)
    rw [if_neg h, if_neg (by omega), if_pos (Int.le_refl _), if_pos (by omega), if_neg (by omega), f1]
    generalize rd l 0 = v at *
    obtain ⟨q, rfl⟩ := Int.eq_ofNat_of_zero_le b0
    refine ⟨q % (n + 1), ?_, by have := Nat.mod_lt q (show n + 1 > 0 by omega); omega⟩
    rw [Int.tmod_eq_emod_of_nonneg (by omega)]
    push_cast; rfl

theorem brk_mtc (m : ByteArray) (hm : mtc m = true) : mtc (brk m) = true := by
  obtain ⟨mr, mc⟩ := mtc_nil hm
  have hbs := brk_size m
  have b0 := brk_bt m 0 (by omega)
  rw [if_pos rfl] at b0
  have bl := brk_bt m (m.size + 1) (by omega)
  rw [if_neg (by omega), if_pos rfl] at bl
  have hseg : st (fun j => bt (brk m) ((0 + 1 : Nat) + j)) m.size = st (bt m) m.size := by
    refine st_congr _ fun j hj => ?_
    show bt (brk m) (((0 + 1 : Nat) : Int) + (j : Int)) = bt m j
    rw [show ((0 + 1 : Nat) : Int) + (j : Int) = ((j + 1 : Nat) : Int) by omega, brk_bt m (j + 1) (by omega), if_neg (by omega), if_neg (by omega)]
    rfl
  obtain ⟨_, c2, r2, _, _⟩ := bracket (bt (brk m)) 0 m.size (by rw [b0]; decide) (by rw [hseg]; exact mr) (by rw [hseg]; exact mc) (by rw [show 0 + 1 + m.size = m.size + 1 by omega, bl]; decide)
  rw [Nat.zero_add] at c2 r2
  unfold mtc
  rw [hbs, c2, r2]
  rfl
theorem open_okw : okw (⟨#[40]⟩ : ByteArray) = true := by decide
theorem open_mtc : mtc (⟨#[40]⟩ : ByteArray) = false := by decide
theorem comp_size (a : ByteArray) : (compW a).size = (st (bt a) a.size).r.length + a.size + (st (bt a) a.size).c.length := by
  unfold compW
  rw [ByteArray.size_append, ByteArray.size_append, rp_size, sn_size, bk_len, at_len]; omega

section
variable (w m : ByteArray) (i : Nat) (hi : i ≤ w.size) (hw : okw w = true) (hok : okw m = true) (hm : mtc m = true) (sw : w.size ≤ 12) (sm : m.size ≤ 20)
include hi hw hok hm sw sm
theorem pc_l0 : ∀ k, k ≤ w.size → Ev (fun n => laws_FnPutAndCut.l0 n w (brk m) i (st (bt w) w.size).p (st (bt (ins w i (brk m))) (ins w i (brk m)).size).p ((brk m).size : Int) k) true := by
  have hb := brk_size m
  have hins := ins_size w (brk m) hi
  have lp := (basic (bt w) w.size).lp
  have lp2 := (basic (bt (ins w i (brk m))) (ins w i (brk m)).size).lp
  have ob := brk_okw hok sm
  refine down w.size ?_ ?_
  · have lr := (basic (bt w) w.size).lr
    have lc := (basic (bt w) w.size).lc
    have hcs := comp_size w
    have hc60 : (compW w).size ≤ 60 := by omega
    have oc := comp_okw hw
    rw [decide_eq_true hc60] at oc
    have mc := comp_mtc hw
    have hR : compR w = (compW w, 0) := by
      unfold compR
      rw [if_pos hw, if_neg (by omega)]
    have hp : Ev (fun k => impl_PendingOf.f k w) (((st (bt w) w.size).r.length : Int), ((st (bt w) w.size).c.length : Int), 0) := by
      unfold impl_PendingOf.f
      refine Ev.bind (valid_ev w (by omega)) ?_
      simp only [hw, if_true]
      exact Ev.bind (match_ev w (by omega)) (Ev.now _)
    have hput : putR w i (⟨#[40]⟩ : ByteArray) = ((⟨#[]⟩ : ByteArray), 4) := by
      unfold putR
      rw [if_pos ⟨hw, open_okw⟩, if_pos (by omega), open_mtc, if_neg (by decide)]
    have hwf : (Lit.int .i64 (i : Int)).wf = true := by simp [Lit.wf, IntKind.min, IntKind.max, IntKind.bits, IntKind.signed]; omega
    have mid := comp_mid w
    generalize hrr : (st (bt w) w.size).r.length = R at *
    generalize hcc : (st (bt w) w.size).c.length = C at *
    have d1 : w.size + (brk m).size ≤ 9223372036854775807 := by omega
    have d2 : (0 : Int) ≤ (R : Int) := by omega
    have d3 : (R : Int) ≤ ((R + w.size : Nat) : Int) := by omega
    have d4 : ((R + w.size : Nat) : Int) ≤ ((compW w).size : Int) := by omega
    have d5 : ((compW w).size : Int) = ((w.size + R + C : Nat) : Int) := by omega
    have f1 : wrap64 ((w.size : Int) + (R : Int)) = ((w.size + R : Nat) : Int) := by rw [w64 (by omega) (by omega)]; push_cast; rfl
    have f2 : wrap64 (((w.size + R : Nat) : Int) + (C : Int)) = ((w.size + R + C : Nat) : Int) := by clear f1; rw [w64 (by omega) (by omega)]; push_cast; rfl
    have f3 : wrap64 ((R : Int) + (w.size : Int)) = ((R + w.size : Nat) : Int) := by clear f1 f2; rw [w64 (by omega) (by omega)]; push_cast; rfl
    refine Ev.succ ?_
    simp only [laws_FnPutAndCut.l0, if_neg (show ¬ (w.size : Int) < (w.size : Int) by clear f1 f2 f3; omega)]
    refine Ev.bind (iComplete_ev w (by clear f1 f2 f3; omega)) ?_
    rw [hR]
    refine Ev.bind (iIsMatched_ev (compW w) (by clear f1 f2 f3; omega)) ?_
    refine Ev.bind hp ?_
    refine Ev.bind (iJoin_ev hw ob (by clear f1 f2 f3; omega)) ?_
    refine Ev.bind (iPut_ev w i (⟨#[40]⟩ : ByteArray) (by clear f1 f2 f3; omega) (by decide) hwf) ?_
    rw [hput]
    simp only [oc, mc, if_true, f1, f2, f3, if_pos d5, if_pos d2, if_pos d3, if_pos d4, Int.toNat_natCast, mid, if_pos d1]
    exact Ev.done (by decide)
  · intro k hk ih
    have h := ins_partner w m i hi hm k hk
    have hg := g_rd (st (bt w) w.size).p k
    have c1 : (k : Int) < (w.size : Int) := by omega
    have c2 : (k : Int) < ((st (bt w) w.size).p.length : Int) := by omega
    have hpr : -2 ≤ g (st (bt w) w.size).p k ∧ g (st (bt w) w.size).p k < w.size := by
      have I := inv (bt w) w.size
      by_cases h0 : 0 ≤ g (st (bt w) w.size).p k
      · exact ⟨by omega, (I.pos k hk h0).1⟩
      · refine ⟨I.lo k hk, by omega⟩
    have c3 : ((if k ≥ i then k + (m.size + 2) else k : Nat) : Int) < ((st (bt (ins w i (brk m))) (ins w i (brk m)).size).p.length : Int) := by
      rw [lp2, hins, hb]
      split <;> omega
    have hg2 := g_rd (st (bt (ins w i (brk m))) (ins w i (brk m)).size).p (if k ≥ i then k + (m.size + 2) else k)
    rw [h] at hg2
    generalize (st (bt (ins w i (brk m))) (ins w i (brk m)).size).p = Q at *
    generalize (st (bt w) w.size).p = P at *
    generalize hv : g P k = v at *
    have u1 := up1 k (by omega)
    have j3 : Ev (fun n => laws_FnPutAndCut.j3 n w (brk m) i P Q ((brk m).size : Int) k ((if k ≥ i then k + (m.size + 2) else k : Nat) : Int)) true := by
      refine Ev.succ ?_
      simp only [laws_FnPutAndCut.j3, if_pos (i0 k), if_pos c2, hg, if_pos (i0 (if k ≥ i then k + (m.size + 2) else k)), if_pos c3, hg2, u1]
      clear u1
      unfold put
      by_cases hvi : v ≥ i
      · have f1 : wrap64 (v + ((brk m).size : Int)) = v + ((m.size + 2 : Nat) : Int) := by rw [w64 (by omega) (by omega)]; omega
        simp only [if_pos hvi, f1, if_true]
        exact ih
      · simp only [if_neg hvi, if_true]
        exact ih
    have f2 : wrap64 ((k : Int) + ((brk m).size : Int)) = ((k + (m.size + 2) : Nat) : Int) := by clear u1; rw [w64 (by omega) (by omega)]; omega
    refine Ev.succ ?_
    simp only [laws_FnPutAndCut.l0, if_pos c1, f2]
    clear f2 u1
    by_cases hki : k ≥ i
    · rw [if_pos hki] at j3
      simp only [if_pos (show (k : Int) ≥ (i : Int) by omega)]
      exact j3
    · rw [if_neg hki] at j3
      simp only [if_neg (show ¬ (k : Int) ≥ (i : Int) by omega)]
      exact j3
theorem pc_all : Ev (fun n => laws_FnPutAndCut.j0 n w (brk m) i (ins w i (brk m)) (st (bt w) w.size).p (st (bt (ins w i (brk m))) (ins w i (brk m)).size).p false) true := by
  have hb := brk_size m
  have hins := ins_size w (brk m) hi
  have ob := brk_okw hok sm
  have ox := okw_ins hw ob hi
  rw [decide_eq_true (by omega)] at ox
  have hwf : (Lit.int .i64 (i : Int)).wf = true := by simp [Lit.wf, IntKind.min, IntKind.max, IntKind.bits, IntKind.signed]; omega
  refine Ev.succ ?_
  simp only [laws_FnPutAndCut.j0, Bool.false_eq_true, if_false]
  refine Ev.bind (iCut_ev _ _ (by omega) hwf) ?_
  rw [cut_back w m i hi hm ox]
  simp only [if_true, bne_self_eq_false]
  refine Ev.succ ?_
  simp only [laws_FnPutAndCut.j1, Bool.false_eq_true, if_false]
  exact pc_l0 w m i hi hw hok hm sw sm 0 (Nat.zero_le _)
end

theorem FnPutAndCut : laws_FnPutAndCut.Pure := by
  intro l m h1 h2 h3 h4 h5 h6
  apply Ev.rounds
  unfold laws_FnPutAndCut.f laws_a2Long.f
  by_cases c0 : (l.length : Int) > 3000
  · simp only [if_pos c0, Option.bind_some, if_true]; exact Ev.now _
  by_cases c1 : (m.length : Int) > 3000
  · simp only [if_neg c0, Option.bind_some, c1, decide_true, if_true]; exact Ev.now _
  simp only [if_neg c0, Option.bind_some, c1, decide_false, Bool.false_eq_true, if_false]
  obtain ⟨w, ew, ow, sw⟩ := a2word l (bytes_of_wf h3) 12 (by decide)
  obtain ⟨u, eu, ou, mu, su⟩ := a2matched_m m (bytes_of_wf h6) 8 (by decide)
  obtain ⟨i, ei, hi⟩ := at_ev m (bytes_of_wf h6) w.size (by omega)
  have hb := brk_size u
  have hins := ins_size w (brk u) hi
  have ob := brk_okw ou su
  have ox := okw_ins ow ob hi
  rw [decide_eq_true (by omega)] at ox
  have mb : mtc (brk u) = true := brk_mtc u mu
  have lp := (basic (bt w) w.size).lp
  have lp2 := (basic (bt (ins w i (brk u))) (ins w i (brk u)).size).lp
  have hwf : (Lit.int .i64 (i : Int)).wf = true := by simp [Lit.wf, IntKind.min, IntKind.max, IntKind.bits, IntKind.signed]; omega
  have hput : putR w i (brk u) = (ins w i (brk u), 0) := by
    unfold putR
    rw [if_pos ⟨ow, ob⟩, if_pos (by omega), mb, if_pos rfl, if_pos (by omega), Int.toNat_natCast]
  have k1 : 1 + u.size ≤ 9223372036854775807 := by omega
  have k2 : ((⟨#[91]⟩ : ByteArray) ++ u).size + 1 ≤ 9223372036854775807 := by
    rw [ByteArray.size_append, show (⟨#[91]⟩ : ByteArray).size = 1 from rfl]; omega
  have e1 : (w.extract 0 i).size = i := by rw [exs_size w hi]; omega
  have e2 : (w.extract i w.size).size = w.size - i := by rw [exs_size w (Nat.le_refl _)]
  have k3 : (w.extract 0 i).size + (brk u).size ≤ 9223372036854775807 := by omega
  have k4 : ((w.extract 0 i) ++ brk u).size + (w.extract i w.size).size ≤ 9223372036854775807 := by rw [ByteArray.size_append]; omega
  have k5 : (i : Int) ≤ (w.size : Int) := by omega
  have k6 : ((st (bt w) w.size).p.length : Int) = (w.size : Int) := by omega
  have k7 : (((st (bt (ins w i (brk u))) (ins w i (brk u)).size).p.length : Int) != ((ins w i (brk u)).size : Int)) = false := by rw [lp2]; simp
  have f1 : wrap64 ((w.size : Int) + 1) = (w.size : Int) + 1 := w64 (by omega) (by omega)
  refine Ev.bind ew (Ev.bind eu ?_)
  simp only [if_pos k1, if_pos k2, f1, ei, Option.bind_some]
  clear f1
  rw [show ((⟨#[91]⟩ : ByteArray) ++ u) ++ (⟨#[41]⟩ : ByteArray) = brk u from rfl]
  refine Ev.bind (iPut_ev w i (brk u) (by omega) (by omega) hwf) ?_
  rw [hput]
  refine Ev.bind (iPartners_ev w (by omega)) ?_
  refine Ev.bind (iPartners_ev (ins w i (brk u)) (by omega)) ?_
  simp only [ow, ox, if_true, if_pos (i0 i), if_pos k5, Int.toNat_natCast, if_pos k3, if_pos k4, if_pos k6, k7]
  rw [show (w.extract 0 i ++ brk u) ++ w.extract i w.size = ins w i (brk u) from rfl]
  simp only [if_true]
  exact pc_all w u i hi ow ou mu sw su
end Go.Proofs.Ytolmmfcofbhagaa.Pure
