/- Texts that this law leans on, several in one; written by programs of these sessions (print, wip/deep, gather.py). -/
import Derived.Test.YtgfilbgjnloopaaGe2
namespace Go.Proofs.Ytgfilbgjnloopaa.P
open Go.RowKit Go.Proofs.YtgfilbgjnloopaaW.PrintWords Go.Proofs.YtgfilbgjnloopaaW.PrintLast Go.Proofs.YtgfilbgjnloopaaW.PrintMore
set_option linter.unusedVariables false
set_option linter.unusedSimpArgs false
def okAlg (P Wr : List (List Int)) (In : List Int) (Ac : List Bool) : Bool :=
 decide ((1 ≤ Ac.length ∧ Ac.length ≤ 40) ∧ P.length = Ac.length ∧ Wr.length = 4 ∧ areEl (Ac.length : Int) In 2 = true ∧ (∀ r ∈ P ++ Wr, areEl (Ac.length : Int) r (Ac.length : Int) = true) ∧ (∀ i : Nat, i < Ac.length → pp P 0 i = i ∧ pp P i 0 = i) ∧ ∀ i : Nat, i < Ac.length → ∀ k : Nat, k < Ac.length → ∀ j : Nat, j < Ac.length → pp P (pp P i k) j = pp P i (pp P k j))
section
variable {P Wr : List (List Int)} {In : List Int} {Ac : List Bool}
def OkAlg (P Wr : List (List Int)) (In : List Int) (Ac : List Bool) : Prop := (1 ≤ Ac.length ∧ Ac.length ≤ 40) ∧ P.length = Ac.length ∧ Wr.length = 4 ∧ areEl (Ac.length : Int) In 2 = true ∧ (∀ r ∈ P ++ Wr, areEl (Ac.length : Int) r (Ac.length : Int) = true) ∧ (∀ i : Nat, i < Ac.length → pp P 0 i = i ∧ pp P i 0 = i) ∧ ∀ i : Nat, i < Ac.length → ∀ k : Nat, k < Ac.length → ∀ j : Nat, j < Ac.length → asc P i k j
theorem ok_yes (h : OkAlg P Wr In Ac) : okAlg P Wr In Ac = true := decide_eq_true h
theorem ok_no (h : ¬ OkAlg P Wr In Ac) : okAlg P Wr In Ac = false := decide_eq_false h
theorem wt_true (n : Nat) (h : 1 ≤ n ∧ n ≤ 40) : impl_within.f (n : Int) 1 40 = some true := by
 unfold impl_within.f
 rw [if_pos (by omega), decide_eq_true (by omega)]
theorem wt_false (n : Nat) (h : ¬ (1 ≤ n ∧ n ≤ 40)) : impl_within.f (n : Int) 1 40 = some false := by
 unfold impl_within.f
 by_cases h1 : (n : Int) ≥ 1
 ·rw [if_pos h1, decide_eq_false (by omega)]
 ·rw [if_neg h1]
theorem take_rdL (l : List (List Int)) (i : Nat) (h : i < l.length) : l.take (i + 1) = l.take i ++ [rd_L1 l (i : Int)] := by
 unfold rd_L1
 rw [List.take_add_one, Int.toNat_natCast, List.getD_eq_getElem?_getD, List.getElem?_eq_getElem h]
 rfl
theorem areEl_ent {n : Int} {r : List Int} {m : Int} (h : areEl n r m = true) : (r.length : Int) = m ∧ ∀ x ∈ r, 0 ≤ x ∧ x ≤ n - 1 := by
 unfold areEl at h
 rw [Bool.and_eq_true, beq_iff_eq] at h
 refine ⟨h.1, fun x hx => ?_⟩
 have h2 := h.2
 rw [Bool.not_eq_true', List.any_eq_false] at h2
 have h3 := h2 x hx
 unfold inR at h3
 simp only [Bool.not_eq_true', Bool.not_eq_false', Bool.and_eq_true, decide_eq_true_eq, Bool.not_eq_true, Bool.eq_false_iff, ne_eq] at h3
 exact Classical.byContradiction h3
theorem tab_of (h : P.length = Ac.length) (hr : ∀ r ∈ P, areEl (Ac.length : Int) r (Ac.length : Int) = true) : Tab Ac.length P := by
 have mem : ∀ i : Nat, i < Ac.length → rd_L1 P (i : Int) ∈ P := fun i hi => by
  unfold rd_L1
  rw [Int.toNat_natCast, List.getD_eq_getElem?_getD, List.getElem?_eq_getElem (by omega)]
  exact List.getElem_mem _
 have len : ∀ i : Nat, i < Ac.length → (rd_L1 P (i : Int)).length = Ac.length := fun i hi => by
  have := (areEl_ent (hr _ (mem i hi))).1
  omega
 refine ⟨h, fun i k hi hk => ?_, len⟩
 have h2 := (areEl_ent (hr _ (mem i hi))).2 (rd (rd_L1 P (i : Int)) (k : Int)) (by
  have hl := len i hi
  unfold rd
  rw [Int.toNat_natCast, List.getD_eq_getElem?_getD, List.getElem?_eq_getElem (by omega)]
  exact List.getElem_mem _)
 exact ⟨(rd (rd_L1 P (i : Int)) (k : Int)).toNat, by omega, by omega⟩
end
section
variable {P : Program} {ops : Array Oper} {rest : List Oper} {oi : Oper} {a : Act} {Q : Exit → Act → World → Prop} {W : World}
theorem lit_event (hg : oi.guard = none) {N : Tmp} (_hd : oi.dst = some N) {cs : Array Value} {t : TypeId} {n : Nat}
  (hr : (execOp a.eval oi).run P W = .ok (.value (.slice (some ⟨W.heap.size, 0, none⟩) n n)) (W.alloc (.cells cs t)))
  (h : ∀ g w', w'.heap[g]? = some (.cells cs t (0, 0)) → Below W.heap.size W w' → wpList P ops Q rest (a.put oi.dst (.slice (some ⟨g, 0, none⟩) n n)) w') : wpList P ops Q (oi :: rest) a W :=
 Kd.event_run hg hr (h _ _ (heap_alloc_new W _) (pA (Below.refl _ _) _))
end
def valg.T4 : Bool × List (List Nat × List Nat) := (true, [([], []), ([0], [0]), ([1], [1]), ([2, 1], [2]), ([3], [3]), ([4, 3], [3, 4]), ([5, 3, 3], [3, 5]), ([3], [3]), ([6, 7, 3], [3, 6, 7]), ([3, 8], [3, 8]), ([9, 6], [9]), ([10], [10]), ([11, 10], [10, 11]), ([12, 10], [10, 12]), ([13, 10], [10, 13]), ([10, 14], [10, 14]), ([15, 10], [15]), ([16], [16]), ([16], [16]), ([18, 16], [16, 18]), ([17, 19, 16, 16], [16, 17, 19]), ([20, 16], [16, 20]), ([16, 21], [16, 21])])
def valg.B4 : List Nat := [0, 1, 3, 7, 15, 31, 63, 15, 255, 511, 1023, 2047, 4095, 8191, 16383, 32767, 65535, 131071, 131071, 393215, 1048575, 2097151, 4194303]
theorem valg.tab4 : rtab .any (opsOf Try.f10 4) = valg.T4 := by kernel_rfl
theorem valg.bits4 : waitsOk valg.T4.2 valg.B4 = true := by kernel_rfl
set_option maxHeartbeats 8000000 in
set_option maxRecDepth 100000 in
theorem valg_calls (A0 : Option Addr) (c0 : Nat) (P : List (List Int)) (A1 : Option Addr) (c1 : Nat) (Wr : List (List Int)) (A2 : Option Addr) (c2 : Nat) (In : List Int) (A3 : Option Addr) (c3 : Nat) (Ac : List Bool) (w : World)
  (hP : Kd.C (Kd.slice 2 (Kd.int .i64)) w A0 P.length P) (h0 : P.length ≤ c0) (hW : Kd.C (Kd.slice 2 (Kd.int .i64)) w A1 Wr.length Wr) (h1 : Wr.length ≤ c1) (hI : (Kd.int .i64).C w A2 In.length In) (h2 : In.length ≤ c2) (hA : Kd.bool.C w A3 Ac.length Ac) (h3 : Ac.length ≤ c3) :
  Calls Try.prog 10 #[.agg #[.slice A0 P.length c0, .slice A1 Wr.length c1, .slice A2 In.length c2, .slice A3 Ac.length c3]] w fun e w' => e = .returned (.bool (okAlg P Wr In Ac)) ∧ Below w.heap.size w w' := by
 have hu29 := Try.underlying29
 have hu59 := Try.underlying59
 have HP := AZ.mk hP
 have HW := AZ.mk hW
 have HI := AZ.mk hI
 have HA := AZ.mk hA
 have HC0 := AZ.mk h0
 have HC1 := AZ.mk h1
 have HC2 := AZ.mk h2
 have HC3 := AZ.mk h3
 have HB := AZ.mk (Below.refl w.heap.size w)
 clear hP h0 hW h1 hI h2 hA h3
 go_enter Try.func10, Try.ntmps10
 go_wp2_with (first | ((with_reducible refine gate_dst (N := 1) rfl ?_); refine box_event ?hg (N := 1) ?hd (cs := #[.slice A0 P.length c0, .slice A1 Wr.length c1, .slice A2 In.length c2, .slice A3 Ac.length c3]) (t := 29) ?hr ?_; (case hd => rfl); (case hg => rfl); (case hr => first | (go_simp; done) | (go_simp; rfl)); intro gB hg WgB hbx hb; have BB := AZ.mk hbx; have n0_ := AZ.mk (pT HB.out hb); clear HB; have HB := n0_; clear n0_; clear hb hbx hg; have hz0 := (bc BB.out 0).trans rfl; have hz1 := (bc BB.out 1).trans rfl; have hz2 := (bc BB.out 2).trans rfl; have hz3 := (bc BB.out 3).trans rfl) | ((with_reducible refine gate_callee (f := 29) rfl ?_); (try (refine gate_guard (by rfl) ?_; dsimp only)); refine goesL_ (some 12) rfl rfl Try.func29 (by kernel_rfl) rfl #[.agg #[.slice A0 P.length c0, .slice A1 Wr.length c1, .slice A2 In.length c2, .slice A3 Ac.length c3]] rfl (by (try simp only [List.map_toArray, List.map_cons, List.map_nil]); first | done | rfl) ?_; refine (impl_Algebra_elements.calls A0 c0 P A1 c1 Wr A2 c2 In A3 c3 Ac (Ac.length : Int) _ (Kd.C_below HP.out HB.out) HC0.out (Kd.C_below HW.out HB.out) HC1.out (Kd.C_below HI.out HB.out) HC2.out (Kd.C_below HA.out HB.out) HC3.out (el_eq rfl)).mono ?_; rintro e w12 ⟨rfl, hb⟩; refine ⟨_, rfl, ?_⟩; have n0_ := AZ.mk (pT HB.out hb); have n1_ := AZ.mk (bb_ BB.out hb); clear HB BB; have HB := n0_; have BB := n1_; clear n0_ n1_; clear hb hz0 hz1 hz2 hz3; have hz0 := (bc BB.out 0).trans rfl; have hz1 := (bc BB.out 1).trans rfl; have hz2 := (bc BB.out 2).trans rfl; have hz3 := (bc BB.out 3).trans rfl) | ((with_reducible refine gate_dst (N := 3) rfl ?_); refine box_event ?hg (N := 3) ?hd (cs := #[.int .i64 0]) (t := 2) ?hr ?_; (case hd => rfl); (case hg => rfl); (case hr => first | (go_simp; done) | (go_simp; rfl)); intro gN hg WgN hbx hb; have BN0 := AZ.mk hbx; have GN := AZ.mk (show w.heap.size ≤ gN by rw [hg]; exact pZ HB.out); have NBBN := AZ.mk (show gB ≠ gN by rw [hg]; exact Nat.ne_of_lt (blk_lt BB.out)); have n0_ := AZ.mk (pT HB.out hb); have n1_ := AZ.mk (bb_ BB.out hb); clear HB BB; have HB := n0_; have BB := n1_; clear n0_ n1_; clear hb hbx hg hz0 hz1 hz2 hz3; have hz0 := (bc BB.out 0).trans rfl; have hz1 := (bc BB.out 1).trans rfl; have hz2 := (bc BB.out 2).trans rfl; have hz3 := (bc BB.out 3).trans rfl) | ((with_reducible refine gate_ (.store 2 (.tmp 3) (.tmp 12)) rfl ?_); have hc_ := (bc BN0.out 0).trans rfl; have hf_ := bf BN0.out 0; refine store_event (t := 2) (p := 3) (v := .tmp 12) (w1 := (WgN.setCell ⟨gN, 0, none⟩ (.int .i64 (Ac.length : Int)))) ?hg ?ho ?hn ?hr ?_; (case ho => rfl); (case hg => rfl); (case hn => rfl); (case hr => first | (go_simp; done) | (go_simp; rw [run_store _ _ _ _ _ rfl]; go_simp; try rfl)); intro w9 hw9; clear hc_ hf_; have n0_ := AZ.mk (show Below w.heap.size w w9 by rw [hw9]; exact pS HB.out GN.out); have mBB_ := AZ.mk (show w9.heap[gB]? = some (.cells #[.slice A0 P.length c0, .slice A1 Wr.length c1, .slice A2 In.length c2, .slice A3 Ac.length c3] 29 (0, 0)) by rw [hw9]; exact (Below.heap_setCell _ _ _ _ NBBN.out).trans BB.out); have BN := AZ.mk (show w9.heap[gN]? = some (.cells #[.int .i64 (Ac.length : Int)] 2 (0, 0)) by rw [hw9]; exact blk_put BN0.out 0 _ rfl); clear HB BB BN0 hw9 hz0 hz1 hz2 hz3; have HB := n0_; clear n0_; have BB := mBB_; clear mBB_; have hz0 := (bc BB.out 0).trans rfl; have hz1 := (bc BB.out 1).trans rfl; have hz2 := (bc BB.out 2).trans rfl; have hz3 := (bc BB.out 3).trans rfl) | ((with_reducible refine gate_dst (N := 4) rfl ?_); refine box_event ?hg (N := 4) ?hd (cs := #[.nilFunc]) (t := 55) ?hr ?_; (case hd => rfl); (case hg => rfl); (case hr => first | (go_simp; done) | (go_simp; rfl)); intro gF hg WgF hbx hb; have BF0 := AZ.mk hbx; have GF := AZ.mk (show w.heap.size ≤ gF by rw [hg]; exact pZ HB.out); have NBBF := AZ.mk (show gB ≠ gF by rw [hg]; exact Nat.ne_of_lt (blk_lt BB.out)); have NBNF := AZ.mk (show gN ≠ gF by rw [hg]; exact Nat.ne_of_lt (blk_lt BN.out)); have n0_ := AZ.mk (pT HB.out hb); have n1_ := AZ.mk (bb_ BB.out hb); have n2_ := AZ.mk (bb_ BN.out hb); clear HB BB BN; have HB := n0_; have BB := n1_; have BN := n2_; clear n0_ n1_ n2_; clear hb hbx hg hz0 hz1 hz2 hz3; have hz0 := (bc BB.out 0).trans rfl; have hz1 := (bc BB.out 1).trans rfl; have hz2 := (bc BB.out 2).trans rfl; have hz3 := (bc BB.out 3).trans rfl) | ((with_reducible refine gate_ (.store 55 (.tmp 4) (.tmp 13)) rfl ?_); have hc_ := (bc BF0.out 0).trans rfl; have hf_ := bf BF0.out 0; refine store_event (t := 55) (p := 4) (v := .tmp 13) (w1 := (WgF.setCell ⟨gF, 0, none⟩ (.func (.func 30) #[] #[.pointer (some ⟨gN, 0, none⟩)]))) ?hg ?ho ?hn ?hr ?_; (case ho => rfl); (case hg => rfl); (case hn => rfl); (case hr => first | (go_simp; done) | (go_simp; rw [run_store _ _ _ _ _ rfl]; go_simp; try rfl)); intro w9 hw9; clear hc_ hf_; have n0_ := AZ.mk (show Below w.heap.size w w9 by rw [hw9]; exact pS HB.out GF.out); have mBB_ := AZ.mk (show w9.heap[gB]? = some (.cells #[.slice A0 P.length c0, .slice A1 Wr.length c1, .slice A2 In.length c2, .slice A3 Ac.length c3] 29 (0, 0)) by rw [hw9]; exact (Below.heap_setCell _ _ _ _ NBBF.out).trans BB.out); have mBN_ := AZ.mk (show w9.heap[gN]? = some (.cells #[.int .i64 (Ac.length : Int)] 2 (0, 0)) by rw [hw9]; exact (Below.heap_setCell _ _ _ _ NBNF.out).trans BN.out); have BF := AZ.mk (show w9.heap[gF]? = some (.cells #[.func (.func 30) #[] #[.pointer (some ⟨gN, 0, none⟩)]] 55 (0, 0)) by rw [hw9]; exact blk_put BF0.out 0 _ rfl); clear HB BB BN BF0 hw9 hz0 hz1 hz2 hz3; have HB := n0_; clear n0_; have BB := mBB_; clear mBB_; have BN := mBN_; clear mBN_; have hz0 := (bc BB.out 0).trans rfl; have hz1 := (bc BB.out 1).trans rfl; have hz2 := (bc BB.out 2).trans rfl; have hz3 := (bc BB.out 3).trans rfl))
 clear hz0 hz1 hz2 hz3
 by_cases h1 : 1 ≤ Ac.length ∧ Ac.length ≤ 40
 ·have HNN := AZ.mk (show 1 ≤ (Ac.length : Int) ∧ (Ac.length : Int) ≤ 40 by omega)
  have H1 := AZ.mk (wt_true Ac.length h1)
  have HN1 := AZ.mk h1
  clear h1
  by_cases h2 : P.length = Ac.length
  ·have H2 := AZ.mk h2
   have k2 : ((P.length : Int) != (Ac.length : Int)) = false := bne_eq_false_iff_eq.mpr (by omega)
   clear h2
   by_cases h3 : Wr.length = 4
   ·have H3 := AZ.mk h3
    have k3 : ((Wr.length : Int) != 4) = false := bne_eq_false_iff_eq.mpr (by omega)
    have k3n := eq_true h3
    clear h3
    obtain ⟨v20, h4⟩ : ∃ v, areEl (Ac.length : Int) In 2 = v := ⟨_, rfl⟩
    have H4 := AZ.mk h4
    clear h4
    refine start_ (n := 23) (S := fun w' => True) (ds := []) (bz 23 0) (by kernel_rfl) rfl rfl trivial (fun hHeld => ?_)
    refine with_tabW valg.tab4 valg.bits4 (fun HT_ HW_ => ?_)
    have n0_ := AZ.mk (pD HB.out)
    have n1_ := AZ.mk (bd_ BB.out)
    have n2_ := AZ.mk (bd_ BN.out)
    have n3_ := AZ.mk (bd_ BF.out)
    clear HB BB BN BF
    have HB := n0_
    have BB := n1_
    have BN := n2_
    have BF := n3_
    clear n0_ n1_ n2_ n3_
    generalize World.drew _ = wD at HB BB BN BF hHeld ⊢
    refine inv_at [0, 1, 2, 3, 4, 5, 6, 7, 8, 9, 10, 11, 12, 13, 14, 15, 16, 17, 18, 19, 20, 21, 22] (fun a0_ b a w' => a = putSel a0_ b [(0, 15, .int .i64 (Ac.length : Int)), (1, 16, .bool true), (2, 17, .bool false), (3, 18, .bool false), (4, 19, .pointer (some ⟨gB, 0, none⟩)), (5, 20, .slice A0 P.length c0), (6, 21, .int .i64 (P.length : Int)), (7, 22, .int .i64 (Ac.length : Int)), (8, 23, .bool false), (9, 24, .bool false), (10, 25, .bool false), (11, 26, .pointer (some ⟨gB, 1, none⟩)), (12, 27, .slice A1 Wr.length c1), (13, 28, .int .i64 (Wr.length : Int)), (14, 29, .bool false), (15, 30, .bool false), (16, 31, .bool false), (17, 32, .func (.func 30) #[] #[.pointer (some ⟨gN, 0, none⟩)]), (18, 33, .pointer (some ⟨gB, 2, none⟩)), (19, 34, .slice A2 In.length c2), (20, 35, .bool v20), (21, 36, .bool (!v20)), (22, 37, .bool (!v20))] ∧ (Below w.heap.size w w') ∧ (w'.heap[gB]? = some (.cells #[.slice A0 P.length c0, .slice A1 Wr.length c1, .slice A2 In.length c2, .slice A3 Ac.length c3] 29 (0, 0))) ∧ (w'.heap[gN]? = some (.cells #[.int .i64 (Ac.length : Int)] 2 (0, 0))) ∧ (w'.heap[gF]? = some (.cells #[.func (.func 30) #[] #[.pointer (some ⟨gN, 0, none⟩)]] 55 (0, 0)))) HT_.out HW_.out (by kernel_rfl) (by kernel_rfl) ?_ ?_ ?_
    ·exact ⟨by simp only [putSel, Bool.false_eq_true, if_false], HB.out, BB.out, BN.out, BF.out⟩
    ·skip
     clear BB BF BN HB
     refine steps_cons ?_ ?_
     ·rintro b a w' ⟨ha, Q_HB, Q_BB, Q_BN, Q_BF⟩ hb_ hon hoff
      refine ⟨_, rfl, fun K hK => ?_⟩
      have e3 : a.tmps[3]? = some (.pointer (some ⟨gN, 0, none⟩)) := by rw [ha]; exact (putSel_off rfl).trans rfl
      replace ha := AZ.mk ha
      have HB := AZ.mk Q_HB
      have BB := AZ.mk Q_BB
      have BN := AZ.mk Q_BN
      have BF := AZ.mk Q_BF
      have hc_ : w'.cell? ⟨gN, 0, none⟩ = some (.int .i64 (Ac.length : Int)) := (bc BN.out 0).trans rfl
      refine value_ (w1 := w') (v := .int .i64 (Ac.length : Int)) (by rfl) rfl ?_ ?_
      ·go_simp
       (try simp only [i64_w])
       try rfl
      refine hK.out _ _ ⟨(by rw [ha.out]; exact putSel_upk 0 hb_ rfl rfl rfl), Q_HB, Q_BB, Q_BN, Q_BF⟩
     refine steps_cons ?_ ?_
     ·rintro b a w' ⟨ha, Q_HB, Q_BB, Q_BN, Q_BF⟩ hb_ hon hoff
      refine ⟨_, rfl, fun K hK => ?_⟩
      have e15 : a.tmps[15]? = some (.int .i64 (Ac.length : Int)) := by rw [ha]; exact putSel_on (e := (0, 15, .int .i64 (Ac.length : Int))) 0 rfl rfl (hon 0 (by kernel_rfl)) rfl
      replace ha := AZ.mk ha
      have HB := AZ.mk Q_HB
      have BB := AZ.mk Q_BB
      have BN := AZ.mk Q_BN
      have BF := AZ.mk Q_BF
      refine goes_ Try.func34 (by kernel_rfl) rfl #[.int .i64 (Ac.length : Int), .int .i64 1, .int .i64 40] (by rfl) rfl rfl (by simp only [List.map_toArray, List.map_cons, List.map_nil, eval_of e15]; rfl) ?_
      refine (impl_within.calls (Ac.length : Int) 1 40 true _ H1.out).mono ?_
      rintro e w_ ⟨rfl, hd⟩
      refine ⟨_, rfl, ?_⟩
      have hb := hd.below
      refine hK.out _ _ ⟨(by rw [ha.out]; exact putSel_upk 1 hb_ rfl rfl rfl), pT HB.out hb, bb_ BB.out hb, bb_ BN.out hb, bb_ BF.out hb⟩
     refine steps_cons ?_ ?_
     ·rintro b a w' ⟨ha, Q_HB, Q_BB, Q_BN, Q_BF⟩ hb_ hon hoff
      refine ⟨_, rfl, fun K hK => ?_⟩
      have e16 : a.tmps[16]? = some (.bool true) := by rw [ha]; exact putSel_on (e := (1, 16, .bool true)) 1 rfl rfl (hon 1 (by kernel_rfl)) rfl
      replace ha := AZ.mk ha
      have HB := AZ.mk Q_HB
      have BB := AZ.mk Q_BB
      have BN := AZ.mk Q_BN
      have BF := AZ.mk Q_BF
      refine value_ (w1 := w') (v := .bool false) (by rfl) rfl ?_ ?_
      ·go_simp
       (try simp only [i64_w])
       try rfl
      refine hK.out _ _ ⟨(by rw [ha.out]; exact putSel_upk 2 hb_ rfl rfl rfl), Q_HB, Q_BB, Q_BN, Q_BF⟩
     refine steps_cons ?_ ?_
     ·rintro b a w' ⟨ha, Q_HB, Q_BB, Q_BN, Q_BF⟩ hb_ hon hoff
      refine ⟨_, rfl, fun K hK => ?_⟩
      have e17 : a.tmps[17]? = some (.bool false) := by rw [ha]; exact putSel_on (e := (2, 17, .bool false)) 2 rfl rfl (hon 2 (by kernel_rfl)) rfl
      replace ha := AZ.mk ha
      have HB := AZ.mk Q_HB
      have BB := AZ.mk Q_BB
      have BN := AZ.mk Q_BN
      have BF := AZ.mk Q_BF
      refine value_ (w1 := w') (v := .bool false) (by rfl) rfl ?_ ?_
      ·go_simp
       (try simp only [i64_w])
       try rfl
      refine hK.out _ _ ⟨(by rw [ha.out]; exact putSel_upk 3 hb_ rfl rfl rfl), Q_HB, Q_BB, Q_BN, Q_BF⟩
     refine steps_cons ?_ ?_
     ·rintro b a w' ⟨ha, Q_HB, Q_BB, Q_BN, Q_BF⟩ hb_ hon hoff
      refine ⟨_, rfl, fun K hK => ?_⟩
      have e1 : a.tmps[1]? = some (.pointer (some ⟨gB, 0, none⟩)) := by rw [ha]; exact (putSel_off rfl).trans rfl
      have e18 : a.tmps[18]? = some (.bool false) := by rw [ha]; exact putSel_on (e := (3, 18, .bool false)) 3 rfl rfl (hon 3 (by kernel_rfl)) rfl
      replace ha := AZ.mk ha
      have HB := AZ.mk Q_HB
      have BB := AZ.mk Q_BB
      have BN := AZ.mk Q_BN
      have BF := AZ.mk Q_BF
      refine value_ (w1 := w') (v := .pointer (some ⟨gB, 0, none⟩)) (wanted_on rfl rfl rfl (e18.trans (by first | rfl | (simp [*]; done)))) rfl ?_ ?_
      ·go_simp
       (try simp only [i64_w])
       try rfl
      refine hK.out _ _ ⟨(by rw [ha.out]; exact putSel_upk 4 hb_ rfl rfl rfl), Q_HB, Q_BB, Q_BN, Q_BF⟩
     refine steps_cons ?_ ?_
     ·rintro b a w' ⟨ha, Q_HB, Q_BB, Q_BN, Q_BF⟩ hb_ hon hoff
      refine ⟨_, rfl, fun K hK => ?_⟩
      have e19 : a.tmps[19]? = some (.pointer (some ⟨gB, 0, none⟩)) := by rw [ha]; exact putSel_on (e := (4, 19, .pointer (some ⟨gB, 0, none⟩))) 4 rfl rfl (hon 4 (by kernel_rfl)) rfl
      have e18 : a.tmps[18]? = some (.bool false) := by rw [ha]; exact putSel_on (e := (3, 18, .bool false)) 3 rfl rfl (hon 3 (by kernel_rfl)) rfl
      replace ha := AZ.mk ha
      have HB := AZ.mk Q_HB
      have BB := AZ.mk Q_BB
      have BN := AZ.mk Q_BN
      have BF := AZ.mk Q_BF
      have hc_ : w'.cell? ⟨gB, 0, none⟩ = some (.slice A0 P.length c0) := (bc BB.out 0).trans rfl
      refine value_ (w1 := w') (v := .slice A0 P.length c0) (wanted_on rfl rfl rfl (e18.trans (by first | rfl | (simp [*]; done)))) rfl ?_ ?_
      ·go_simp
       (try simp only [i64_w])
       try rfl
      refine hK.out _ _ ⟨(by rw [ha.out]; exact putSel_upk 5 hb_ rfl rfl rfl), Q_HB, Q_BB, Q_BN, Q_BF⟩
     refine steps_cons ?_ ?_
     ·rintro b a w' ⟨ha, Q_HB, Q_BB, Q_BN, Q_BF⟩ hb_ hon hoff
      refine ⟨_, rfl, fun K hK => ?_⟩
      have e20 : a.tmps[20]? = some (.slice A0 P.length c0) := by rw [ha]; exact putSel_on (e := (5, 20, .slice A0 P.length c0)) 5 rfl rfl (hon 5 (by kernel_rfl)) rfl
      have e18 : a.tmps[18]? = some (.bool false) := by rw [ha]; exact putSel_on (e := (3, 18, .bool false)) 3 rfl rfl (hon 3 (by kernel_rfl)) rfl
      replace ha := AZ.mk ha
      have HB := AZ.mk Q_HB
      have BB := AZ.mk Q_BB
      have BN := AZ.mk Q_BN
      have BF := AZ.mk Q_BF
      refine goes_ Try.func36 (by kernel_rfl) rfl #[.slice A0 P.length c0] (wanted_on rfl rfl rfl (e18.trans (by first | rfl | (simp [*]; done)))) rfl rfl (by simp only [List.map_toArray, List.map_cons, List.map_nil, eval_of e20]) ?_
      refine (impl_size_Lint64.calls A0 c0 P (P.length : Int) _ (Kd.C_below HP.out HB.out) HC0.out rfl).mono ?_
      rintro e w_ ⟨rfl, hd⟩
      refine ⟨_, rfl, ?_⟩
      have hb := hd.below
      refine hK.out _ _ ⟨(by rw [ha.out]; exact putSel_upk 6 hb_ rfl rfl rfl), pT HB.out hb, bb_ BB.out hb, bb_ BN.out hb, bb_ BF.out hb⟩
     refine steps_cons ?_ ?_
     ·rintro b a w' ⟨ha, Q_HB, Q_BB, Q_BN, Q_BF⟩ hb_ hon hoff
      refine ⟨_, rfl, fun K hK => ?_⟩
      have e3 : a.tmps[3]? = some (.pointer (some ⟨gN, 0, none⟩)) := by rw [ha]; exact (putSel_off rfl).trans rfl
      have e18 : a.tmps[18]? = some (.bool false) := by rw [ha]; exact putSel_on (e := (3, 18, .bool false)) 3 rfl rfl (hon 3 (by kernel_rfl)) rfl
      replace ha := AZ.mk ha
      have HB := AZ.mk Q_HB
      have BB := AZ.mk Q_BB
      have BN := AZ.mk Q_BN
      have BF := AZ.mk Q_BF
      have hc_ : w'.cell? ⟨gN, 0, none⟩ = some (.int .i64 (Ac.length : Int)) := (bc BN.out 0).trans rfl
      refine value_ (w1 := w') (v := .int .i64 (Ac.length : Int)) (wanted_on rfl rfl rfl (e18.trans (by first | rfl | (simp [*]; done)))) rfl ?_ ?_
      ·go_simp
       (try simp only [i64_w])
       try rfl
      refine hK.out _ _ ⟨(by rw [ha.out]; exact putSel_upk 7 hb_ rfl rfl rfl), Q_HB, Q_BB, Q_BN, Q_BF⟩
     refine steps_cons ?_ ?_
     ·rintro b a w' ⟨ha, Q_HB, Q_BB, Q_BN, Q_BF⟩ hb_ hon hoff
      refine ⟨_, rfl, fun K hK => ?_⟩
      have e21 : a.tmps[21]? = some (.int .i64 (P.length : Int)) := by rw [ha]; exact putSel_on (e := (6, 21, .int .i64 (P.length : Int))) 6 rfl rfl (hon 6 (by kernel_rfl)) rfl
      have e22 : a.tmps[22]? = some (.int .i64 (Ac.length : Int)) := by rw [ha]; exact putSel_on (e := (7, 22, .int .i64 (Ac.length : Int))) 7 rfl rfl (hon 7 (by kernel_rfl)) rfl
      have e18 : a.tmps[18]? = some (.bool false) := by rw [ha]; exact putSel_on (e := (3, 18, .bool false)) 3 rfl rfl (hon 3 (by kernel_rfl)) rfl
      replace ha := AZ.mk ha
      have HB := AZ.mk Q_HB
      have BB := AZ.mk Q_BB
      have BN := AZ.mk Q_BN
      have BF := AZ.mk Q_BF
      refine value_ (w1 := w') (v := .bool false) (wanted_on rfl rfl rfl (e18.trans (by first | rfl | (simp [*]; done)))) rfl ?_ ?_
      ·go_simp
       (try simp only [i64_w])
       try rfl
      refine hK.out _ _ ⟨(by rw [ha.out]; exact putSel_upk 8 hb_ rfl rfl rfl), Q_HB, Q_BB, Q_BN, Q_BF⟩
     refine steps_cons ?_ ?_
     ·rintro b a w' ⟨ha, Q_HB, Q_BB, Q_BN, Q_BF⟩ hb_ hon hoff
      refine ⟨_, rfl, fun K hK => ?_⟩
      have e18 : a.tmps[18]? = some (.bool false) := by rw [ha]; exact putSel_on (e := (3, 18, .bool false)) 3 rfl rfl (hon 3 (by kernel_rfl)) rfl
      have e23 : a.tmps[23]? = some (.bool false) := by rw [ha]; exact putSel_on (e := (8, 23, .bool false)) 8 rfl rfl (hon 8 (by kernel_rfl)) rfl
      replace ha := AZ.mk ha
      have HB := AZ.mk Q_HB
      have BB := AZ.mk Q_BB
      have BN := AZ.mk Q_BN
      have BF := AZ.mk Q_BF
      refine value_ (w1 := w') (v := .bool false) (by rfl) rfl ?_ ?_
      ·go_simp
       (try simp only [i64_w])
       try rfl
      refine hK.out _ _ ⟨(by rw [ha.out]; exact putSel_upk 9 hb_ rfl rfl rfl), Q_HB, Q_BB, Q_BN, Q_BF⟩
     refine steps_cons ?_ ?_
     ·rintro b a w' ⟨ha, Q_HB, Q_BB, Q_BN, Q_BF⟩ hb_ hon hoff
      refine ⟨_, rfl, fun K hK => ?_⟩
      have e24 : a.tmps[24]? = some (.bool false) := by rw [ha]; exact putSel_on (e := (9, 24, .bool false)) 9 rfl rfl (hon 9 (by kernel_rfl)) rfl
      replace ha := AZ.mk ha
      have HB := AZ.mk Q_HB
      have BB := AZ.mk Q_BB
      have BN := AZ.mk Q_BN
      have BF := AZ.mk Q_BF
      refine value_ (w1 := w') (v := .bool false) (by rfl) rfl ?_ ?_
      ·go_simp
       (try simp only [i64_w])
       try rfl
      refine hK.out _ _ ⟨(by rw [ha.out]; exact putSel_upk 10 hb_ rfl rfl rfl), Q_HB, Q_BB, Q_BN, Q_BF⟩
     refine steps_cons ?_ ?_
     ·rintro b a w' ⟨ha, Q_HB, Q_BB, Q_BN, Q_BF⟩ hb_ hon hoff
      refine ⟨_, rfl, fun K hK => ?_⟩
      have e1 : a.tmps[1]? = some (.pointer (some ⟨gB, 0, none⟩)) := by rw [ha]; exact (putSel_off rfl).trans rfl
      have e25 : a.tmps[25]? = some (.bool false) := by rw [ha]; exact putSel_on (e := (10, 25, .bool false)) 10 rfl rfl (hon 10 (by kernel_rfl)) rfl
      replace ha := AZ.mk ha
      have HB := AZ.mk Q_HB
      have BB := AZ.mk Q_BB
      have BN := AZ.mk Q_BN
      have BF := AZ.mk Q_BF
      refine value_ (w1 := w') (v := .pointer (some ⟨gB, 1, none⟩)) (wanted_on rfl rfl rfl (e25.trans (by first | rfl | (simp [*]; done)))) rfl ?_ ?_
      ·go_simp
       (try simp only [i64_w])
       try rfl
      refine hK.out _ _ ⟨(by rw [ha.out]; exact putSel_upk 11 hb_ rfl rfl rfl), Q_HB, Q_BB, Q_BN, Q_BF⟩
     refine steps_cons ?_ ?_
     ·rintro b a w' ⟨ha, Q_HB, Q_BB, Q_BN, Q_BF⟩ hb_ hon hoff
      refine ⟨_, rfl, fun K hK => ?_⟩
      have e26 : a.tmps[26]? = some (.pointer (some ⟨gB, 1, none⟩)) := by rw [ha]; exact putSel_on (e := (11, 26, .pointer (some ⟨gB, 1, none⟩))) 11 rfl rfl (hon 11 (by kernel_rfl)) rfl
      have e25 : a.tmps[25]? = some (.bool false) := by rw [ha]; exact putSel_on (e := (10, 25, .bool false)) 10 rfl rfl (hon 10 (by kernel_rfl)) rfl
      replace ha := AZ.mk ha
      have HB := AZ.mk Q_HB
      have BB := AZ.mk Q_BB
      have BN := AZ.mk Q_BN
      have BF := AZ.mk Q_BF
      have hc_ : w'.cell? ⟨gB, 1, none⟩ = some (.slice A1 Wr.length c1) := (bc BB.out 1).trans rfl
      refine value_ (w1 := w') (v := .slice A1 Wr.length c1) (wanted_on rfl rfl rfl (e25.trans (by first | rfl | (simp [*]; done)))) rfl ?_ ?_
      ·go_simp
       (try simp only [i64_w])
       try rfl
      refine hK.out _ _ ⟨(by rw [ha.out]; exact putSel_upk 12 hb_ rfl rfl rfl), Q_HB, Q_BB, Q_BN, Q_BF⟩
     refine steps_cons ?_ ?_
     ·rintro b a w' ⟨ha, Q_HB, Q_BB, Q_BN, Q_BF⟩ hb_ hon hoff
      refine ⟨_, rfl, fun K hK => ?_⟩
      have e27 : a.tmps[27]? = some (.slice A1 Wr.length c1) := by rw [ha]; exact putSel_on (e := (12, 27, .slice A1 Wr.length c1)) 12 rfl rfl (hon 12 (by kernel_rfl)) rfl
      have e25 : a.tmps[25]? = some (.bool false) := by rw [ha]; exact putSel_on (e := (10, 25, .bool false)) 10 rfl rfl (hon 10 (by kernel_rfl)) rfl
      replace ha := AZ.mk ha
      have HB := AZ.mk Q_HB
      have BB := AZ.mk Q_BB
      have BN := AZ.mk Q_BN
      have BF := AZ.mk Q_BF
      refine value_ (w1 := w') (v := .int .i64 (Wr.length : Int)) (wanted_on rfl rfl rfl (e25.trans (by first | rfl | (simp [*]; done)))) rfl ?_ ?_
      ·go_simp
       (try simp only [i64_w])
       try rfl
      refine hK.out _ _ ⟨(by rw [ha.out]; exact putSel_upk 13 hb_ rfl rfl rfl), Q_HB, Q_BB, Q_BN, Q_BF⟩
     refine steps_cons ?_ ?_
     ·rintro b a w' ⟨ha, Q_HB, Q_BB, Q_BN, Q_BF⟩ hb_ hon hoff
      refine ⟨_, rfl, fun K hK => ?_⟩
      have e28 : a.tmps[28]? = some (.int .i64 (Wr.length : Int)) := by rw [ha]; exact putSel_on (e := (13, 28, .int .i64 (Wr.length : Int))) 13 rfl rfl (hon 13 (by kernel_rfl)) rfl
      have e25 : a.tmps[25]? = some (.bool false) := by rw [ha]; exact putSel_on (e := (10, 25, .bool false)) 10 rfl rfl (hon 10 (by kernel_rfl)) rfl
      replace ha := AZ.mk ha
      have HB := AZ.mk Q_HB
      have BB := AZ.mk Q_BB
      have BN := AZ.mk Q_BN
      have BF := AZ.mk Q_BF
      refine value_ (w1 := w') (v := .bool false) (wanted_on rfl rfl rfl (e25.trans (by first | rfl | (simp [*]; done)))) rfl ?_ ?_
      ·go_simp
       (try simp only [i64_w])
       try rfl
      refine hK.out _ _ ⟨(by rw [ha.out]; exact putSel_upk 14 hb_ rfl rfl rfl), Q_HB, Q_BB, Q_BN, Q_BF⟩
     refine steps_cons ?_ ?_
     ·rintro b a w' ⟨ha, Q_HB, Q_BB, Q_BN, Q_BF⟩ hb_ hon hoff
      refine ⟨_, rfl, fun K hK => ?_⟩
      have e25 : a.tmps[25]? = some (.bool false) := by rw [ha]; exact putSel_on (e := (10, 25, .bool false)) 10 rfl rfl (hon 10 (by kernel_rfl)) rfl
      have e29 : a.tmps[29]? = some (.bool false) := by rw [ha]; exact putSel_on (e := (14, 29, .bool false)) 14 rfl rfl (hon 14 (by kernel_rfl)) rfl
      replace ha := AZ.mk ha
      have HB := AZ.mk Q_HB
      have BB := AZ.mk Q_BB
      have BN := AZ.mk Q_BN
      have BF := AZ.mk Q_BF
      refine value_ (w1 := w') (v := .bool false) (by rfl) rfl ?_ ?_
      ·go_simp
       (try simp only [i64_w])
       try rfl
      refine hK.out _ _ ⟨(by rw [ha.out]; exact putSel_upk 15 hb_ rfl rfl rfl), Q_HB, Q_BB, Q_BN, Q_BF⟩
     refine steps_cons ?_ ?_
     ·rintro b a w' ⟨ha, Q_HB, Q_BB, Q_BN, Q_BF⟩ hb_ hon hoff
      refine ⟨_, rfl, fun K hK => ?_⟩
      have e30 : a.tmps[30]? = some (.bool false) := by rw [ha]; exact putSel_on (e := (15, 30, .bool false)) 15 rfl rfl (hon 15 (by kernel_rfl)) rfl
      replace ha := AZ.mk ha
      have HB := AZ.mk Q_HB
      have BB := AZ.mk Q_BB
      have BN := AZ.mk Q_BN
      have BF := AZ.mk Q_BF
      refine value_ (w1 := w') (v := .bool false) (by rfl) rfl ?_ ?_
      ·go_simp
       (try simp only [i64_w])
       try rfl
      refine hK.out _ _ ⟨(by rw [ha.out]; exact putSel_upk 16 hb_ rfl rfl rfl), Q_HB, Q_BB, Q_BN, Q_BF⟩
     refine steps_cons ?_ ?_
     ·rintro b a w' ⟨ha, Q_HB, Q_BB, Q_BN, Q_BF⟩ hb_ hon hoff
      refine ⟨_, rfl, fun K hK => ?_⟩
      have e4 : a.tmps[4]? = some (.pointer (some ⟨gF, 0, none⟩)) := by rw [ha]; exact (putSel_off rfl).trans rfl
      have e31 : a.tmps[31]? = some (.bool false) := by rw [ha]; exact putSel_on (e := (16, 31, .bool false)) 16 rfl rfl (hon 16 (by kernel_rfl)) rfl
      replace ha := AZ.mk ha
      have HB := AZ.mk Q_HB
      have BB := AZ.mk Q_BB
      have BN := AZ.mk Q_BN
      have BF := AZ.mk Q_BF
      have hc_ : w'.cell? ⟨gF, 0, none⟩ = some (.func (.func 30) #[] #[.pointer (some ⟨gN, 0, none⟩)]) := (bc BF.out 0).trans rfl
      refine value_ (w1 := w') (v := .func (.func 30) #[] #[.pointer (some ⟨gN, 0, none⟩)]) (wanted_on rfl rfl rfl (e31.trans (by first | rfl | (simp [*]; done)))) rfl ?_ ?_
      ·go_simp
       (try simp only [i64_w])
       try rfl
      refine hK.out _ _ ⟨(by rw [ha.out]; exact putSel_upk 17 hb_ rfl rfl rfl), Q_HB, Q_BB, Q_BN, Q_BF⟩
     refine steps_cons ?_ ?_
     ·rintro b a w' ⟨ha, Q_HB, Q_BB, Q_BN, Q_BF⟩ hb_ hon hoff
      refine ⟨_, rfl, fun K hK => ?_⟩
      have e1 : a.tmps[1]? = some (.pointer (some ⟨gB, 0, none⟩)) := by rw [ha]; exact (putSel_off rfl).trans rfl
      have e31 : a.tmps[31]? = some (.bool false) := by rw [ha]; exact putSel_on (e := (16, 31, .bool false)) 16 rfl rfl (hon 16 (by kernel_rfl)) rfl
      replace ha := AZ.mk ha
      have HB := AZ.mk Q_HB
      have BB := AZ.mk Q_BB
      have BN := AZ.mk Q_BN
      have BF := AZ.mk Q_BF
      refine value_ (w1 := w') (v := .pointer (some ⟨gB, 2, none⟩)) (wanted_on rfl rfl rfl (e31.trans (by first | rfl | (simp [*]; done)))) rfl ?_ ?_
      ·go_simp
       (try simp only [i64_w])
       try rfl
      refine hK.out _ _ ⟨(by rw [ha.out]; exact putSel_upk 18 hb_ rfl rfl rfl), Q_HB, Q_BB, Q_BN, Q_BF⟩
     refine steps_cons ?_ ?_
     ·rintro b a w' ⟨ha, Q_HB, Q_BB, Q_BN, Q_BF⟩ hb_ hon hoff
      refine ⟨_, rfl, fun K hK => ?_⟩
      have e33 : a.tmps[33]? = some (.pointer (some ⟨gB, 2, none⟩)) := by rw [ha]; exact putSel_on (e := (18, 33, .pointer (some ⟨gB, 2, none⟩))) 18 rfl rfl (hon 18 (by kernel_rfl)) rfl
      have e31 : a.tmps[31]? = some (.bool false) := by rw [ha]; exact putSel_on (e := (16, 31, .bool false)) 16 rfl rfl (hon 16 (by kernel_rfl)) rfl
      replace ha := AZ.mk ha
      have HB := AZ.mk Q_HB
      have BB := AZ.mk Q_BB
      have BN := AZ.mk Q_BN
      have BF := AZ.mk Q_BF
      have hc_ : w'.cell? ⟨gB, 2, none⟩ = some (.slice A2 In.length c2) := (bc BB.out 2).trans rfl
      refine value_ (w1 := w') (v := .slice A2 In.length c2) (wanted_on rfl rfl rfl (e31.trans (by first | rfl | (simp [*]; done)))) rfl ?_ ?_
      ·go_simp
       (try simp only [i64_w])
       try rfl
      refine hK.out _ _ ⟨(by rw [ha.out]; exact putSel_upk 19 hb_ rfl rfl rfl), Q_HB, Q_BB, Q_BN, Q_BF⟩
     refine steps_cons ?_ ?_
     ·rintro b a w' ⟨ha, Q_HB, Q_BB, Q_BN, Q_BF⟩ hb_ hon hoff
      refine ⟨_, rfl, fun K hK => ?_⟩
      have e32 : a.tmps[32]? = some (.func (.func 30) #[] #[.pointer (some ⟨gN, 0, none⟩)]) := by rw [ha]; exact putSel_on (e := (17, 32, .func (.func 30) #[] #[.pointer (some ⟨gN, 0, none⟩)])) 17 rfl rfl (hon 17 (by kernel_rfl)) rfl
      have e34 : a.tmps[34]? = some (.slice A2 In.length c2) := by rw [ha]; exact putSel_on (e := (19, 34, .slice A2 In.length c2)) 19 rfl rfl (hon 19 (by kernel_rfl)) rfl
      have e31 : a.tmps[31]? = some (.bool false) := by rw [ha]; exact putSel_on (e := (16, 31, .bool false)) 16 rfl rfl (hon 16 (by kernel_rfl)) rfl
      replace ha := AZ.mk ha
      have HB := AZ.mk Q_HB
      have BB := AZ.mk Q_BB
      have BN := AZ.mk Q_BN
      have BF := AZ.mk Q_BF
      refine goesV_ Try.func30 (by kernel_rfl) rfl #[.slice A2 In.length c2, .int .i64 2] _ (wanted_on rfl rfl rfl (e31.trans (by first | rfl | (simp [*]; done)))) rfl rfl (eval_of e32) (by simp only [List.map_toArray, List.map_cons, List.map_nil, eval_of e34]; rfl) rfl ?_
      refine (c30_calls A2 c2 In 2 (Ac.length : Int) HNN.out gN _ (Kd.C_below HI.out HB.out) HC2.out HI.out.2.1 BN.out).mono ?_
      rintro e w_ ⟨rfl, hb⟩
      rw [H4.out]
      refine ⟨_, rfl, ?_⟩
      refine hK.out _ _ ⟨(by rw [ha.out]; exact putSel_upk 20 hb_ rfl rfl rfl), pT HB.out hb, bb_ BB.out hb, bb_ BN.out hb, bb_ BF.out hb⟩
     refine steps_cons ?_ ?_
     ·rintro b a w' ⟨ha, Q_HB, Q_BB, Q_BN, Q_BF⟩ hb_ hon hoff
      refine ⟨_, rfl, fun K hK => ?_⟩
      have e35 : a.tmps[35]? = some (.bool v20) := by rw [ha]; exact putSel_on (e := (20, 35, .bool v20)) 20 rfl rfl (hon 20 (by kernel_rfl)) rfl
      have e31 : a.tmps[31]? = some (.bool false) := by rw [ha]; exact putSel_on (e := (16, 31, .bool false)) 16 rfl rfl (hon 16 (by kernel_rfl)) rfl
      replace ha := AZ.mk ha
      have HB := AZ.mk Q_HB
      have BB := AZ.mk Q_BB
      have BN := AZ.mk Q_BN
      have BF := AZ.mk Q_BF
      refine value_ (w1 := w') (v := .bool (!v20)) (wanted_on rfl rfl rfl (e31.trans (by first | rfl | (simp [*]; done)))) rfl ?_ ?_
      ·go_simp
       (try simp only [i64_w])
       try rfl
      refine hK.out _ _ ⟨(by rw [ha.out]; exact putSel_upk 21 hb_ rfl rfl rfl), Q_HB, Q_BB, Q_BN, Q_BF⟩
     refine steps_cons ?_ ?_
     ·rintro b a w' ⟨ha, Q_HB, Q_BB, Q_BN, Q_BF⟩ hb_ hon hoff
      refine ⟨_, rfl, fun K hK => ?_⟩
      have e31 : a.tmps[31]? = some (.bool false) := by rw [ha]; exact putSel_on (e := (16, 31, .bool false)) 16 rfl rfl (hon 16 (by kernel_rfl)) rfl
      have e36 : a.tmps[36]? = some (.bool (!v20)) := by rw [ha]; exact putSel_on (e := (21, 36, .bool (!v20))) 21 rfl rfl (hon 21 (by kernel_rfl)) rfl
      replace ha := AZ.mk ha
      have HB := AZ.mk Q_HB
      have BB := AZ.mk Q_BB
      have BN := AZ.mk Q_BN
      have BF := AZ.mk Q_BF
      refine value_ (w1 := w') (v := .bool (!v20)) (by rfl) rfl ?_ ?_
      ·go_simp
       (try simp only [i64_w])
       try rfl
      refine hK.out _ _ ⟨(by rw [ha.out]; exact putSel_upk 22 hb_ rfl rfl rfl), Q_HB, Q_BB, Q_BN, Q_BF⟩
     exact steps_nil
    ·rintro b a w' hall ⟨ha, Q_HB, Q_BB, Q_BN, Q_BF⟩
     clear BB BF BN HB
     have hb0_ := hall 0 (by kernel_rfl)
     have hb1_ := hall 1 (by kernel_rfl)
     have hb2_ := hall 2 (by kernel_rfl)
     have hb3_ := hall 3 (by kernel_rfl)
     have hb4_ := hall 4 (by kernel_rfl)
     have hb5_ := hall 5 (by kernel_rfl)
     have hb6_ := hall 6 (by kernel_rfl)
     have hb7_ := hall 7 (by kernel_rfl)
     have hb8_ := hall 8 (by kernel_rfl)
     have hb9_ := hall 9 (by kernel_rfl)
     have hb10_ := hall 10 (by kernel_rfl)
     have hb11_ := hall 11 (by kernel_rfl)
     have hb12_ := hall 12 (by kernel_rfl)
     have hb13_ := hall 13 (by kernel_rfl)
     have hb14_ := hall 14 (by kernel_rfl)
     have hb15_ := hall 15 (by kernel_rfl)
     have hb16_ := hall 16 (by kernel_rfl)
     have hb17_ := hall 17 (by kernel_rfl)
     have hb18_ := hall 18 (by kernel_rfl)
     have hb19_ := hall 19 (by kernel_rfl)
     have hb20_ := hall 20 (by kernel_rfl)
     have hb21_ := hall 21 (by kernel_rfl)
     have hb22_ := hall 22 (by kernel_rfl)
     subst ha
     simp only [putSel, hb0_, hb1_, hb2_, hb3_, hb4_, hb5_, hb6_, hb7_, hb8_, hb9_, hb10_, hb11_, hb12_, hb13_, hb14_, hb15_, hb16_, hb17_, hb18_, hb19_, hb20_, hb21_, hb22_, if_true, Act.put, sA, sB, sC]
     have HB := AZ.mk Q_HB
     clear Q_HB
     have BB := AZ.mk Q_BB
     clear Q_BB
     have BN := AZ.mk Q_BN
     clear Q_BN
     have BF := AZ.mk Q_BF
     clear Q_BF
     clear hall hb0_ hb1_ hb2_ hb3_ hb4_ hb5_ hb6_ hb7_ hb8_ hb9_ hb10_ hb11_ hb12_ hb13_ hb14_ hb15_ hb16_ hb17_ hb18_ hb19_ hb20_ hb21_ hb22_
     clear k2 k3 k3n
     cases v20
     ·simp only [Bool.not_false]
      go_wp2
      go_ret
      exact ⟨congrArg (fun b => Ending.returned (Value.bool b)) (ok_no (fun h => absurd (H4.out.symm.trans h.2.2.2.1) (by decide))).symm, HB.out⟩
     ·simp only [Bool.not_true]
      have hz0 := (bc BB.out 0).trans rfl
      have hz1 := (bc BB.out 1).trans rfl
      have hz2 := (bc BB.out 2).trans rfl
      have hz3 := (bc BB.out 3).trans rfl
      go_wp2_with (first | ((with_reducible refine gate_dst (N := 42) rfl ?_); refine lit_event ?hg (N := 42) ?hd (cs := #[.slice A0 P.length c0, .slice A1 Wr.length c1]) (t := 22) (n := 2) ?hr ?_; (case hd => rfl); (case hg => rfl); (case hr => first | (go_simp; done) | (go_simp; rfl)); intro gC WgC hbx hb; have BC := AZ.mk hbx; have n0_ := AZ.mk (pT HB.out hb); have n1_ := AZ.mk (bb_ BB.out hb); have n2_ := AZ.mk (bb_ BN.out hb); have n3_ := AZ.mk (bb_ BF.out hb); clear HB BB BN BF; have HB := n0_; have BB := n1_; have BN := n2_; have BF := n3_; clear n0_ n1_ n2_ n3_; clear hb hbx hz0 hz1 hz2 hz3; have hz0 := (bc BB.out 0).trans rfl; have hz1 := (bc BB.out 1).trans rfl; have hz2 := (bc BB.out 2).trans rfl; have hz3 := (bc BB.out 3).trans rfl) | ((with_reducible refine gate_callee (f := 37) rfl ?_); refine goesL_ (some 43) rfl rfl Try.func37 (by kernel_rfl) rfl #[.slice (some ⟨gC, 0, none⟩) 2 2] rfl (by (try simp only [List.map_toArray, List.map_cons, List.map_nil]); first | done | rfl) ?_; refine (concat_calls A0 c0 P A1 c1 Wr gC _ (Kd.C_below HP.out HB.out) (Kd.C_below HW.out HB.out) (by have := HN1.out; have := H2.out; have := H3.out; omega) BC.out).mono ?_; rintro e W1 ⟨v43, rfl, ho, hb⟩; refine ⟨_, rfl, ?_⟩; obtain ⟨LL, hLL⟩ : ∃ L, L = P ++ Wr := ⟨_, rfl⟩; rw [← hLL] at ho; have HLE := AZ.mk hLL; clear hLL; obtain ⟨A43, d43, rfl, hl43, hr43⟩ := Kd.N_reads ho; have HL := AZ.mk hr43; have n0_ := AZ.mk (pT HB.out hb); have n1_ := AZ.mk (bb_ BB.out hb); have n2_ := AZ.mk (bb_ BN.out hb); have n3_ := AZ.mk (bb_ BF.out hb); clear HB BB BN BF; have HB := n0_; have BB := n1_; have BN := n2_; have BF := n3_; clear n0_ n1_ n2_ n3_; clear hb ho hr43 hl43 BC hz0 hz1 hz2 hz3; have HB1 := AZ.mk (Below.refl W1.heap.size W1)))
      go_loopg [45] (Ac.length + 4) (fun kq v45 w' => ∃ i : Nat, v45 = .int .i64 (i : Int) ∧ AZ (kq + i = Ac.length + 4) ∧ AZ (∀ r ∈ LL.take i, areEl (Ac.length : Int) r (Ac.length : Int) = true) ∧ AZ (Below W1.heap.size W1 w') ∧ AZ (Below w.heap.size w w') ∧ AZ (w'.heap[gB]? = some (.cells #[.slice A0 P.length c0, .slice A1 Wr.length c1, .slice A2 In.length c2, .slice A3 Ac.length c3] 29 (0, 0))) ∧ AZ (w'.heap[gN]? = some (.cells #[.int .i64 (Ac.length : Int)] 2 (0, 0))) ∧ AZ (w'.heap[gF]? = some (.cells #[.func (.func 30) #[] #[.pointer (some ⟨gN, 0, none⟩)]] 55 (0, 0))))
      case atStart => exact ⟨0, rfl, ⟨by omega⟩, ⟨fun r hr => by simp at hr⟩, HB1, HB, BB, BN, BF⟩
      case round =>
       clear HB HB1 BB BN BF
       obtain ⟨i, rfl, HK, HD1, HB1, HB, BB, BN, BF⟩ := hrel
       have hLL : LL.length = Ac.length + 4 := by rw [HLE.out, List.length_append, H2.out, H3.out]
       have HLL := AZ.mk hLL
       by_cases hi : i < Ac.length + 4
       ·have ca1 : decide ((i : Int) < (LL.length : Int)) = true := decide_eq_true (by omega)
        have ca2 : decide (i < LL.length) = true := decide_eq_true (by omega)
        have ca3 := eq_true (show i < LL.length by omega)
        obtain ⟨ad, A48, d48, rfl, hx, hd48, hr48⟩ := at_L1 HL.out (i : Int) (by omega) (by omega)
        rw [Int.toNat_natCast] at hx
        replace hx := (HB1.out.cell (World.block_lt_of_cell? W1 _ hx)).trans hx
        have p1 := eq_true (show 0 ≤ (i : Int) by omega)
        have q1 := eq_true (show (i : Int) < (LL.length : Int) by omega)
        have HR := AZ.mk hr48
        have HD := AZ.mk hd48
        clear hr48 hd48 hLL
        have HTK := AZ.mk (take_rdL LL i (by have := HLL.out; omega))
        obtain ⟨v, hv⟩ : ∃ v, areEl (Ac.length : Int) (rd_L1 LL (i : Int)) (Ac.length : Int) = v := ⟨_, rfl⟩
        have HV := AZ.mk hv
        clear hv
        have hw1 : IntKind.i64.wrap ((i : Int) + 1) = ((i + 1 : Nat) : Int) := (i64_w _).trans (by have := HN1.out; clear ca1 ca2 ca3 p1 q1; unfold wrap64; omega)
        cases v with
        | true =>
         go_wp2_with (first | ((with_reducible refine gate_value (t := 49) rfl ?_); refine goesVL_ (some 51) rfl rfl Try.func35 (by kernel_rfl) rfl #[.slice A48 (rd_L1 LL (i : Int)).length d48] _ rfl (by rfl) (by (try simp only [List.map_toArray, List.map_cons, List.map_nil]); first | done | rfl) rfl ?_; refine (c35_calls A48 d48 (rd_L1 LL (i : Int)) (Ac.length : Int) HNN.out gF gN _ (Kd.C_below HR.out HB1.out) HD.out HR.out.2.1 BF.out BN.out).mono ?_; rintro e w51 ⟨rfl, hb⟩; refine ⟨_, rfl, ?_⟩; rw [HV.out]; have n0_ := AZ.mk (pT HB.out hb); have n1_ := AZ.mk (pT HB1.out hb); have n2_ := AZ.mk (bb_ BB.out hb); have n3_ := AZ.mk (bb_ BN.out hb); have n4_ := AZ.mk (bb_ BF.out hb); clear HB HB1 BB BN BF; have HB := n0_; have HB1 := n1_; have BB := n2_; have BN := n3_; have BF := n4_; clear n0_ n1_ n2_ n3_ n4_; clear hb))
         go_roundg (Ac.length + 4 - (i + 1))
         case measure => have := HK.out; omega
         case rel => exact ⟨i + 1, by (try simp only [hw1]); try rfl, ⟨by omega⟩, ⟨fun r hr => by rw [HTK.out] at hr; exact (List.mem_append.1 hr).elim (HD1.out r) (fun e => by rw [List.mem_singleton.1 e]; exact HV.out)⟩, HB1, HB, BB, BN, BF⟩
        | false =>
         go_wp2_with (first | ((with_reducible refine gate_value (t := 49) rfl ?_); refine goesVL_ (some 51) rfl rfl Try.func35 (by kernel_rfl) rfl #[.slice A48 (rd_L1 LL (i : Int)).length d48] _ rfl (by rfl) (by (try simp only [List.map_toArray, List.map_cons, List.map_nil]); first | done | rfl) rfl ?_; refine (c35_calls A48 d48 (rd_L1 LL (i : Int)) (Ac.length : Int) HNN.out gF gN _ (Kd.C_below HR.out HB1.out) HD.out HR.out.2.1 BF.out BN.out).mono ?_; rintro e w51 ⟨rfl, hb⟩; refine ⟨_, rfl, ?_⟩; rw [HV.out]; have n0_ := AZ.mk (pT HB.out hb); have n1_ := AZ.mk (pT HB1.out hb); have n2_ := AZ.mk (bb_ BB.out hb); have n3_ := AZ.mk (bb_ BN.out hb); have n4_ := AZ.mk (bb_ BF.out hb); clear HB HB1 BB BN BF; have HB := n0_; have HB1 := n1_; have BB := n2_; have BN := n3_; have BF := n4_; clear n0_ n1_ n2_ n3_ n4_; clear hb))
         go_wp2
         go_ret
         exact ⟨congrArg (fun b => Ending.returned (Value.bool b)) (ok_no (fun h => absurd (HV.out.symm.trans (h.2.2.2.2.1 _ (by rw [← HLE.out]; exact List.mem_of_mem_take (i := i + 1) (by rw [HTK.out]; simp)))) (by decide))).symm, HB.out⟩
       ·have ca1 : decide ((i : Int) < (LL.length : Int)) = false := decide_eq_false (by omega)
        have ca2 : decide (i < LL.length) = false := decide_eq_false (by omega)
        have ca3 := eq_false (show ¬ i < LL.length by omega)
        have HALL := AZ.mk (show ∀ r ∈ P ++ Wr, areEl (Ac.length : Int) r (Ac.length : Int) = true from fun r hr => HD1.out r (by rw [List.take_of_length_le (by omega), HLE.out]; exact hr))
        have HT := AZ.mk (tab_of H2.out (fun r hr => HALL.out r (List.mem_append_left _ hr)))
        have hcn : World.cell? _ ⟨gN, 0, none⟩ = some (.int .i64 (Ac.length : Int)) := (bc BN.out 0).trans rfl
        clear HL HB1 HK HD1 hLL
        go_wp2
        clear hcn
        go_loopg [55] Ac.length (fun kq v55 w' => ∃ i : Nat, v55 = .int .i64 (i : Int) ∧ AZ (kq + i = Ac.length) ∧ AZ (∀ i' : Nat, i' < i → pp P 0 i' = i' ∧ pp P i' 0 = i') ∧ AZ (Below w.heap.size w w') ∧ AZ (w'.heap[gB]? = some (.cells #[.slice A0 P.length c0, .slice A1 Wr.length c1, .slice A2 In.length c2, .slice A3 Ac.length c3] 29 (0, 0))))
        case atStart => exact ⟨0, rfl, ⟨by omega⟩, ⟨fun i' h => by omega⟩, HB, BB⟩
        case round =>
         clear HB BB BN BF ca1 ca2 ca3
         obtain ⟨i, rfl, HK, HD1, HB, BB⟩ := hrel
         by_cases hi : i < Ac.length
         ·have ci := decide_eq_true (show (i : Int) < (Ac.length : Int) by omega)
          obtain ⟨ad1, A1_, c1_, rfl, hx1, -, hr1⟩ := at_L1 HP.out 0 (by omega) (by have := HT.out.num; omega)
          obtain ⟨ad2, A2_, c2_, e2, hx2, -, hr2⟩ := at_L1 HP.out (i : Int) (by omega) (by have := HT.out.num; omega)
          obtain rfl : ad1 = ad2 := by injection e2
          have l1 : (rd_L1 P 0).length = Ac.length := HT.out.len 0 (by omega)
          have l2 := HT.out.len i hi
          obtain ⟨bd1, f1, hy1⟩ := Kd.at_int hr1 (i : Int) (by omega) (by omega)
          subst f1
          obtain ⟨bd2, f2, hy2⟩ := Kd.at_int hr2 0 (by omega) (by omega)
          subst f2
          replace hx1 := (HB.out.cell (World.block_lt_of_cell? w _ hx1)).trans hx1
          replace hx2 := (HB.out.cell (World.block_lt_of_cell? w _ hx2)).trans hx2
          replace hy1 := (HB.out.cell (World.block_lt_of_cell? w _ hy1)).trans hy1
          replace hy2 := (HB.out.cell (World.block_lt_of_cell? w _ hy2)).trans hy2
          simp only [Int.toNat_natCast, Int.toNat_zero] at hx1 hx2 hy1 hy2
          rw [l1] at hx1
          rw [l2] at hx2
          simp only [Addr.add_zero'] at hx1 hy2
          obtain ⟨x, hx⟩ : ∃ x, pp P 0 (i : Int) = x := ⟨_, rfl⟩
          obtain ⟨y, hy⟩ : ∃ y, pp P (i : Int) 0 = y := ⟨_, rfl⟩
          have HX := AZ.mk hx
          have HY := AZ.mk hy
          unfold pp at hx hy
          rw [hx] at hy1
          rw [hy] at hy2
          clear hx hy e2 hr1 hr2 l1 l2
          have hz0 : World.cell? _ ⟨gB, 0, none⟩ = some (.slice (some ad1) Ac.length c0) := ((bc BB.out 0).trans rfl).trans (by rw [HT.out.num]; rfl)
          have p1 := eq_true (show 0 ≤ (i : Int) by omega)
          have q1 := eq_true (show (i : Int) < (Ac.length : Int) by omega)
          have q0 := eq_true (show (0 : Int) < (Ac.length : Int) by omega)
          have q0n := eq_true (show 0 < Ac.length by omega)
          have hw1 : IntKind.i64.wrap ((i : Int) + 1) = ((i + 1 : Nat) : Int) := (i64_w _).trans (by have := HN1.out; clear ci p1 q1 q0 q0n; unfold wrap64; omega)
          by_cases hxi : x = (i : Int)
          ·have HXI := AZ.mk (HX.out.trans hxi)
           have x0 : (x != (i : Int)) = false := bne_eq_false_iff_eq.mpr hxi
           have x1 : ((x : Int) == (i : Int)) = true := beq_iff_eq.mpr hxi
           clear hxi HX
           by_cases hyi : y = (i : Int)
           ·have HYI := AZ.mk (HY.out.trans hyi)
            have y0 : (y != (i : Int)) = false := bne_eq_false_iff_eq.mpr hyi
            have y1 : ((y : Int) == (i : Int)) = true := beq_iff_eq.mpr hyi
            clear hyi HY
            go_wp2
            go_roundg (Ac.length - (i + 1))
            case measure => have := HK.out; omega
            case rel => exact ⟨i + 1, by (try simp only [hw1]); try rfl, ⟨by omega⟩, ⟨fun i' h => (Nat.lt_succ_iff_lt_or_eq.1 h).elim (HD1.out i') (fun e => by rw [e]; exact ⟨HXI.out, HYI.out⟩)⟩, HB, BB⟩
           ·have y0 : (y != (i : Int)) = true := bne_iff_ne.mpr hyi
            have y1 : ((y : Int) == (i : Int)) = false := beq_eq_false_iff_ne.mpr hyi
            have HYI := AZ.mk (fun e : pp P (i : Int) 0 = (i : Int) => hyi (HY.out.symm.trans e))
            clear hyi HY
            go_wp2
            go_ret
            exact ⟨congrArg (fun b => Ending.returned (Value.bool b)) (ok_no (fun h => (HYI.out (h.2.2.2.2.2.1 i hi).2).elim)).symm, HB.out⟩
          ·have x0 : (x != (i : Int)) = true := bne_iff_ne.mpr hxi
           have x1 : ((x : Int) == (i : Int)) = false := beq_eq_false_iff_ne.mpr hxi
           have HXI := AZ.mk (fun e : pp P 0 (i : Int) = (i : Int) => hxi (HX.out.symm.trans e))
           clear hxi HX
           go_wp2
           go_ret
           exact ⟨congrArg (fun b => Ending.returned (Value.bool b)) (ok_no (fun h => (HXI.out (h.2.2.2.2.2.1 i hi).1).elim)).symm, HB.out⟩
         ·have ci := decide_eq_false (show ¬ (i : Int) < (Ac.length : Int) by omega)
          have HUN := AZ.mk (show ∀ i' : Nat, i' < Ac.length → pp P 0 i' = i' ∧ pp P i' 0 = i' from fun i' h => HD1.out i' (by omega))
          have hz0 := (bc BB.out 0).trans rfl
          have hz1 := (bc BB.out 1).trans rfl
          have hz2 := (bc BB.out 2).trans rfl
          have hz3 := (bc BB.out 3).trans rfl
          go_wp2_with (first | ((with_reducible refine gate_callee (f := 38) rfl ?_); (try (refine gate_guard (by rfl) ?_; dsimp only)); refine goesL_ (some 81) rfl rfl Try.func38 (by kernel_rfl) rfl #[.agg #[.slice A0 P.length c0, .slice A1 Wr.length c1, .slice A2 In.length c2, .slice A3 Ac.length c3]] rfl (by (try simp only [List.map_toArray, List.map_cons, List.map_nil]); first | done | rfl) ?_; refine (apart_calls Ac.length A0 c0 P A1 c1 Wr A2 c2 In A3 c3 Ac _ (Kd.C_below HP.out HB.out) HC0.out (Kd.C_below HW.out HB.out) HC1.out (Kd.C_below HI.out HB.out) HC2.out (Kd.C_below HA.out HB.out) HC3.out rfl HN1.out.2 HT.out).mono ?_; rintro e w81 ⟨x, y, z, bb, rfl, hbb, hb⟩; refine ⟨_, rfl, ?_⟩; have n0_ := AZ.mk (pT HB.out hb); clear HB; have HB := n0_; clear n0_; have HBB := AZ.mk hbb; clear hb hbb hz0 hz1 hz2 hz3 BB) | ((with_reducible refine gate_dst (N := 9) rfl ?_); refine box_event ?hg (N := 9) ?hd (cs := #[.int .i64 0, .int .i64 0, .int .i64 0]) (t := 59) ?hr ?_; (case hd => rfl); (case hg => rfl); (case hr => first | (go_simp; done) | (go_simp; rfl)); intro gR hg WgR hbx hb; have BR := AZ.mk hbx; have GR := AZ.mk (show w.heap.size ≤ gR by rw [hg]; exact pZ HB.out); have n0_ := AZ.mk (pT HB.out hb); clear HB; have HB := n0_; clear n0_; clear hb hbx hg) | ((with_reducible refine gate_ (.store 59 (.tmp 9) (.tmp 82)) rfl ?_); refine store59 rfl 9 82 rfl (g := gR) (old := #[.int .i64 0, .int .i64 0, .int .i64 0]) (cs := #[.int .i64 x, .int .i64 y, .int .i64 z]) rfl rfl BR.out rfl rfl (three_one _ _ _) ?_; intro w99 hbx hB hfar; have n0_ := AZ.mk (hB _ _ HB.out GR.out); clear BR HB hB hbx hfar; have HB := n0_; clear n0_))
          go_ret
          refine ⟨?_, HB.out⟩
          cases bb with
          | false => exact congrArg (fun b => Ending.returned (Value.bool b)) (ok_yes ⟨HN1.out, H2.out, H3.out, H4.out, HALL.out, HUN.out, fun i hi k hk j hj => HBB.out.1 rfl i k j hi hk hj⟩).symm
          | true => exact congrArg (fun b => Ending.returned (Value.bool b)) (ok_no (fun h => absurd (HBB.out.2 (fun i k j hi hk hj => h.2.2.2.2.2.2 i hi k hk j hj)) (by decide))).symm
   ·have k3 : ((Wr.length : Int) != 4) = true := bne_iff_ne.mpr (by omega)
    have H3 := AZ.mk h3
    have k3n := eq_false h3
    clear h3
    refine start_ (n := 23) (S := fun w' => True) (ds := []) (bz 23 0) (by kernel_rfl) rfl rfl trivial (fun hHeld => ?_)
    refine with_tabW valg.tab4 valg.bits4 (fun HT_ HW_ => ?_)
    have n0_ := AZ.mk (pD HB.out)
    have n1_ := AZ.mk (bd_ BB.out)
    have n2_ := AZ.mk (bd_ BN.out)
    have n3_ := AZ.mk (bd_ BF.out)
    clear HB BB BN BF
    have HB := n0_
    have BB := n1_
    have BN := n2_
    have BF := n3_
    clear n0_ n1_ n2_ n3_
    generalize World.drew _ = wD at HB BB BN BF hHeld ⊢
    refine inv_at [0, 1, 2, 3, 4, 5, 6, 7, 8, 9, 10, 11, 12, 13, 14, 15, 16, 17, 18, 19, 20, 21, 22] (fun a0_ b a w' => a = putSel a0_ b [(0, 15, .int .i64 (Ac.length : Int)), (1, 16, .bool true), (2, 17, .bool false), (3, 18, .bool false), (4, 19, .pointer (some ⟨gB, 0, none⟩)), (5, 20, .slice A0 P.length c0), (6, 21, .int .i64 (P.length : Int)), (7, 22, .int .i64 (Ac.length : Int)), (8, 23, .bool false), (9, 24, .bool false), (10, 25, .bool false), (11, 26, .pointer (some ⟨gB, 1, none⟩)), (12, 27, .slice A1 Wr.length c1), (13, 28, .int .i64 (Wr.length : Int)), (14, 29, .bool true), (15, 30, .bool true), (16, 31, .bool true), (17, 32, undef), (18, 33, undef), (19, 34, undef), (20, 35, undef), (21, 36, undef), (22, 37, .bool true)] ∧ (Below w.heap.size w w') ∧ (w'.heap[gB]? = some (.cells #[.slice A0 P.length c0, .slice A1 Wr.length c1, .slice A2 In.length c2, .slice A3 Ac.length c3] 29 (0, 0))) ∧ (w'.heap[gN]? = some (.cells #[.int .i64 (Ac.length : Int)] 2 (0, 0))) ∧ (w'.heap[gF]? = some (.cells #[.func (.func 30) #[] #[.pointer (some ⟨gN, 0, none⟩)]] 55 (0, 0)))) HT_.out HW_.out (by kernel_rfl) (by kernel_rfl) ?_ ?_ ?_
    ·exact ⟨by simp only [putSel, Bool.false_eq_true, if_false], HB.out, BB.out, BN.out, BF.out⟩
    ·skip
     clear BB BF BN HB
     refine steps_cons ?_ ?_
     ·rintro b a w' ⟨ha, Q_HB, Q_BB, Q_BN, Q_BF⟩ hb_ hon hoff
      refine ⟨_, rfl, fun K hK => ?_⟩
      have e3 : a.tmps[3]? = some (.pointer (some ⟨gN, 0, none⟩)) := by rw [ha]; exact (putSel_off rfl).trans rfl
      replace ha := AZ.mk ha
      have HB := AZ.mk Q_HB
      have BB := AZ.mk Q_BB
      have BN := AZ.mk Q_BN
      have BF := AZ.mk Q_BF
      have hc_ : w'.cell? ⟨gN, 0, none⟩ = some (.int .i64 (Ac.length : Int)) := (bc BN.out 0).trans rfl
      refine value_ (w1 := w') (v := .int .i64 (Ac.length : Int)) (by rfl) rfl ?_ ?_
      ·go_simp
       (try simp only [i64_w])
       try rfl
      refine hK.out _ _ ⟨(by rw [ha.out]; exact putSel_upk 0 hb_ rfl rfl rfl), Q_HB, Q_BB, Q_BN, Q_BF⟩
     refine steps_cons ?_ ?_
     ·rintro b a w' ⟨ha, Q_HB, Q_BB, Q_BN, Q_BF⟩ hb_ hon hoff
      refine ⟨_, rfl, fun K hK => ?_⟩
      have e15 : a.tmps[15]? = some (.int .i64 (Ac.length : Int)) := by rw [ha]; exact putSel_on (e := (0, 15, .int .i64 (Ac.length : Int))) 0 rfl rfl (hon 0 (by kernel_rfl)) rfl
      replace ha := AZ.mk ha
      have HB := AZ.mk Q_HB
      have BB := AZ.mk Q_BB
      have BN := AZ.mk Q_BN
      have BF := AZ.mk Q_BF
      refine goes_ Try.func34 (by kernel_rfl) rfl #[.int .i64 (Ac.length : Int), .int .i64 1, .int .i64 40] (by rfl) rfl rfl (by simp only [List.map_toArray, List.map_cons, List.map_nil, eval_of e15]; rfl) ?_
      refine (impl_within.calls (Ac.length : Int) 1 40 true _ H1.out).mono ?_
      rintro e w_ ⟨rfl, hd⟩
      refine ⟨_, rfl, ?_⟩
      have hb := hd.below
      refine hK.out _ _ ⟨(by rw [ha.out]; exact putSel_upk 1 hb_ rfl rfl rfl), pT HB.out hb, bb_ BB.out hb, bb_ BN.out hb, bb_ BF.out hb⟩
     refine steps_cons ?_ ?_
     ·rintro b a w' ⟨ha, Q_HB, Q_BB, Q_BN, Q_BF⟩ hb_ hon hoff
      refine ⟨_, rfl, fun K hK => ?_⟩
      have e16 : a.tmps[16]? = some (.bool true) := by rw [ha]; exact putSel_on (e := (1, 16, .bool true)) 1 rfl rfl (hon 1 (by kernel_rfl)) rfl
      replace ha := AZ.mk ha
      have HB := AZ.mk Q_HB
      have BB := AZ.mk Q_BB
      have BN := AZ.mk Q_BN
      have BF := AZ.mk Q_BF
      refine value_ (w1 := w') (v := .bool false) (by rfl) rfl ?_ ?_
      ·go_simp
       (try simp only [i64_w])
       try rfl
      refine hK.out _ _ ⟨(by rw [ha.out]; exact putSel_upk 2 hb_ rfl rfl rfl), Q_HB, Q_BB, Q_BN, Q_BF⟩
     refine steps_cons ?_ ?_
     ·rintro b a w' ⟨ha, Q_HB, Q_BB, Q_BN, Q_BF⟩ hb_ hon hoff
      refine ⟨_, rfl, fun K hK => ?_⟩
      have e17 : a.tmps[17]? = some (.bool false) := by rw [ha]; exact putSel_on (e := (2, 17, .bool false)) 2 rfl rfl (hon 2 (by kernel_rfl)) rfl
      replace ha := AZ.mk ha
      have HB := AZ.mk Q_HB
      have BB := AZ.mk Q_BB
      have BN := AZ.mk Q_BN
      have BF := AZ.mk Q_BF
      refine value_ (w1 := w') (v := .bool false) (by rfl) rfl ?_ ?_
      ·go_simp
       (try simp only [i64_w])
       try rfl
      refine hK.out _ _ ⟨(by rw [ha.out]; exact putSel_upk 3 hb_ rfl rfl rfl), Q_HB, Q_BB, Q_BN, Q_BF⟩
     refine steps_cons ?_ ?_
     ·rintro b a w' ⟨ha, Q_HB, Q_BB, Q_BN, Q_BF⟩ hb_ hon hoff
      refine ⟨_, rfl, fun K hK => ?_⟩
      have e1 : a.tmps[1]? = some (.pointer (some ⟨gB, 0, none⟩)) := by rw [ha]; exact (putSel_off rfl).trans rfl
      have e18 : a.tmps[18]? = some (.bool false) := by rw [ha]; exact putSel_on (e := (3, 18, .bool false)) 3 rfl rfl (hon 3 (by kernel_rfl)) rfl
      replace ha := AZ.mk ha
      have HB := AZ.mk Q_HB
      have BB := AZ.mk Q_BB
      have BN := AZ.mk Q_BN
      have BF := AZ.mk Q_BF
      refine value_ (w1 := w') (v := .pointer (some ⟨gB, 0, none⟩)) (wanted_on rfl rfl rfl (e18.trans (by first | rfl | (simp [*]; done)))) rfl ?_ ?_
      ·go_simp
       (try simp only [i64_w])
       try rfl
      refine hK.out _ _ ⟨(by rw [ha.out]; exact putSel_upk 4 hb_ rfl rfl rfl), Q_HB, Q_BB, Q_BN, Q_BF⟩
     refine steps_cons ?_ ?_
     ·rintro b a w' ⟨ha, Q_HB, Q_BB, Q_BN, Q_BF⟩ hb_ hon hoff
      refine ⟨_, rfl, fun K hK => ?_⟩
      have e19 : a.tmps[19]? = some (.pointer (some ⟨gB, 0, none⟩)) := by rw [ha]; exact putSel_on (e := (4, 19, .pointer (some ⟨gB, 0, none⟩))) 4 rfl rfl (hon 4 (by kernel_rfl)) rfl
      have e18 : a.tmps[18]? = some (.bool false) := by rw [ha]; exact putSel_on (e := (3, 18, .bool false)) 3 rfl rfl (hon 3 (by kernel_rfl)) rfl
      replace ha := AZ.mk ha
      have HB := AZ.mk Q_HB
      have BB := AZ.mk Q_BB
      have BN := AZ.mk Q_BN
      have BF := AZ.mk Q_BF
      have hc_ : w'.cell? ⟨gB, 0, none⟩ = some (.slice A0 P.length c0) := (bc BB.out 0).trans rfl
      refine value_ (w1 := w') (v := .slice A0 P.length c0) (wanted_on rfl rfl rfl (e18.trans (by first | rfl | (simp [*]; done)))) rfl ?_ ?_
      ·go_simp
       (try simp only [i64_w])
       try rfl
      refine hK.out _ _ ⟨(by rw [ha.out]; exact putSel_upk 5 hb_ rfl rfl rfl), Q_HB, Q_BB, Q_BN, Q_BF⟩
     refine steps_cons ?_ ?_
     ·rintro b a w' ⟨ha, Q_HB, Q_BB, Q_BN, Q_BF⟩ hb_ hon hoff
      refine ⟨_, rfl, fun K hK => ?_⟩
      have e20 : a.tmps[20]? = some (.slice A0 P.length c0) := by rw [ha]; exact putSel_on (e := (5, 20, .slice A0 P.length c0)) 5 rfl rfl (hon 5 (by kernel_rfl)) rfl
      have e18 : a.tmps[18]? = some (.bool false) := by rw [ha]; exact putSel_on (e := (3, 18, .bool false)) 3 rfl rfl (hon 3 (by kernel_rfl)) rfl
      replace ha := AZ.mk ha
      have HB := AZ.mk Q_HB
      have BB := AZ.mk Q_BB
      have BN := AZ.mk Q_BN
      have BF := AZ.mk Q_BF
      refine goes_ Try.func36 (by kernel_rfl) rfl #[.slice A0 P.length c0] (wanted_on rfl rfl rfl (e18.trans (by first | rfl | (simp [*]; done)))) rfl rfl (by simp only [List.map_toArray, List.map_cons, List.map_nil, eval_of e20]) ?_
      refine (impl_size_Lint64.calls A0 c0 P (P.length : Int) _ (Kd.C_below HP.out HB.out) HC0.out rfl).mono ?_
      rintro e w_ ⟨rfl, hd⟩
      refine ⟨_, rfl, ?_⟩
      have hb := hd.below
      refine hK.out _ _ ⟨(by rw [ha.out]; exact putSel_upk 6 hb_ rfl rfl rfl), pT HB.out hb, bb_ BB.out hb, bb_ BN.out hb, bb_ BF.out hb⟩
     refine steps_cons ?_ ?_
     ·rintro b a w' ⟨ha, Q_HB, Q_BB, Q_BN, Q_BF⟩ hb_ hon hoff
      refine ⟨_, rfl, fun K hK => ?_⟩
      have e3 : a.tmps[3]? = some (.pointer (some ⟨gN, 0, none⟩)) := by rw [ha]; exact (putSel_off rfl).trans rfl
      have e18 : a.tmps[18]? = some (.bool false) := by rw [ha]; exact putSel_on (e := (3, 18, .bool false)) 3 rfl rfl (hon 3 (by kernel_rfl)) rfl
      replace ha := AZ.mk ha
      have HB := AZ.mk Q_HB
      have BB := AZ.mk Q_BB
      have BN := AZ.mk Q_BN
      have BF := AZ.mk Q_BF
      have hc_ : w'.cell? ⟨gN, 0, none⟩ = some (.int .i64 (Ac.length : Int)) := (bc BN.out 0).trans rfl
      refine value_ (w1 := w') (v := .int .i64 (Ac.length : Int)) (wanted_on rfl rfl rfl (e18.trans (by first | rfl | (simp [*]; done)))) rfl ?_ ?_
      ·go_simp
       (try simp only [i64_w])
       try rfl
      refine hK.out _ _ ⟨(by rw [ha.out]; exact putSel_upk 7 hb_ rfl rfl rfl), Q_HB, Q_BB, Q_BN, Q_BF⟩
     refine steps_cons ?_ ?_
     ·rintro b a w' ⟨ha, Q_HB, Q_BB, Q_BN, Q_BF⟩ hb_ hon hoff
      refine ⟨_, rfl, fun K hK => ?_⟩
      have e21 : a.tmps[21]? = some (.int .i64 (P.length : Int)) := by rw [ha]; exact putSel_on (e := (6, 21, .int .i64 (P.length : Int))) 6 rfl rfl (hon 6 (by kernel_rfl)) rfl
      have e22 : a.tmps[22]? = some (.int .i64 (Ac.length : Int)) := by rw [ha]; exact putSel_on (e := (7, 22, .int .i64 (Ac.length : Int))) 7 rfl rfl (hon 7 (by kernel_rfl)) rfl
      have e18 : a.tmps[18]? = some (.bool false) := by rw [ha]; exact putSel_on (e := (3, 18, .bool false)) 3 rfl rfl (hon 3 (by kernel_rfl)) rfl
      replace ha := AZ.mk ha
      have HB := AZ.mk Q_HB
      have BB := AZ.mk Q_BB
      have BN := AZ.mk Q_BN
      have BF := AZ.mk Q_BF
      refine value_ (w1 := w') (v := .bool false) (wanted_on rfl rfl rfl (e18.trans (by first | rfl | (simp [*]; done)))) rfl ?_ ?_
      ·go_simp
       (try simp only [i64_w])
       try rfl
      refine hK.out _ _ ⟨(by rw [ha.out]; exact putSel_upk 8 hb_ rfl rfl rfl), Q_HB, Q_BB, Q_BN, Q_BF⟩
     refine steps_cons ?_ ?_
     ·rintro b a w' ⟨ha, Q_HB, Q_BB, Q_BN, Q_BF⟩ hb_ hon hoff
      refine ⟨_, rfl, fun K hK => ?_⟩
      have e18 : a.tmps[18]? = some (.bool false) := by rw [ha]; exact putSel_on (e := (3, 18, .bool false)) 3 rfl rfl (hon 3 (by kernel_rfl)) rfl
      have e23 : a.tmps[23]? = some (.bool false) := by rw [ha]; exact putSel_on (e := (8, 23, .bool false)) 8 rfl rfl (hon 8 (by kernel_rfl)) rfl
      replace ha := AZ.mk ha
      have HB := AZ.mk Q_HB
      have BB := AZ.mk Q_BB
      have BN := AZ.mk Q_BN
      have BF := AZ.mk Q_BF
      refine value_ (w1 := w') (v := .bool false) (by rfl) rfl ?_ ?_
      ·go_simp
       (try simp only [i64_w])
       try rfl
      refine hK.out _ _ ⟨(by rw [ha.out]; exact putSel_upk 9 hb_ rfl rfl rfl), Q_HB, Q_BB, Q_BN, Q_BF⟩
     refine steps_cons ?_ ?_
     ·rintro b a w' ⟨ha, Q_HB, Q_BB, Q_BN, Q_BF⟩ hb_ hon hoff
      refine ⟨_, rfl, fun K hK => ?_⟩
      have e24 : a.tmps[24]? = some (.bool false) := by rw [ha]; exact putSel_on (e := (9, 24, .bool false)) 9 rfl rfl (hon 9 (by kernel_rfl)) rfl
      replace ha := AZ.mk ha
      have HB := AZ.mk Q_HB
      have BB := AZ.mk Q_BB
      have BN := AZ.mk Q_BN
      have BF := AZ.mk Q_BF
      refine value_ (w1 := w') (v := .bool false) (by rfl) rfl ?_ ?_
      ·go_simp
       (try simp only [i64_w])
       try rfl
      refine hK.out _ _ ⟨(by rw [ha.out]; exact putSel_upk 10 hb_ rfl rfl rfl), Q_HB, Q_BB, Q_BN, Q_BF⟩
     refine steps_cons ?_ ?_
     ·rintro b a w' ⟨ha, Q_HB, Q_BB, Q_BN, Q_BF⟩ hb_ hon hoff
      refine ⟨_, rfl, fun K hK => ?_⟩
      have e1 : a.tmps[1]? = some (.pointer (some ⟨gB, 0, none⟩)) := by rw [ha]; exact (putSel_off rfl).trans rfl
      have e25 : a.tmps[25]? = some (.bool false) := by rw [ha]; exact putSel_on (e := (10, 25, .bool false)) 10 rfl rfl (hon 10 (by kernel_rfl)) rfl
      replace ha := AZ.mk ha
      have HB := AZ.mk Q_HB
      have BB := AZ.mk Q_BB
      have BN := AZ.mk Q_BN
      have BF := AZ.mk Q_BF
      refine value_ (w1 := w') (v := .pointer (some ⟨gB, 1, none⟩)) (wanted_on rfl rfl rfl (e25.trans (by first | rfl | (simp [*]; done)))) rfl ?_ ?_
      ·go_simp
       (try simp only [i64_w])
       try rfl
      refine hK.out _ _ ⟨(by rw [ha.out]; exact putSel_upk 11 hb_ rfl rfl rfl), Q_HB, Q_BB, Q_BN, Q_BF⟩
     refine steps_cons ?_ ?_
     ·rintro b a w' ⟨ha, Q_HB, Q_BB, Q_BN, Q_BF⟩ hb_ hon hoff
      refine ⟨_, rfl, fun K hK => ?_⟩
      have e26 : a.tmps[26]? = some (.pointer (some ⟨gB, 1, none⟩)) := by rw [ha]; exact putSel_on (e := (11, 26, .pointer (some ⟨gB, 1, none⟩))) 11 rfl rfl (hon 11 (by kernel_rfl)) rfl
      have e25 : a.tmps[25]? = some (.bool false) := by rw [ha]; exact putSel_on (e := (10, 25, .bool false)) 10 rfl rfl (hon 10 (by kernel_rfl)) rfl
      replace ha := AZ.mk ha
      have HB := AZ.mk Q_HB
      have BB := AZ.mk Q_BB
      have BN := AZ.mk Q_BN
      have BF := AZ.mk Q_BF
      have hc_ : w'.cell? ⟨gB, 1, none⟩ = some (.slice A1 Wr.length c1) := (bc BB.out 1).trans rfl
      refine value_ (w1 := w') (v := .slice A1 Wr.length c1) (wanted_on rfl rfl rfl (e25.trans (by first | rfl | (simp [*]; done)))) rfl ?_ ?_
      ·go_simp
       (try simp only [i64_w])
       try rfl
      refine hK.out _ _ ⟨(by rw [ha.out]; exact putSel_upk 12 hb_ rfl rfl rfl), Q_HB, Q_BB, Q_BN, Q_BF⟩
     refine steps_cons ?_ ?_
     ·rintro b a w' ⟨ha, Q_HB, Q_BB, Q_BN, Q_BF⟩ hb_ hon hoff
      refine ⟨_, rfl, fun K hK => ?_⟩
      have e27 : a.tmps[27]? = some (.slice A1 Wr.length c1) := by rw [ha]; exact putSel_on (e := (12, 27, .slice A1 Wr.length c1)) 12 rfl rfl (hon 12 (by kernel_rfl)) rfl
      have e25 : a.tmps[25]? = some (.bool false) := by rw [ha]; exact putSel_on (e := (10, 25, .bool false)) 10 rfl rfl (hon 10 (by kernel_rfl)) rfl
      replace ha := AZ.mk ha
      have HB := AZ.mk Q_HB
      have BB := AZ.mk Q_BB
      have BN := AZ.mk Q_BN
      have BF := AZ.mk Q_BF
      refine value_ (w1 := w') (v := .int .i64 (Wr.length : Int)) (wanted_on rfl rfl rfl (e25.trans (by first | rfl | (simp [*]; done)))) rfl ?_ ?_
      ·go_simp
       (try simp only [i64_w])
       try rfl
      refine hK.out _ _ ⟨(by rw [ha.out]; exact putSel_upk 13 hb_ rfl rfl rfl), Q_HB, Q_BB, Q_BN, Q_BF⟩
     refine steps_cons ?_ ?_
     ·rintro b a w' ⟨ha, Q_HB, Q_BB, Q_BN, Q_BF⟩ hb_ hon hoff
      refine ⟨_, rfl, fun K hK => ?_⟩
      have e28 : a.tmps[28]? = some (.int .i64 (Wr.length : Int)) := by rw [ha]; exact putSel_on (e := (13, 28, .int .i64 (Wr.length : Int))) 13 rfl rfl (hon 13 (by kernel_rfl)) rfl
      have e25 : a.tmps[25]? = some (.bool false) := by rw [ha]; exact putSel_on (e := (10, 25, .bool false)) 10 rfl rfl (hon 10 (by kernel_rfl)) rfl
      replace ha := AZ.mk ha
      have HB := AZ.mk Q_HB
      have BB := AZ.mk Q_BB
      have BN := AZ.mk Q_BN
      have BF := AZ.mk Q_BF
      refine value_ (w1 := w') (v := .bool true) (wanted_on rfl rfl rfl (e25.trans (by first | rfl | (simp [*]; done)))) rfl ?_ ?_
      ·go_simp
       (try simp only [i64_w])
       try rfl
      refine hK.out _ _ ⟨(by rw [ha.out]; exact putSel_upk 14 hb_ rfl rfl rfl), Q_HB, Q_BB, Q_BN, Q_BF⟩
     refine steps_cons ?_ ?_
     ·rintro b a w' ⟨ha, Q_HB, Q_BB, Q_BN, Q_BF⟩ hb_ hon hoff
      refine ⟨_, rfl, fun K hK => ?_⟩
      have e25 : a.tmps[25]? = some (.bool false) := by rw [ha]; exact putSel_on (e := (10, 25, .bool false)) 10 rfl rfl (hon 10 (by kernel_rfl)) rfl
      have e29 : a.tmps[29]? = some (.bool true) := by rw [ha]; exact putSel_on (e := (14, 29, .bool true)) 14 rfl rfl (hon 14 (by kernel_rfl)) rfl
      replace ha := AZ.mk ha
      have HB := AZ.mk Q_HB
      have BB := AZ.mk Q_BB
      have BN := AZ.mk Q_BN
      have BF := AZ.mk Q_BF
      refine value_ (w1 := w') (v := .bool true) (by rfl) rfl ?_ ?_
      ·go_simp
       (try simp only [i64_w])
       try rfl
      refine hK.out _ _ ⟨(by rw [ha.out]; exact putSel_upk 15 hb_ rfl rfl rfl), Q_HB, Q_BB, Q_BN, Q_BF⟩
     refine steps_cons ?_ ?_
     ·rintro b a w' ⟨ha, Q_HB, Q_BB, Q_BN, Q_BF⟩ hb_ hon hoff
      refine ⟨_, rfl, fun K hK => ?_⟩
      have e30 : a.tmps[30]? = some (.bool true) := by rw [ha]; exact putSel_on (e := (15, 30, .bool true)) 15 rfl rfl (hon 15 (by kernel_rfl)) rfl
      replace ha := AZ.mk ha
      have HB := AZ.mk Q_HB
      have BB := AZ.mk Q_BB
      have BN := AZ.mk Q_BN
      have BF := AZ.mk Q_BF
      refine value_ (w1 := w') (v := .bool true) (by rfl) rfl ?_ ?_
      ·go_simp
       (try simp only [i64_w])
       try rfl
      refine hK.out _ _ ⟨(by rw [ha.out]; exact putSel_upk 16 hb_ rfl rfl rfl), Q_HB, Q_BB, Q_BN, Q_BF⟩
     refine steps_cons ?_ ?_
     ·rintro b a w' ⟨ha, Q_HB, Q_BB, Q_BN, Q_BF⟩ hb_ hon hoff
      refine ⟨_, rfl, fun K hK => ?_⟩
      have e31 : a.tmps[31]? = some (.bool true) := by rw [ha]; exact putSel_on (e := (16, 31, .bool true)) 16 rfl rfl (hon 16 (by kernel_rfl)) rfl
      replace ha := AZ.mk ha
      have HB := AZ.mk Q_HB
      have BB := AZ.mk Q_BB
      have BN := AZ.mk Q_BN
      have BF := AZ.mk Q_BF
      refine off_ (wanted_off rfl rfl rfl (e31.trans (by first | rfl | (simp [*]; done)))) ?_
      refine hK.out _ _ ⟨(by rw [ha.out]; exact putSel_upk 17 hb_ rfl rfl rfl), Q_HB, Q_BB, Q_BN, Q_BF⟩
     refine steps_cons ?_ ?_
     ·rintro b a w' ⟨ha, Q_HB, Q_BB, Q_BN, Q_BF⟩ hb_ hon hoff
      refine ⟨_, rfl, fun K hK => ?_⟩
      have e31 : a.tmps[31]? = some (.bool true) := by rw [ha]; exact putSel_on (e := (16, 31, .bool true)) 16 rfl rfl (hon 16 (by kernel_rfl)) rfl
      replace ha := AZ.mk ha
      have HB := AZ.mk Q_HB
      have BB := AZ.mk Q_BB
      have BN := AZ.mk Q_BN
      have BF := AZ.mk Q_BF
      refine off_ (wanted_off rfl rfl rfl (e31.trans (by first | rfl | (simp [*]; done)))) ?_
      refine hK.out _ _ ⟨(by rw [ha.out]; exact putSel_upk 18 hb_ rfl rfl rfl), Q_HB, Q_BB, Q_BN, Q_BF⟩
     refine steps_cons ?_ ?_
     ·rintro b a w' ⟨ha, Q_HB, Q_BB, Q_BN, Q_BF⟩ hb_ hon hoff
      refine ⟨_, rfl, fun K hK => ?_⟩
      have e31 : a.tmps[31]? = some (.bool true) := by rw [ha]; exact putSel_on (e := (16, 31, .bool true)) 16 rfl rfl (hon 16 (by kernel_rfl)) rfl
      replace ha := AZ.mk ha
      have HB := AZ.mk Q_HB
      have BB := AZ.mk Q_BB
      have BN := AZ.mk Q_BN
      have BF := AZ.mk Q_BF
      refine off_ (wanted_off rfl rfl rfl (e31.trans (by first | rfl | (simp [*]; done)))) ?_
      refine hK.out _ _ ⟨(by rw [ha.out]; exact putSel_upk 19 hb_ rfl rfl rfl), Q_HB, Q_BB, Q_BN, Q_BF⟩
     refine steps_cons ?_ ?_
     ·rintro b a w' ⟨ha, Q_HB, Q_BB, Q_BN, Q_BF⟩ hb_ hon hoff
      refine ⟨_, rfl, fun K hK => ?_⟩
      have e31 : a.tmps[31]? = some (.bool true) := by rw [ha]; exact putSel_on (e := (16, 31, .bool true)) 16 rfl rfl (hon 16 (by kernel_rfl)) rfl
      replace ha := AZ.mk ha
      have HB := AZ.mk Q_HB
      have BB := AZ.mk Q_BB
      have BN := AZ.mk Q_BN
      have BF := AZ.mk Q_BF
      refine off_ (wanted_off rfl rfl rfl (e31.trans (by first | rfl | (simp [*]; done)))) ?_
      refine hK.out _ _ ⟨(by rw [ha.out]; exact putSel_upk 20 hb_ rfl rfl rfl), Q_HB, Q_BB, Q_BN, Q_BF⟩
     refine steps_cons ?_ ?_
     ·rintro b a w' ⟨ha, Q_HB, Q_BB, Q_BN, Q_BF⟩ hb_ hon hoff
      refine ⟨_, rfl, fun K hK => ?_⟩
      have e31 : a.tmps[31]? = some (.bool true) := by rw [ha]; exact putSel_on (e := (16, 31, .bool true)) 16 rfl rfl (hon 16 (by kernel_rfl)) rfl
      replace ha := AZ.mk ha
      have HB := AZ.mk Q_HB
      have BB := AZ.mk Q_BB
      have BN := AZ.mk Q_BN
      have BF := AZ.mk Q_BF
      refine off_ (wanted_off rfl rfl rfl (e31.trans (by first | rfl | (simp [*]; done)))) ?_
      refine hK.out _ _ ⟨(by rw [ha.out]; exact putSel_upk 21 hb_ rfl rfl rfl), Q_HB, Q_BB, Q_BN, Q_BF⟩
     refine steps_cons ?_ ?_
     ·rintro b a w' ⟨ha, Q_HB, Q_BB, Q_BN, Q_BF⟩ hb_ hon hoff
      refine ⟨_, rfl, fun K hK => ?_⟩
      have e31 : a.tmps[31]? = some (.bool true) := by rw [ha]; exact putSel_on (e := (16, 31, .bool true)) 16 rfl rfl (hon 16 (by kernel_rfl)) rfl
      have e36 : a.tmps[36]? = some (undef) := by rw [ha]; exact putSel_on (e := (21, 36, undef)) 21 rfl rfl (hon 21 (by kernel_rfl)) rfl
      replace ha := AZ.mk ha
      have HB := AZ.mk Q_HB
      have BB := AZ.mk Q_BB
      have BN := AZ.mk Q_BN
      have BF := AZ.mk Q_BF
      refine value_ (w1 := w') (v := .bool true) (by rfl) rfl ?_ ?_
      ·go_simp
       (try simp only [i64_w])
       try rfl
      refine hK.out _ _ ⟨(by rw [ha.out]; exact putSel_upk 22 hb_ rfl rfl rfl), Q_HB, Q_BB, Q_BN, Q_BF⟩
     exact steps_nil
    ·rintro b a w' hall ⟨ha, Q_HB, Q_BB, Q_BN, Q_BF⟩
     clear BB BF BN HB
     have hb0_ := hall 0 (by kernel_rfl)
     have hb1_ := hall 1 (by kernel_rfl)
     have hb2_ := hall 2 (by kernel_rfl)
     have hb3_ := hall 3 (by kernel_rfl)
     have hb4_ := hall 4 (by kernel_rfl)
     have hb5_ := hall 5 (by kernel_rfl)
     have hb6_ := hall 6 (by kernel_rfl)
     have hb7_ := hall 7 (by kernel_rfl)
     have hb8_ := hall 8 (by kernel_rfl)
     have hb9_ := hall 9 (by kernel_rfl)
     have hb10_ := hall 10 (by kernel_rfl)
     have hb11_ := hall 11 (by kernel_rfl)
     have hb12_ := hall 12 (by kernel_rfl)
     have hb13_ := hall 13 (by kernel_rfl)
     have hb14_ := hall 14 (by kernel_rfl)
     have hb15_ := hall 15 (by kernel_rfl)
     have hb16_ := hall 16 (by kernel_rfl)
     have hb17_ := hall 17 (by kernel_rfl)
     have hb18_ := hall 18 (by kernel_rfl)
     have hb19_ := hall 19 (by kernel_rfl)
     have hb20_ := hall 20 (by kernel_rfl)
     have hb21_ := hall 21 (by kernel_rfl)
     have hb22_ := hall 22 (by kernel_rfl)
     subst ha
     simp only [putSel, hb0_, hb1_, hb2_, hb3_, hb4_, hb5_, hb6_, hb7_, hb8_, hb9_, hb10_, hb11_, hb12_, hb13_, hb14_, hb15_, hb16_, hb17_, hb18_, hb19_, hb20_, hb21_, hb22_, if_true, Act.put, sA, sB, sC]
     have HB := AZ.mk Q_HB
     clear Q_HB
     have BB := AZ.mk Q_BB
     clear Q_BB
     have BN := AZ.mk Q_BN
     clear Q_BN
     have BF := AZ.mk Q_BF
     clear Q_BF
     clear hall hb0_ hb1_ hb2_ hb3_ hb4_ hb5_ hb6_ hb7_ hb8_ hb9_ hb10_ hb11_ hb12_ hb13_ hb14_ hb15_ hb16_ hb17_ hb18_ hb19_ hb20_ hb21_ hb22_
     clear k2 k3 k3n
     go_wp2
     go_ret
     exact ⟨congrArg (fun b => Ending.returned (Value.bool b)) (ok_no (fun h => H3.out h.2.2.1)).symm, HB.out⟩
  ·have k2 : ((P.length : Int) != (Ac.length : Int)) = true := bne_iff_ne.mpr (by omega)
   have H2 := AZ.mk h2
   clear h2
   refine start_ (n := 23) (S := fun w' => True) (ds := []) (bz 23 0) (by kernel_rfl) rfl rfl trivial (fun hHeld => ?_)
   refine with_tabW valg.tab4 valg.bits4 (fun HT_ HW_ => ?_)
   have n0_ := AZ.mk (pD HB.out)
   have n1_ := AZ.mk (bd_ BB.out)
   have n2_ := AZ.mk (bd_ BN.out)
   have n3_ := AZ.mk (bd_ BF.out)
   clear HB BB BN BF
   have HB := n0_
   have BB := n1_
   have BN := n2_
   have BF := n3_
   clear n0_ n1_ n2_ n3_
   generalize World.drew _ = wD at HB BB BN BF hHeld ⊢
   refine inv_at [0, 1, 2, 3, 4, 5, 6, 7, 8, 9, 10, 11, 12, 13, 14, 15, 16, 17, 18, 19, 20, 21, 22] (fun a0_ b a w' => a = putSel a0_ b [(0, 15, .int .i64 (Ac.length : Int)), (1, 16, .bool true), (2, 17, .bool false), (3, 18, .bool false), (4, 19, .pointer (some ⟨gB, 0, none⟩)), (5, 20, .slice A0 P.length c0), (6, 21, .int .i64 (P.length : Int)), (7, 22, .int .i64 (Ac.length : Int)), (8, 23, .bool true), (9, 24, .bool true), (10, 25, .bool true), (11, 26, undef), (12, 27, undef), (13, 28, undef), (14, 29, undef), (15, 30, .bool true), (16, 31, .bool true), (17, 32, undef), (18, 33, undef), (19, 34, undef), (20, 35, undef), (21, 36, undef), (22, 37, .bool true)] ∧ (Below w.heap.size w w') ∧ (w'.heap[gB]? = some (.cells #[.slice A0 P.length c0, .slice A1 Wr.length c1, .slice A2 In.length c2, .slice A3 Ac.length c3] 29 (0, 0))) ∧ (w'.heap[gN]? = some (.cells #[.int .i64 (Ac.length : Int)] 2 (0, 0))) ∧ (w'.heap[gF]? = some (.cells #[.func (.func 30) #[] #[.pointer (some ⟨gN, 0, none⟩)]] 55 (0, 0)))) HT_.out HW_.out (by kernel_rfl) (by kernel_rfl) ?_ ?_ ?_
   ·exact ⟨by simp only [putSel, Bool.false_eq_true, if_false], HB.out, BB.out, BN.out, BF.out⟩
   ·skip
    clear BB BF BN HB
    refine steps_cons ?_ ?_
    ·rintro b a w' ⟨ha, Q_HB, Q_BB, Q_BN, Q_BF⟩ hb_ hon hoff
     refine ⟨_, rfl, fun K hK => ?_⟩
     have e3 : a.tmps[3]? = some (.pointer (some ⟨gN, 0, none⟩)) := by rw [ha]; exact (putSel_off rfl).trans rfl
     replace ha := AZ.mk ha
     have HB := AZ.mk Q_HB
     have BB := AZ.mk Q_BB
     have BN := AZ.mk Q_BN
     have BF := AZ.mk Q_BF
     have hc_ : w'.cell? ⟨gN, 0, none⟩ = some (.int .i64 (Ac.length : Int)) := (bc BN.out 0).trans rfl
     refine value_ (w1 := w') (v := .int .i64 (Ac.length : Int)) (by rfl) rfl ?_ ?_
     ·go_simp
      (try simp only [i64_w])
      try rfl
     refine hK.out _ _ ⟨(by rw [ha.out]; exact putSel_upk 0 hb_ rfl rfl rfl), Q_HB, Q_BB, Q_BN, Q_BF⟩
    refine steps_cons ?_ ?_
    ·rintro b a w' ⟨ha, Q_HB, Q_BB, Q_BN, Q_BF⟩ hb_ hon hoff
     refine ⟨_, rfl, fun K hK => ?_⟩
     have e15 : a.tmps[15]? = some (.int .i64 (Ac.length : Int)) := by rw [ha]; exact putSel_on (e := (0, 15, .int .i64 (Ac.length : Int))) 0 rfl rfl (hon 0 (by kernel_rfl)) rfl
     replace ha := AZ.mk ha
     have HB := AZ.mk Q_HB
     have BB := AZ.mk Q_BB
     have BN := AZ.mk Q_BN
     have BF := AZ.mk Q_BF
     refine goes_ Try.func34 (by kernel_rfl) rfl #[.int .i64 (Ac.length : Int), .int .i64 1, .int .i64 40] (by rfl) rfl rfl (by simp only [List.map_toArray, List.map_cons, List.map_nil, eval_of e15]; rfl) ?_
     refine (impl_within.calls (Ac.length : Int) 1 40 true _ H1.out).mono ?_
     rintro e w_ ⟨rfl, hd⟩
     refine ⟨_, rfl, ?_⟩
     have hb := hd.below
     refine hK.out _ _ ⟨(by rw [ha.out]; exact putSel_upk 1 hb_ rfl rfl rfl), pT HB.out hb, bb_ BB.out hb, bb_ BN.out hb, bb_ BF.out hb⟩
    refine steps_cons ?_ ?_
    ·rintro b a w' ⟨ha, Q_HB, Q_BB, Q_BN, Q_BF⟩ hb_ hon hoff
     refine ⟨_, rfl, fun K hK => ?_⟩
     have e16 : a.tmps[16]? = some (.bool true) := by rw [ha]; exact putSel_on (e := (1, 16, .bool true)) 1 rfl rfl (hon 1 (by kernel_rfl)) rfl
     replace ha := AZ.mk ha
     have HB := AZ.mk Q_HB
     have BB := AZ.mk Q_BB
     have BN := AZ.mk Q_BN
     have BF := AZ.mk Q_BF
     refine value_ (w1 := w') (v := .bool false) (by rfl) rfl ?_ ?_
     ·go_simp
      (try simp only [i64_w])
      try rfl
     refine hK.out _ _ ⟨(by rw [ha.out]; exact putSel_upk 2 hb_ rfl rfl rfl), Q_HB, Q_BB, Q_BN, Q_BF⟩
    refine steps_cons ?_ ?_
    ·rintro b a w' ⟨ha, Q_HB, Q_BB, Q_BN, Q_BF⟩ hb_ hon hoff
     refine ⟨_, rfl, fun K hK => ?_⟩
     have e17 : a.tmps[17]? = some (.bool false) := by rw [ha]; exact putSel_on (e := (2, 17, .bool false)) 2 rfl rfl (hon 2 (by kernel_rfl)) rfl
     replace ha := AZ.mk ha
     have HB := AZ.mk Q_HB
     have BB := AZ.mk Q_BB
     have BN := AZ.mk Q_BN
     have BF := AZ.mk Q_BF
     refine value_ (w1 := w') (v := .bool false) (by rfl) rfl ?_ ?_
     ·go_simp
      (try simp only [i64_w])
      try rfl
     refine hK.out _ _ ⟨(by rw [ha.out]; exact putSel_upk 3 hb_ rfl rfl rfl), Q_HB, Q_BB, Q_BN, Q_BF⟩
    refine steps_cons ?_ ?_
    ·rintro b a w' ⟨ha, Q_HB, Q_BB, Q_BN, Q_BF⟩ hb_ hon hoff
     refine ⟨_, rfl, fun K hK => ?_⟩
     have e1 : a.tmps[1]? = some (.pointer (some ⟨gB, 0, none⟩)) := by rw [ha]; exact (putSel_off rfl).trans rfl
     have e18 : a.tmps[18]? = some (.bool false) := by rw [ha]; exact putSel_on (e := (3, 18, .bool false)) 3 rfl rfl (hon 3 (by kernel_rfl)) rfl
     replace ha := AZ.mk ha
     have HB := AZ.mk Q_HB
     have BB := AZ.mk Q_BB
     have BN := AZ.mk Q_BN
     have BF := AZ.mk Q_BF
     refine value_ (w1 := w') (v := .pointer (some ⟨gB, 0, none⟩)) (wanted_on rfl rfl rfl (e18.trans (by first | rfl | (simp [*]; done)))) rfl ?_ ?_
     ·go_simp
      (try simp only [i64_w])
      try rfl
     refine hK.out _ _ ⟨(by rw [ha.out]; exact putSel_upk 4 hb_ rfl rfl rfl), Q_HB, Q_BB, Q_BN, Q_BF⟩
    refine steps_cons ?_ ?_
    ·rintro b a w' ⟨ha, Q_HB, Q_BB, Q_BN, Q_BF⟩ hb_ hon hoff
     refine ⟨_, rfl, fun K hK => ?_⟩
     have e19 : a.tmps[19]? = some (.pointer (some ⟨gB, 0, none⟩)) := by rw [ha]; exact putSel_on (e := (4, 19, .pointer (some ⟨gB, 0, none⟩))) 4 rfl rfl (hon 4 (by kernel_rfl)) rfl
     have e18 : a.tmps[18]? = some (.bool false) := by rw [ha]; exact putSel_on (e := (3, 18, .bool false)) 3 rfl rfl (hon 3 (by kernel_rfl)) rfl
     replace ha := AZ.mk ha
     have HB := AZ.mk Q_HB
     have BB := AZ.mk Q_BB
     have BN := AZ.mk Q_BN
     have BF := AZ.mk Q_BF
     have hc_ : w'.cell? ⟨gB, 0, none⟩ = some (.slice A0 P.length c0) := (bc BB.out 0).trans rfl
     refine value_ (w1 := w') (v := .slice A0 P.length c0) (wanted_on rfl rfl rfl (e18.trans (by first | rfl | (simp [*]; done)))) rfl ?_ ?_
     ·go_simp
      (try simp only [i64_w])
      try rfl
     refine hK.out _ _ ⟨(by rw [ha.out]; exact putSel_upk 5 hb_ rfl rfl rfl), Q_HB, Q_BB, Q_BN, Q_BF⟩
    refine steps_cons ?_ ?_
    ·rintro b a w' ⟨ha, Q_HB, Q_BB, Q_BN, Q_BF⟩ hb_ hon hoff
     refine ⟨_, rfl, fun K hK => ?_⟩
     have e20 : a.tmps[20]? = some (.slice A0 P.length c0) := by rw [ha]; exact putSel_on (e := (5, 20, .slice A0 P.length c0)) 5 rfl rfl (hon 5 (by kernel_rfl)) rfl
     have e18 : a.tmps[18]? = some (.bool false) := by rw [ha]; exact putSel_on (e := (3, 18, .bool false)) 3 rfl rfl (hon 3 (by kernel_rfl)) rfl
     replace ha := AZ.mk ha
     have HB := AZ.mk Q_HB
     have BB := AZ.mk Q_BB
     have BN := AZ.mk Q_BN
     have BF := AZ.mk Q_BF
     refine goes_ Try.func36 (by kernel_rfl) rfl #[.slice A0 P.length c0] (wanted_on rfl rfl rfl (e18.trans (by first | rfl | (simp [*]; done)))) rfl rfl (by simp only [List.map_toArray, List.map_cons, List.map_nil, eval_of e20]) ?_
     refine (impl_size_Lint64.calls A0 c0 P (P.length : Int) _ (Kd.C_below HP.out HB.out) HC0.out rfl).mono ?_
     rintro e w_ ⟨rfl, hd⟩
     refine ⟨_, rfl, ?_⟩
     have hb := hd.below
     refine hK.out _ _ ⟨(by rw [ha.out]; exact putSel_upk 6 hb_ rfl rfl rfl), pT HB.out hb, bb_ BB.out hb, bb_ BN.out hb, bb_ BF.out hb⟩
    refine steps_cons ?_ ?_
    ·rintro b a w' ⟨ha, Q_HB, Q_BB, Q_BN, Q_BF⟩ hb_ hon hoff
     refine ⟨_, rfl, fun K hK => ?_⟩
     have e3 : a.tmps[3]? = some (.pointer (some ⟨gN, 0, none⟩)) := by rw [ha]; exact (putSel_off rfl).trans rfl
     have e18 : a.tmps[18]? = some (.bool false) := by rw [ha]; exact putSel_on (e := (3, 18, .bool false)) 3 rfl rfl (hon 3 (by kernel_rfl)) rfl
     replace ha := AZ.mk ha
     have HB := AZ.mk Q_HB
     have BB := AZ.mk Q_BB
     have BN := AZ.mk Q_BN
     have BF := AZ.mk Q_BF
     have hc_ : w'.cell? ⟨gN, 0, none⟩ = some (.int .i64 (Ac.length : Int)) := (bc BN.out 0).trans rfl
     refine value_ (w1 := w') (v := .int .i64 (Ac.length : Int)) (wanted_on rfl rfl rfl (e18.trans (by first | rfl | (simp [*]; done)))) rfl ?_ ?_
     ·go_simp
      (try simp only [i64_w])
      try rfl
     refine hK.out _ _ ⟨(by rw [ha.out]; exact putSel_upk 7 hb_ rfl rfl rfl), Q_HB, Q_BB, Q_BN, Q_BF⟩
    refine steps_cons ?_ ?_
    ·rintro b a w' ⟨ha, Q_HB, Q_BB, Q_BN, Q_BF⟩ hb_ hon hoff
     refine ⟨_, rfl, fun K hK => ?_⟩
     have e21 : a.tmps[21]? = some (.int .i64 (P.length : Int)) := by rw [ha]; exact putSel_on (e := (6, 21, .int .i64 (P.length : Int))) 6 rfl rfl (hon 6 (by kernel_rfl)) rfl
     have e22 : a.tmps[22]? = some (.int .i64 (Ac.length : Int)) := by rw [ha]; exact putSel_on (e := (7, 22, .int .i64 (Ac.length : Int))) 7 rfl rfl (hon 7 (by kernel_rfl)) rfl
     have e18 : a.tmps[18]? = some (.bool false) := by rw [ha]; exact putSel_on (e := (3, 18, .bool false)) 3 rfl rfl (hon 3 (by kernel_rfl)) rfl
     replace ha := AZ.mk ha
     have HB := AZ.mk Q_HB
     have BB := AZ.mk Q_BB
     have BN := AZ.mk Q_BN
     have BF := AZ.mk Q_BF
     refine value_ (w1 := w') (v := .bool true) (wanted_on rfl rfl rfl (e18.trans (by first | rfl | (simp [*]; done)))) rfl ?_ ?_
     ·go_simp
      (try simp only [i64_w])
      try rfl
     refine hK.out _ _ ⟨(by rw [ha.out]; exact putSel_upk 8 hb_ rfl rfl rfl), Q_HB, Q_BB, Q_BN, Q_BF⟩
    refine steps_cons ?_ ?_
    ·rintro b a w' ⟨ha, Q_HB, Q_BB, Q_BN, Q_BF⟩ hb_ hon hoff
     refine ⟨_, rfl, fun K hK => ?_⟩
     have e18 : a.tmps[18]? = some (.bool false) := by rw [ha]; exact putSel_on (e := (3, 18, .bool false)) 3 rfl rfl (hon 3 (by kernel_rfl)) rfl
     have e23 : a.tmps[23]? = some (.bool true) := by rw [ha]; exact putSel_on (e := (8, 23, .bool true)) 8 rfl rfl (hon 8 (by kernel_rfl)) rfl
     replace ha := AZ.mk ha
     have HB := AZ.mk Q_HB
     have BB := AZ.mk Q_BB
     have BN := AZ.mk Q_BN
     have BF := AZ.mk Q_BF
     refine value_ (w1 := w') (v := .bool true) (by rfl) rfl ?_ ?_
     ·go_simp
      (try simp only [i64_w])
      try rfl
     refine hK.out _ _ ⟨(by rw [ha.out]; exact putSel_upk 9 hb_ rfl rfl rfl), Q_HB, Q_BB, Q_BN, Q_BF⟩
    refine steps_cons ?_ ?_
    ·rintro b a w' ⟨ha, Q_HB, Q_BB, Q_BN, Q_BF⟩ hb_ hon hoff
     refine ⟨_, rfl, fun K hK => ?_⟩
     have e24 : a.tmps[24]? = some (.bool true) := by rw [ha]; exact putSel_on (e := (9, 24, .bool true)) 9 rfl rfl (hon 9 (by kernel_rfl)) rfl
     replace ha := AZ.mk ha
     have HB := AZ.mk Q_HB
     have BB := AZ.mk Q_BB
     have BN := AZ.mk Q_BN
     have BF := AZ.mk Q_BF
     refine value_ (w1 := w') (v := .bool true) (by rfl) rfl ?_ ?_
     ·go_simp
      (try simp only [i64_w])
      try rfl
     refine hK.out _ _ ⟨(by rw [ha.out]; exact putSel_upk 10 hb_ rfl rfl rfl), Q_HB, Q_BB, Q_BN, Q_BF⟩
    refine steps_cons ?_ ?_
    ·rintro b a w' ⟨ha, Q_HB, Q_BB, Q_BN, Q_BF⟩ hb_ hon hoff
     refine ⟨_, rfl, fun K hK => ?_⟩
     have e25 : a.tmps[25]? = some (.bool true) := by rw [ha]; exact putSel_on (e := (10, 25, .bool true)) 10 rfl rfl (hon 10 (by kernel_rfl)) rfl
     replace ha := AZ.mk ha
     have HB := AZ.mk Q_HB
     have BB := AZ.mk Q_BB
     have BN := AZ.mk Q_BN
     have BF := AZ.mk Q_BF
     refine off_ (wanted_off rfl rfl rfl (e25.trans (by first | rfl | (simp [*]; done)))) ?_
     refine hK.out _ _ ⟨(by rw [ha.out]; exact putSel_upk 11 hb_ rfl rfl rfl), Q_HB, Q_BB, Q_BN, Q_BF⟩
    refine steps_cons ?_ ?_
    ·rintro b a w' ⟨ha, Q_HB, Q_BB, Q_BN, Q_BF⟩ hb_ hon hoff
     refine ⟨_, rfl, fun K hK => ?_⟩
     have e25 : a.tmps[25]? = some (.bool true) := by rw [ha]; exact putSel_on (e := (10, 25, .bool true)) 10 rfl rfl (hon 10 (by kernel_rfl)) rfl
     replace ha := AZ.mk ha
     have HB := AZ.mk Q_HB
     have BB := AZ.mk Q_BB
     have BN := AZ.mk Q_BN
     have BF := AZ.mk Q_BF
     refine off_ (wanted_off rfl rfl rfl (e25.trans (by first | rfl | (simp [*]; done)))) ?_
     refine hK.out _ _ ⟨(by rw [ha.out]; exact putSel_upk 12 hb_ rfl rfl rfl), Q_HB, Q_BB, Q_BN, Q_BF⟩
    refine steps_cons ?_ ?_
    ·rintro b a w' ⟨ha, Q_HB, Q_BB, Q_BN, Q_BF⟩ hb_ hon hoff
     refine ⟨_, rfl, fun K hK => ?_⟩
     have e25 : a.tmps[25]? = some (.bool true) := by rw [ha]; exact putSel_on (e := (10, 25, .bool true)) 10 rfl rfl (hon 10 (by kernel_rfl)) rfl
     replace ha := AZ.mk ha
     have HB := AZ.mk Q_HB
     have BB := AZ.mk Q_BB
     have BN := AZ.mk Q_BN
     have BF := AZ.mk Q_BF
     refine off_ (wanted_off rfl rfl rfl (e25.trans (by first | rfl | (simp [*]; done)))) ?_
     refine hK.out _ _ ⟨(by rw [ha.out]; exact putSel_upk 13 hb_ rfl rfl rfl), Q_HB, Q_BB, Q_BN, Q_BF⟩
    refine steps_cons ?_ ?_
    ·rintro b a w' ⟨ha, Q_HB, Q_BB, Q_BN, Q_BF⟩ hb_ hon hoff
     refine ⟨_, rfl, fun K hK => ?_⟩
     have e25 : a.tmps[25]? = some (.bool true) := by rw [ha]; exact putSel_on (e := (10, 25, .bool true)) 10 rfl rfl (hon 10 (by kernel_rfl)) rfl
     replace ha := AZ.mk ha
     have HB := AZ.mk Q_HB
     have BB := AZ.mk Q_BB
     have BN := AZ.mk Q_BN
     have BF := AZ.mk Q_BF
     refine off_ (wanted_off rfl rfl rfl (e25.trans (by first | rfl | (simp [*]; done)))) ?_
     refine hK.out _ _ ⟨(by rw [ha.out]; exact putSel_upk 14 hb_ rfl rfl rfl), Q_HB, Q_BB, Q_BN, Q_BF⟩
    refine steps_cons ?_ ?_
    ·rintro b a w' ⟨ha, Q_HB, Q_BB, Q_BN, Q_BF⟩ hb_ hon hoff
     refine ⟨_, rfl, fun K hK => ?_⟩
     have e25 : a.tmps[25]? = some (.bool true) := by rw [ha]; exact putSel_on (e := (10, 25, .bool true)) 10 rfl rfl (hon 10 (by kernel_rfl)) rfl
     have e29 : a.tmps[29]? = some (undef) := by rw [ha]; exact putSel_on (e := (14, 29, undef)) 14 rfl rfl (hon 14 (by kernel_rfl)) rfl
     replace ha := AZ.mk ha
     have HB := AZ.mk Q_HB
     have BB := AZ.mk Q_BB
     have BN := AZ.mk Q_BN
     have BF := AZ.mk Q_BF
     refine value_ (w1 := w') (v := .bool true) (by rfl) rfl ?_ ?_
     ·go_simp
      (try simp only [i64_w])
      try rfl
     refine hK.out _ _ ⟨(by rw [ha.out]; exact putSel_upk 15 hb_ rfl rfl rfl), Q_HB, Q_BB, Q_BN, Q_BF⟩
    refine steps_cons ?_ ?_
    ·rintro b a w' ⟨ha, Q_HB, Q_BB, Q_BN, Q_BF⟩ hb_ hon hoff
     refine ⟨_, rfl, fun K hK => ?_⟩
     have e30 : a.tmps[30]? = some (.bool true) := by rw [ha]; exact putSel_on (e := (15, 30, .bool true)) 15 rfl rfl (hon 15 (by kernel_rfl)) rfl
     replace ha := AZ.mk ha
     have HB := AZ.mk Q_HB
     have BB := AZ.mk Q_BB
     have BN := AZ.mk Q_BN
     have BF := AZ.mk Q_BF
     refine value_ (w1 := w') (v := .bool true) (by rfl) rfl ?_ ?_
     ·go_simp
      (try simp only [i64_w])
      try rfl
     refine hK.out _ _ ⟨(by rw [ha.out]; exact putSel_upk 16 hb_ rfl rfl rfl), Q_HB, Q_BB, Q_BN, Q_BF⟩
    refine steps_cons ?_ ?_
    ·rintro b a w' ⟨ha, Q_HB, Q_BB, Q_BN, Q_BF⟩ hb_ hon hoff
     refine ⟨_, rfl, fun K hK => ?_⟩
     have e31 : a.tmps[31]? = some (.bool true) := by rw [ha]; exact putSel_on (e := (16, 31, .bool true)) 16 rfl rfl (hon 16 (by kernel_rfl)) rfl
     replace ha := AZ.mk ha
     have HB := AZ.mk Q_HB
     have BB := AZ.mk Q_BB
     have BN := AZ.mk Q_BN
     have BF := AZ.mk Q_BF
     refine off_ (wanted_off rfl rfl rfl (e31.trans (by first | rfl | (simp [*]; done)))) ?_
     refine hK.out _ _ ⟨(by rw [ha.out]; exact putSel_upk 17 hb_ rfl rfl rfl), Q_HB, Q_BB, Q_BN, Q_BF⟩
    refine steps_cons ?_ ?_
    ·rintro b a w' ⟨ha, Q_HB, Q_BB, Q_BN, Q_BF⟩ hb_ hon hoff
     refine ⟨_, rfl, fun K hK => ?_⟩
     have e31 : a.tmps[31]? = some (.bool true) := by rw [ha]; exact putSel_on (e := (16, 31, .bool true)) 16 rfl rfl (hon 16 (by kernel_rfl)) rfl
     replace ha := AZ.mk ha
     have HB := AZ.mk Q_HB
     have BB := AZ.mk Q_BB
     have BN := AZ.mk Q_BN
     have BF := AZ.mk Q_BF
     refine off_ (wanted_off rfl rfl rfl (e31.trans (by first | rfl | (simp [*]; done)))) ?_
     refine hK.out _ _ ⟨(by rw [ha.out]; exact putSel_upk 18 hb_ rfl rfl rfl), Q_HB, Q_BB, Q_BN, Q_BF⟩
    refine steps_cons ?_ ?_
    ·rintro b a w' ⟨ha, Q_HB, Q_BB, Q_BN, Q_BF⟩ hb_ hon hoff
     refine ⟨_, rfl, fun K hK => ?_⟩
     have e31 : a.tmps[31]? = some (.bool true) := by rw [ha]; exact putSel_on (e := (16, 31, .bool true)) 16 rfl rfl (hon 16 (by kernel_rfl)) rfl
     replace ha := AZ.mk ha
     have HB := AZ.mk Q_HB
     have BB := AZ.mk Q_BB
     have BN := AZ.mk Q_BN
     have BF := AZ.mk Q_BF
     refine off_ (wanted_off rfl rfl rfl (e31.trans (by first | rfl | (simp [*]; done)))) ?_
     refine hK.out _ _ ⟨(by rw [ha.out]; exact putSel_upk 19 hb_ rfl rfl rfl), Q_HB, Q_BB, Q_BN, Q_BF⟩
    refine steps_cons ?_ ?_
    ·rintro b a w' ⟨ha, Q_HB, Q_BB, Q_BN, Q_BF⟩ hb_ hon hoff
     refine ⟨_, rfl, fun K hK => ?_⟩
     have e31 : a.tmps[31]? = some (.bool true) := by rw [ha]; exact putSel_on (e := (16, 31, .bool true)) 16 rfl rfl (hon 16 (by kernel_rfl)) rfl
     replace ha := AZ.mk ha
     have HB := AZ.mk Q_HB
     have BB := AZ.mk Q_BB
     have BN := AZ.mk Q_BN
     have BF := AZ.mk Q_BF
     refine off_ (wanted_off rfl rfl rfl (e31.trans (by first | rfl | (simp [*]; done)))) ?_
     refine hK.out _ _ ⟨(by rw [ha.out]; exact putSel_upk 20 hb_ rfl rfl rfl), Q_HB, Q_BB, Q_BN, Q_BF⟩
    refine steps_cons ?_ ?_
    ·rintro b a w' ⟨ha, Q_HB, Q_BB, Q_BN, Q_BF⟩ hb_ hon hoff
     refine ⟨_, rfl, fun K hK => ?_⟩
     have e31 : a.tmps[31]? = some (.bool true) := by rw [ha]; exact putSel_on (e := (16, 31, .bool true)) 16 rfl rfl (hon 16 (by kernel_rfl)) rfl
     replace ha := AZ.mk ha
     have HB := AZ.mk Q_HB
     have BB := AZ.mk Q_BB
     have BN := AZ.mk Q_BN
     have BF := AZ.mk Q_BF
     refine off_ (wanted_off rfl rfl rfl (e31.trans (by first | rfl | (simp [*]; done)))) ?_
     refine hK.out _ _ ⟨(by rw [ha.out]; exact putSel_upk 21 hb_ rfl rfl rfl), Q_HB, Q_BB, Q_BN, Q_BF⟩
    refine steps_cons ?_ ?_
    ·rintro b a w' ⟨ha, Q_HB, Q_BB, Q_BN, Q_BF⟩ hb_ hon hoff
     refine ⟨_, rfl, fun K hK => ?_⟩
     have e31 : a.tmps[31]? = some (.bool true) := by rw [ha]; exact putSel_on (e := (16, 31, .bool true)) 16 rfl rfl (hon 16 (by kernel_rfl)) rfl
     have e36 : a.tmps[36]? = some (undef) := by rw [ha]; exact putSel_on (e := (21, 36, undef)) 21 rfl rfl (hon 21 (by kernel_rfl)) rfl
     replace ha := AZ.mk ha
     have HB := AZ.mk Q_HB
     have BB := AZ.mk Q_BB
     have BN := AZ.mk Q_BN
     have BF := AZ.mk Q_BF
     refine value_ (w1 := w') (v := .bool true) (by rfl) rfl ?_ ?_
     ·go_simp
      (try simp only [i64_w])
      try rfl
     refine hK.out _ _ ⟨(by rw [ha.out]; exact putSel_upk 22 hb_ rfl rfl rfl), Q_HB, Q_BB, Q_BN, Q_BF⟩
    exact steps_nil
   ·rintro b a w' hall ⟨ha, Q_HB, Q_BB, Q_BN, Q_BF⟩
    clear BB BF BN HB
    have hb0_ := hall 0 (by kernel_rfl)
    have hb1_ := hall 1 (by kernel_rfl)
    have hb2_ := hall 2 (by kernel_rfl)
    have hb3_ := hall 3 (by kernel_rfl)
    have hb4_ := hall 4 (by kernel_rfl)
    have hb5_ := hall 5 (by kernel_rfl)
    have hb6_ := hall 6 (by kernel_rfl)
    have hb7_ := hall 7 (by kernel_rfl)
    have hb8_ := hall 8 (by kernel_rfl)
    have hb9_ := hall 9 (by kernel_rfl)
    have hb10_ := hall 10 (by kernel_rfl)
    have hb11_ := hall 11 (by kernel_rfl)
    have hb12_ := hall 12 (by kernel_rfl)
    have hb13_ := hall 13 (by kernel_rfl)
    have hb14_ := hall 14 (by kernel_rfl)
    have hb15_ := hall 15 (by kernel_rfl)
    have hb16_ := hall 16 (by kernel_rfl)
    have hb17_ := hall 17 (by kernel_rfl)
    have hb18_ := hall 18 (by kernel_rfl)
    have hb19_ := hall 19 (by kernel_rfl)
    have hb20_ := hall 20 (by kernel_rfl)
    have hb21_ := hall 21 (by kernel_rfl)
    have hb22_ := hall 22 (by kernel_rfl)
    subst ha
    simp only [putSel, hb0_, hb1_, hb2_, hb3_, hb4_, hb5_, hb6_, hb7_, hb8_, hb9_, hb10_, hb11_, hb12_, hb13_, hb14_, hb15_, hb16_, hb17_, hb18_, hb19_, hb20_, hb21_, hb22_, if_true, Act.put, sA, sB, sC]
    have HB := AZ.mk Q_HB
    clear Q_HB
    have BB := AZ.mk Q_BB
    clear Q_BB
    have BN := AZ.mk Q_BN
    clear Q_BN
    have BF := AZ.mk Q_BF
    clear Q_BF
    clear hall hb0_ hb1_ hb2_ hb3_ hb4_ hb5_ hb6_ hb7_ hb8_ hb9_ hb10_ hb11_ hb12_ hb13_ hb14_ hb15_ hb16_ hb17_ hb18_ hb19_ hb20_ hb21_ hb22_
    clear k2
    go_wp2
    go_ret
    exact ⟨congrArg (fun b => Ending.returned (Value.bool b)) (ok_no (fun h => H2.out h.2.1)).symm, HB.out⟩
 ·have H1 := AZ.mk (wt_false Ac.length h1)
  have HN1 := AZ.mk h1
  clear h1
  refine start_ (n := 23) (S := fun w' => True) (ds := []) (bz 23 0) (by kernel_rfl) rfl rfl trivial (fun hHeld => ?_)
  refine with_tabW valg.tab4 valg.bits4 (fun HT_ HW_ => ?_)
  have n0_ := AZ.mk (pD HB.out)
  have n1_ := AZ.mk (bd_ BB.out)
  have n2_ := AZ.mk (bd_ BN.out)
  have n3_ := AZ.mk (bd_ BF.out)
  clear HB BB BN BF
  have HB := n0_
  have BB := n1_
  have BN := n2_
  have BF := n3_
  clear n0_ n1_ n2_ n3_
  generalize World.drew _ = wD at HB BB BN BF hHeld ⊢
  refine inv_at [0, 1, 2, 3, 4, 5, 6, 7, 8, 9, 10, 11, 12, 13, 14, 15, 16, 17, 18, 19, 20, 21, 22] (fun a0_ b a w' => a = putSel a0_ b [(0, 15, .int .i64 (Ac.length : Int)), (1, 16, .bool false), (2, 17, .bool true), (3, 18, .bool true), (4, 19, undef), (5, 20, undef), (6, 21, undef), (7, 22, undef), (8, 23, undef), (9, 24, .bool true), (10, 25, .bool true), (11, 26, undef), (12, 27, undef), (13, 28, undef), (14, 29, undef), (15, 30, .bool true), (16, 31, .bool true), (17, 32, undef), (18, 33, undef), (19, 34, undef), (20, 35, undef), (21, 36, undef), (22, 37, .bool true)] ∧ (Below w.heap.size w w') ∧ (w'.heap[gB]? = some (.cells #[.slice A0 P.length c0, .slice A1 Wr.length c1, .slice A2 In.length c2, .slice A3 Ac.length c3] 29 (0, 0))) ∧ (w'.heap[gN]? = some (.cells #[.int .i64 (Ac.length : Int)] 2 (0, 0))) ∧ (w'.heap[gF]? = some (.cells #[.func (.func 30) #[] #[.pointer (some ⟨gN, 0, none⟩)]] 55 (0, 0)))) HT_.out HW_.out (by kernel_rfl) (by kernel_rfl) ?_ ?_ ?_
  ·exact ⟨by simp only [putSel, Bool.false_eq_true, if_false], HB.out, BB.out, BN.out, BF.out⟩
  ·skip
   clear BB BF BN HB
   refine steps_cons ?_ ?_
   ·rintro b a w' ⟨ha, Q_HB, Q_BB, Q_BN, Q_BF⟩ hb_ hon hoff
    refine ⟨_, rfl, fun K hK => ?_⟩
    have e3 : a.tmps[3]? = some (.pointer (some ⟨gN, 0, none⟩)) := by rw [ha]; exact (putSel_off rfl).trans rfl
    replace ha := AZ.mk ha
    have HB := AZ.mk Q_HB
    have BB := AZ.mk Q_BB
    have BN := AZ.mk Q_BN
    have BF := AZ.mk Q_BF
    have hc_ : w'.cell? ⟨gN, 0, none⟩ = some (.int .i64 (Ac.length : Int)) := (bc BN.out 0).trans rfl
    refine value_ (w1 := w') (v := .int .i64 (Ac.length : Int)) (by rfl) rfl ?_ ?_
    ·go_simp
     (try simp only [i64_w])
     try rfl
    refine hK.out _ _ ⟨(by rw [ha.out]; exact putSel_upk 0 hb_ rfl rfl rfl), Q_HB, Q_BB, Q_BN, Q_BF⟩
   refine steps_cons ?_ ?_
   ·rintro b a w' ⟨ha, Q_HB, Q_BB, Q_BN, Q_BF⟩ hb_ hon hoff
    refine ⟨_, rfl, fun K hK => ?_⟩
    have e15 : a.tmps[15]? = some (.int .i64 (Ac.length : Int)) := by rw [ha]; exact putSel_on (e := (0, 15, .int .i64 (Ac.length : Int))) 0 rfl rfl (hon 0 (by kernel_rfl)) rfl
    replace ha := AZ.mk ha
    have HB := AZ.mk Q_HB
    have BB := AZ.mk Q_BB
    have BN := AZ.mk Q_BN
    have BF := AZ.mk Q_BF
    refine goes_ Try.func34 (by kernel_rfl) rfl #[.int .i64 (Ac.length : Int), .int .i64 1, .int .i64 40] (by rfl) rfl rfl (by simp only [List.map_toArray, List.map_cons, List.map_nil, eval_of e15]; rfl) ?_
    refine (impl_within.calls (Ac.length : Int) 1 40 false _ H1.out).mono ?_
    rintro e w_ ⟨rfl, hd⟩
    refine ⟨_, rfl, ?_⟩
    have hb := hd.below
    refine hK.out _ _ ⟨(by rw [ha.out]; exact putSel_upk 1 hb_ rfl rfl rfl), pT HB.out hb, bb_ BB.out hb, bb_ BN.out hb, bb_ BF.out hb⟩
   refine steps_cons ?_ ?_
   ·rintro b a w' ⟨ha, Q_HB, Q_BB, Q_BN, Q_BF⟩ hb_ hon hoff
    refine ⟨_, rfl, fun K hK => ?_⟩
    have e16 : a.tmps[16]? = some (.bool false) := by rw [ha]; exact putSel_on (e := (1, 16, .bool false)) 1 rfl rfl (hon 1 (by kernel_rfl)) rfl
    replace ha := AZ.mk ha
    have HB := AZ.mk Q_HB
    have BB := AZ.mk Q_BB
    have BN := AZ.mk Q_BN
    have BF := AZ.mk Q_BF
    refine value_ (w1 := w') (v := .bool true) (by rfl) rfl ?_ ?_
    ·go_simp
     (try simp only [i64_w])
     try rfl
    refine hK.out _ _ ⟨(by rw [ha.out]; exact putSel_upk 2 hb_ rfl rfl rfl), Q_HB, Q_BB, Q_BN, Q_BF⟩
   refine steps_cons ?_ ?_
   ·rintro b a w' ⟨ha, Q_HB, Q_BB, Q_BN, Q_BF⟩ hb_ hon hoff
    refine ⟨_, rfl, fun K hK => ?_⟩
    have e17 : a.tmps[17]? = some (.bool true) := by rw [ha]; exact putSel_on (e := (2, 17, .bool true)) 2 rfl rfl (hon 2 (by kernel_rfl)) rfl
    replace ha := AZ.mk ha
    have HB := AZ.mk Q_HB
    have BB := AZ.mk Q_BB
    have BN := AZ.mk Q_BN
    have BF := AZ.mk Q_BF
    refine value_ (w1 := w') (v := .bool true) (by rfl) rfl ?_ ?_
    ·go_simp
     (try simp only [i64_w])
     try rfl
    refine hK.out _ _ ⟨(by rw [ha.out]; exact putSel_upk 3 hb_ rfl rfl rfl), Q_HB, Q_BB, Q_BN, Q_BF⟩
   refine steps_cons ?_ ?_
   ·rintro b a w' ⟨ha, Q_HB, Q_BB, Q_BN, Q_BF⟩ hb_ hon hoff
    refine ⟨_, rfl, fun K hK => ?_⟩
    have e18 : a.tmps[18]? = some (.bool true) := by rw [ha]; exact putSel_on (e := (3, 18, .bool true)) 3 rfl rfl (hon 3 (by kernel_rfl)) rfl
    replace ha := AZ.mk ha
    have HB := AZ.mk Q_HB
    have BB := AZ.mk Q_BB
    have BN := AZ.mk Q_BN
    have BF := AZ.mk Q_BF
    refine off_ (wanted_off rfl rfl rfl (e18.trans (by first | rfl | (simp [*]; done)))) ?_
    refine hK.out _ _ ⟨(by rw [ha.out]; exact putSel_upk 4 hb_ rfl rfl rfl), Q_HB, Q_BB, Q_BN, Q_BF⟩
   refine steps_cons ?_ ?_
   ·rintro b a w' ⟨ha, Q_HB, Q_BB, Q_BN, Q_BF⟩ hb_ hon hoff
    refine ⟨_, rfl, fun K hK => ?_⟩
    have e18 : a.tmps[18]? = some (.bool true) := by rw [ha]; exact putSel_on (e := (3, 18, .bool true)) 3 rfl rfl (hon 3 (by kernel_rfl)) rfl
    replace ha := AZ.mk ha
    have HB := AZ.mk Q_HB
    have BB := AZ.mk Q_BB
    have BN := AZ.mk Q_BN
    have BF := AZ.mk Q_BF
    refine off_ (wanted_off rfl rfl rfl (e18.trans (by first | rfl | (simp [*]; done)))) ?_
    refine hK.out _ _ ⟨(by rw [ha.out]; exact putSel_upk 5 hb_ rfl rfl rfl), Q_HB, Q_BB, Q_BN, Q_BF⟩
   refine steps_cons ?_ ?_
   ·rintro b a w' ⟨ha, Q_HB, Q_BB, Q_BN, Q_BF⟩ hb_ hon hoff
    refine ⟨_, rfl, fun K hK => ?_⟩
    have e18 : a.tmps[18]? = some (.bool true) := by rw [ha]; exact putSel_on (e := (3, 18, .bool true)) 3 rfl rfl (hon 3 (by kernel_rfl)) rfl
    replace ha := AZ.mk ha
    have HB := AZ.mk Q_HB
    have BB := AZ.mk Q_BB
    have BN := AZ.mk Q_BN
    have BF := AZ.mk Q_BF
    refine off_ (wanted_off rfl rfl rfl (e18.trans (by first | rfl | (simp [*]; done)))) ?_
    refine hK.out _ _ ⟨(by rw [ha.out]; exact putSel_upk 6 hb_ rfl rfl rfl), Q_HB, Q_BB, Q_BN, Q_BF⟩
   refine steps_cons ?_ ?_
   ·rintro b a w' ⟨ha, Q_HB, Q_BB, Q_BN, Q_BF⟩ hb_ hon hoff
    refine ⟨_, rfl, fun K hK => ?_⟩
    have e18 : a.tmps[18]? = some (.bool true) := by rw [ha]; exact putSel_on (e := (3, 18, .bool true)) 3 rfl rfl (hon 3 (by kernel_rfl)) rfl
    replace ha := AZ.mk ha
    have HB := AZ.mk Q_HB
    have BB := AZ.mk Q_BB
    have BN := AZ.mk Q_BN
    have BF := AZ.mk Q_BF
    refine off_ (wanted_off rfl rfl rfl (e18.trans (by first | rfl | (simp [*]; done)))) ?_
    refine hK.out _ _ ⟨(by rw [ha.out]; exact putSel_upk 7 hb_ rfl rfl rfl), Q_HB, Q_BB, Q_BN, Q_BF⟩
   refine steps_cons ?_ ?_
   ·rintro b a w' ⟨ha, Q_HB, Q_BB, Q_BN, Q_BF⟩ hb_ hon hoff
    refine ⟨_, rfl, fun K hK => ?_⟩
    have e18 : a.tmps[18]? = some (.bool true) := by rw [ha]; exact putSel_on (e := (3, 18, .bool true)) 3 rfl rfl (hon 3 (by kernel_rfl)) rfl
    replace ha := AZ.mk ha
    have HB := AZ.mk Q_HB
    have BB := AZ.mk Q_BB
    have BN := AZ.mk Q_BN
    have BF := AZ.mk Q_BF
    refine off_ (wanted_off rfl rfl rfl (e18.trans (by first | rfl | (simp [*]; done)))) ?_
    refine hK.out _ _ ⟨(by rw [ha.out]; exact putSel_upk 8 hb_ rfl rfl rfl), Q_HB, Q_BB, Q_BN, Q_BF⟩
   refine steps_cons ?_ ?_
   ·rintro b a w' ⟨ha, Q_HB, Q_BB, Q_BN, Q_BF⟩ hb_ hon hoff
    refine ⟨_, rfl, fun K hK => ?_⟩
    have e18 : a.tmps[18]? = some (.bool true) := by rw [ha]; exact putSel_on (e := (3, 18, .bool true)) 3 rfl rfl (hon 3 (by kernel_rfl)) rfl
    have e23 : a.tmps[23]? = some (undef) := by rw [ha]; exact putSel_on (e := (8, 23, undef)) 8 rfl rfl (hon 8 (by kernel_rfl)) rfl
    replace ha := AZ.mk ha
    have HB := AZ.mk Q_HB
    have BB := AZ.mk Q_BB
    have BN := AZ.mk Q_BN
    have BF := AZ.mk Q_BF
    refine value_ (w1 := w') (v := .bool true) (by rfl) rfl ?_ ?_
    ·go_simp
     (try simp only [i64_w])
     try rfl
    refine hK.out _ _ ⟨(by rw [ha.out]; exact putSel_upk 9 hb_ rfl rfl rfl), Q_HB, Q_BB, Q_BN, Q_BF⟩
   refine steps_cons ?_ ?_
   ·rintro b a w' ⟨ha, Q_HB, Q_BB, Q_BN, Q_BF⟩ hb_ hon hoff
    refine ⟨_, rfl, fun K hK => ?_⟩
    have e24 : a.tmps[24]? = some (.bool true) := by rw [ha]; exact putSel_on (e := (9, 24, .bool true)) 9 rfl rfl (hon 9 (by kernel_rfl)) rfl
    replace ha := AZ.mk ha
    have HB := AZ.mk Q_HB
    have BB := AZ.mk Q_BB
    have BN := AZ.mk Q_BN
    have BF := AZ.mk Q_BF
    refine value_ (w1 := w') (v := .bool true) (by rfl) rfl ?_ ?_
    ·go_simp
     (try simp only [i64_w])
     try rfl
    refine hK.out _ _ ⟨(by rw [ha.out]; exact putSel_upk 10 hb_ rfl rfl rfl), Q_HB, Q_BB, Q_BN, Q_BF⟩
   refine steps_cons ?_ ?_
   ·rintro b a w' ⟨ha, Q_HB, Q_BB, Q_BN, Q_BF⟩ hb_ hon hoff
    refine ⟨_, rfl, fun K hK => ?_⟩
    have e25 : a.tmps[25]? = some (.bool true) := by rw [ha]; exact putSel_on (e := (10, 25, .bool true)) 10 rfl rfl (hon 10 (by kernel_rfl)) rfl
    replace ha := AZ.mk ha
    have HB := AZ.mk Q_HB
    have BB := AZ.mk Q_BB
    have BN := AZ.mk Q_BN
    have BF := AZ.mk Q_BF
    refine off_ (wanted_off rfl rfl rfl (e25.trans (by first | rfl | (simp [*]; done)))) ?_
    refine hK.out _ _ ⟨(by rw [ha.out]; exact putSel_upk 11 hb_ rfl rfl rfl), Q_HB, Q_BB, Q_BN, Q_BF⟩
   refine steps_cons ?_ ?_
   ·rintro b a w' ⟨ha, Q_HB, Q_BB, Q_BN, Q_BF⟩ hb_ hon hoff
    refine ⟨_, rfl, fun K hK => ?_⟩
    have e25 : a.tmps[25]? = some (.bool true) := by rw [ha]; exact putSel_on (e := (10, 25, .bool true)) 10 rfl rfl (hon 10 (by kernel_rfl)) rfl
    replace ha := AZ.mk ha
    have HB := AZ.mk Q_HB
    have BB := AZ.mk Q_BB
    have BN := AZ.mk Q_BN
    have BF := AZ.mk Q_BF
    refine off_ (wanted_off rfl rfl rfl (e25.trans (by first | rfl | (simp [*]; done)))) ?_
    refine hK.out _ _ ⟨(by rw [ha.out]; exact putSel_upk 12 hb_ rfl rfl rfl), Q_HB, Q_BB, Q_BN, Q_BF⟩
   refine steps_cons ?_ ?_
   ·rintro b a w' ⟨ha, Q_HB, Q_BB, Q_BN, Q_BF⟩ hb_ hon hoff
    refine ⟨_, rfl, fun K hK => ?_⟩
    have e25 : a.tmps[25]? = some (.bool true) := by rw [ha]; exact putSel_on (e := (10, 25, .bool true)) 10 rfl rfl (hon 10 (by kernel_rfl)) rfl
    replace ha := AZ.mk ha
    have HB := AZ.mk Q_HB
    have BB := AZ.mk Q_BB
    have BN := AZ.mk Q_BN
    have BF := AZ.mk Q_BF
    refine off_ (wanted_off rfl rfl rfl (e25.trans (by first | rfl | (simp [*]; done)))) ?_
    refine hK.out _ _ ⟨(by rw [ha.out]; exact putSel_upk 13 hb_ rfl rfl rfl), Q_HB, Q_BB, Q_BN, Q_BF⟩
   refine steps_cons ?_ ?_
   ·rintro b a w' ⟨ha, Q_HB, Q_BB, Q_BN, Q_BF⟩ hb_ hon hoff
    refine ⟨_, rfl, fun K hK => ?_⟩
    have e25 : a.tmps[25]? = some (.bool true) := by rw [ha]; exact putSel_on (e := (10, 25, .bool true)) 10 rfl rfl (hon 10 (by kernel_rfl)) rfl
    replace ha := AZ.mk ha
    have HB := AZ.mk Q_HB
    have BB := AZ.mk Q_BB
    have BN := AZ.mk Q_BN
    have BF := AZ.mk Q_BF
    refine off_ (wanted_off rfl rfl rfl (e25.trans (by first | rfl | (simp [*]; done)))) ?_
    refine hK.out _ _ ⟨(by rw [ha.out]; exact putSel_upk 14 hb_ rfl rfl rfl), Q_HB, Q_BB, Q_BN, Q_BF⟩
   refine steps_cons ?_ ?_
   ·rintro b a w' ⟨ha, Q_HB, Q_BB, Q_BN, Q_BF⟩ hb_ hon hoff
    refine ⟨_, rfl, fun K hK => ?_⟩
    have e25 : a.tmps[25]? = some (.bool true) := by rw [ha]; exact putSel_on (e := (10, 25, .bool true)) 10 rfl rfl (hon 10 (by kernel_rfl)) rfl
    have e29 : a.tmps[29]? = some (undef) := by rw [ha]; exact putSel_on (e := (14, 29, undef)) 14 rfl rfl (hon 14 (by kernel_rfl)) rfl
    replace ha := AZ.mk ha
    have HB := AZ.mk Q_HB
    have BB := AZ.mk Q_BB
    have BN := AZ.mk Q_BN
    have BF := AZ.mk Q_BF
    refine value_ (w1 := w') (v := .bool true) (by rfl) rfl ?_ ?_
    ·go_simp
     (try simp only [i64_w])
     try rfl
    refine hK.out _ _ ⟨(by rw [ha.out]; exact putSel_upk 15 hb_ rfl rfl rfl), Q_HB, Q_BB, Q_BN, Q_BF⟩
   refine steps_cons ?_ ?_
   ·rintro b a w' ⟨ha, Q_HB, Q_BB, Q_BN, Q_BF⟩ hb_ hon hoff
    refine ⟨_, rfl, fun K hK => ?_⟩
    have e30 : a.tmps[30]? = some (.bool true) := by rw [ha]; exact putSel_on (e := (15, 30, .bool true)) 15 rfl rfl (hon 15 (by kernel_rfl)) rfl
    replace ha := AZ.mk ha
    have HB := AZ.mk Q_HB
    have BB := AZ.mk Q_BB
    have BN := AZ.mk Q_BN
    have BF := AZ.mk Q_BF
    refine value_ (w1 := w') (v := .bool true) (by rfl) rfl ?_ ?_
    ·go_simp
     (try simp only [i64_w])
     try rfl
    refine hK.out _ _ ⟨(by rw [ha.out]; exact putSel_upk 16 hb_ rfl rfl rfl), Q_HB, Q_BB, Q_BN, Q_BF⟩
   refine steps_cons ?_ ?_
   ·rintro b a w' ⟨ha, Q_HB, Q_BB, Q_BN, Q_BF⟩ hb_ hon hoff
    refine ⟨_, rfl, fun K hK => ?_⟩
    have e31 : a.tmps[31]? = some (.bool true) := by rw [ha]; exact putSel_on (e := (16, 31, .bool true)) 16 rfl rfl (hon 16 (by kernel_rfl)) rfl
    replace ha := AZ.mk ha
    have HB := AZ.mk Q_HB
    have BB := AZ.mk Q_BB
    have BN := AZ.mk Q_BN
    have BF := AZ.mk Q_BF
    refine off_ (wanted_off rfl rfl rfl (e31.trans (by first | rfl | (simp [*]; done)))) ?_
    refine hK.out _ _ ⟨(by rw [ha.out]; exact putSel_upk 17 hb_ rfl rfl rfl), Q_HB, Q_BB, Q_BN, Q_BF⟩
   refine steps_cons ?_ ?_
   ·rintro b a w' ⟨ha, Q_HB, Q_BB, Q_BN, Q_BF⟩ hb_ hon hoff
    refine ⟨_, rfl, fun K hK => ?_⟩
    have e31 : a.tmps[31]? = some (.bool true) := by rw [ha]; exact putSel_on (e := (16, 31, .bool true)) 16 rfl rfl (hon 16 (by kernel_rfl)) rfl
    replace ha := AZ.mk ha
    have HB := AZ.mk Q_HB
    have BB := AZ.mk Q_BB
    have BN := AZ.mk Q_BN
    have BF := AZ.mk Q_BF
    refine off_ (wanted_off rfl rfl rfl (e31.trans (by first | rfl | (simp [*]; done)))) ?_
    refine hK.out _ _ ⟨(by rw [ha.out]; exact putSel_upk 18 hb_ rfl rfl rfl), Q_HB, Q_BB, Q_BN, Q_BF⟩
   refine steps_cons ?_ ?_
   ·rintro b a w' ⟨ha, Q_HB, Q_BB, Q_BN, Q_BF⟩ hb_ hon hoff
    refine ⟨_, rfl, fun K hK => ?_⟩
    have e31 : a.tmps[31]? = some (.bool true) := by rw [ha]; exact putSel_on (e := (16, 31, .bool true)) 16 rfl rfl (hon 16 (by kernel_rfl)) rfl
    replace ha := AZ.mk ha
    have HB := AZ.mk Q_HB
    have BB := AZ.mk Q_BB
    have BN := AZ.mk Q_BN
    have BF := AZ.mk Q_BF
    refine off_ (wanted_off rfl rfl rfl (e31.trans (by first | rfl | (simp [*]; done)))) ?_
    refine hK.out _ _ ⟨(by rw [ha.out]; exact putSel_upk 19 hb_ rfl rfl rfl), Q_HB, Q_BB, Q_BN, Q_BF⟩
   refine steps_cons ?_ ?_
   ·rintro b a w' ⟨ha, Q_HB, Q_BB, Q_BN, Q_BF⟩ hb_ hon hoff
    refine ⟨_, rfl, fun K hK => ?_⟩
    have e31 : a.tmps[31]? = some (.bool true) := by rw [ha]; exact putSel_on (e := (16, 31, .bool true)) 16 rfl rfl (hon 16 (by kernel_rfl)) rfl
    replace ha := AZ.mk ha
    have HB := AZ.mk Q_HB
    have BB := AZ.mk Q_BB
    have BN := AZ.mk Q_BN
    have BF := AZ.mk Q_BF
    refine off_ (wanted_off rfl rfl rfl (e31.trans (by first | rfl | (simp [*]; done)))) ?_
    refine hK.out _ _ ⟨(by rw [ha.out]; exact putSel_upk 20 hb_ rfl rfl rfl), Q_HB, Q_BB, Q_BN, Q_BF⟩
   refine steps_cons ?_ ?_
   ·rintro b a w' ⟨ha, Q_HB, Q_BB, Q_BN, Q_BF⟩ hb_ hon hoff
    refine ⟨_, rfl, fun K hK => ?_⟩
    have e31 : a.tmps[31]? = some (.bool true) := by rw [ha]; exact putSel_on (e := (16, 31, .bool true)) 16 rfl rfl (hon 16 (by kernel_rfl)) rfl
    replace ha := AZ.mk ha
    have HB := AZ.mk Q_HB
    have BB := AZ.mk Q_BB
    have BN := AZ.mk Q_BN
    have BF := AZ.mk Q_BF
    refine off_ (wanted_off rfl rfl rfl (e31.trans (by first | rfl | (simp [*]; done)))) ?_
    refine hK.out _ _ ⟨(by rw [ha.out]; exact putSel_upk 21 hb_ rfl rfl rfl), Q_HB, Q_BB, Q_BN, Q_BF⟩
   refine steps_cons ?_ ?_
   ·rintro b a w' ⟨ha, Q_HB, Q_BB, Q_BN, Q_BF⟩ hb_ hon hoff
    refine ⟨_, rfl, fun K hK => ?_⟩
    have e31 : a.tmps[31]? = some (.bool true) := by rw [ha]; exact putSel_on (e := (16, 31, .bool true)) 16 rfl rfl (hon 16 (by kernel_rfl)) rfl
    have e36 : a.tmps[36]? = some (undef) := by rw [ha]; exact putSel_on (e := (21, 36, undef)) 21 rfl rfl (hon 21 (by kernel_rfl)) rfl
    replace ha := AZ.mk ha
    have HB := AZ.mk Q_HB
    have BB := AZ.mk Q_BB
    have BN := AZ.mk Q_BN
    have BF := AZ.mk Q_BF
    refine value_ (w1 := w') (v := .bool true) (by rfl) rfl ?_ ?_
    ·go_simp
     (try simp only [i64_w])
     try rfl
    refine hK.out _ _ ⟨(by rw [ha.out]; exact putSel_upk 22 hb_ rfl rfl rfl), Q_HB, Q_BB, Q_BN, Q_BF⟩
   exact steps_nil
  ·rintro b a w' hall ⟨ha, Q_HB, Q_BB, Q_BN, Q_BF⟩
   clear BB BF BN HB
   have hb0_ := hall 0 (by kernel_rfl)
   have hb1_ := hall 1 (by kernel_rfl)
   have hb2_ := hall 2 (by kernel_rfl)
   have hb3_ := hall 3 (by kernel_rfl)
   have hb4_ := hall 4 (by kernel_rfl)
   have hb5_ := hall 5 (by kernel_rfl)
   have hb6_ := hall 6 (by kernel_rfl)
   have hb7_ := hall 7 (by kernel_rfl)
   have hb8_ := hall 8 (by kernel_rfl)
   have hb9_ := hall 9 (by kernel_rfl)
   have hb10_ := hall 10 (by kernel_rfl)
   have hb11_ := hall 11 (by kernel_rfl)
   have hb12_ := hall 12 (by kernel_rfl)
   have hb13_ := hall 13 (by kernel_rfl)
   have hb14_ := hall 14 (by kernel_rfl)
   have hb15_ := hall 15 (by kernel_rfl)
   have hb16_ := hall 16 (by kernel_rfl)
   have hb17_ := hall 17 (by kernel_rfl)
   have hb18_ := hall 18 (by kernel_rfl)
   have hb19_ := hall 19 (by kernel_rfl)
   have hb20_ := hall 20 (by kernel_rfl)
   have hb21_ := hall 21 (by kernel_rfl)
   have hb22_ := hall 22 (by kernel_rfl)
   subst ha
   simp only [putSel, hb0_, hb1_, hb2_, hb3_, hb4_, hb5_, hb6_, hb7_, hb8_, hb9_, hb10_, hb11_, hb12_, hb13_, hb14_, hb15_, hb16_, hb17_, hb18_, hb19_, hb20_, hb21_, hb22_, if_true, Act.put, sA, sB, sC]
   have HB := AZ.mk Q_HB
   clear Q_HB
   have BB := AZ.mk Q_BB
   clear Q_BB
   have BN := AZ.mk Q_BN
   clear Q_BN
   have BF := AZ.mk Q_BF
   clear Q_BF
   clear hall hb0_ hb1_ hb2_ hb3_ hb4_ hb5_ hb6_ hb7_ hb8_ hb9_ hb10_ hb11_ hb12_ hb13_ hb14_ hb15_ hb16_ hb17_ hb18_ hb19_ hb20_ hb21_ hb22_
   go_wp2
   go_ret
   exact ⟨congrArg (fun b => Ending.returned (Value.bool b)) (ok_no (fun h => HN1.out h.1)).symm, HB.out⟩
end Go.Proofs.Ytgfilbgjnloopaa.P
namespace Go.Proofs.Ytgfilbgjnloopaa.P
open Go.RowKit Go.Proofs.YtgfilbgjnloopaaW.PrintWords Go.Proofs.YtgfilbgjnloopaaW.PrintLast Go.Proofs.YtgfilbgjnloopaaW.PrintMore
attribute [local go_sem] max2_int min2_int max_two min_two max_three min_three max_four min_four
set_option linter.unusedVariables false
set_option linter.unusedSimpArgs false
def impl_isReturn.f (a0 : Int) : Option (Bool) := if a0 = 41 then (some true) else (some (a0 == 93))
set_option maxHeartbeats 8000000 in
set_option maxRecDepth 100000 in
theorem impl_isReturn.calls (a0 : Int) (r : Bool) (w : World) (h : impl_isReturn.f a0 = some r) :
  Calls Try.prog 78 #[.int .u8 a0] w fun e w' => e = .returned (.bool r) ∧ Drawn0 w w' := by
 have H : (if a0 = 41 then (some true) else (some (a0 == 93))) = some r := h
 clear h
 by_cases c2 : a0 = 41
 rotate_left
 ·rw [if_neg c2] at H
  have c2b0 : (a0 == 41) = false := beq_eq_false_iff_ne.mpr c2
  have c2b1 : (a0 != 41) = true := bne_iff_ne.mpr c2
  obtain rfl := Option.some.inj H
  go_enter Try.func78, Try.ntmps78
  go_wp2
  go_ret
  exact ⟨by first | rfl | (simp; done) | (simp [*]; done), by repeat (first | exact Drawn0.refl _ | apply Drawn0.step)⟩
 rw [if_pos c2] at H
 have c2b0 : (a0 == 41) = true := beq_iff_eq.mpr c2
 have c2b1 : (a0 != 41) = false := bne_eq_false_iff_eq.mpr c2
 clear c2
 obtain rfl := Option.some.inj H
 go_enter Try.func78, Try.ntmps78
 go_wp2
 go_ret
 exact ⟨by first | rfl | (simp; done) | (simp [*]; done), by repeat (first | exact Drawn0.refl _ | apply Drawn0.step)⟩
end Go.Proofs.Ytgfilbgjnloopaa.P
namespace Go.Proofs.Ytgfilbgjnloopaa.P
open Go.RowKit Go.Proofs.YtgfilbgjnloopaaW.PrintWords Go.Proofs.YtgfilbgjnloopaaW.PrintLast Go.Proofs.YtgfilbgjnloopaaW.PrintMore
attribute [local go_sem] max2_int min2_int max_two min_two max_three min_three max_four min_four
set_option linter.unusedVariables false
set_option linter.unusedSimpArgs false
def impl_isCall.f (a0 : Int) : Option (Bool) := if a0 = 40 then (some true) else (some (a0 == 91))
set_option maxHeartbeats 8000000 in
set_option maxRecDepth 100000 in
theorem impl_isCall.calls (a0 : Int) (r : Bool) (w : World) (h : impl_isCall.f a0 = some r) :
  Calls Try.prog 79 #[.int .u8 a0] w fun e w' => e = .returned (.bool r) ∧ Drawn0 w w' := by
 have H : (if a0 = 40 then (some true) else (some (a0 == 91))) = some r := h
 clear h
 by_cases c2 : a0 = 40
 rotate_left
 ·rw [if_neg c2] at H
  have c2b0 : (a0 == 40) = false := beq_eq_false_iff_ne.mpr c2
  have c2b1 : (a0 != 40) = true := bne_iff_ne.mpr c2
  obtain rfl := Option.some.inj H
  go_enter Try.func79, Try.ntmps79
  go_wp2
  go_ret
  exact ⟨by first | rfl | (simp; done) | (simp [*]; done), by repeat (first | exact Drawn0.refl _ | apply Drawn0.step)⟩
 rw [if_pos c2] at H
 have c2b0 : (a0 == 40) = true := beq_iff_eq.mpr c2
 have c2b1 : (a0 != 40) = false := bne_eq_false_iff_eq.mpr c2
 clear c2
 obtain rfl := Option.some.inj H
 go_enter Try.func79, Try.ntmps79
 go_wp2
 go_ret
 exact ⟨by first | rfl | (simp; done) | (simp [*]; done), by repeat (first | exact Drawn0.refl _ | apply Drawn0.step)⟩
end Go.Proofs.Ytgfilbgjnloopaa.P
