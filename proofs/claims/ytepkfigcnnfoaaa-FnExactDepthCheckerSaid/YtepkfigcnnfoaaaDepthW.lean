/- DepthChecker: the reference's and the program's walks. Written by a program of this session (mkdepth.py). -/
import Derived.Test.YtepkfigcnnfoaaaPlain
import Derived.Test.YtepkfigcnnfoaaaLawD
namespace Go.Proofs.Ytepkfigcnnfoaaa.P
open Go.RowKit Go.Proofs.YtepkfigcnnfoaaaW.PrintWords Go.Proofs.YtepkfigcnnfoaaaW.PrintLast Go.Proofs.YtepkfigcnnfoaaaW.PrintMore Go.Proofs.Ytepkfigcnnfoaaa.Deep
set_option linter.unusedVariables false
set_option linter.unusedSimpArgs false
/-- Six numbers in one's own row: its block's cells. -/
theorem six_cells {w : World} {B : Nat} {ok : Nat → Prop} {v : Value} {t : Int} (h : (Kd.int .i64).R 2 w B ok v (List.replicate 6 t)) : ∃ g c cs, v = .slice (some ⟨g, 0, none⟩) 6 c ∧ w.heap[g]? = some (.cells cs 2 (0, 0)) ∧ ∀ j, j < 6 → cs[j]? = some (.int .i64 t) := by
  obtain ⟨g, c, rfl, _, _, cs, hcs⟩ := Kd.R_form h (by simp)
  refine ⟨g, c, cs, rfl, hcs, fun j hj => ?_⟩
  have h1 := (Kd.R_celln (0 : Int) h (j : Int) (by omega) (by simp; omega)).1
  have h2 := blk_cell hcs j
  rw [show ((j : Int)).toNat = j from by simp] at h1
  rw [← h2, h1]
  have h3 : rdOf (0 : Int) (List.replicate 6 t) (j : Int) = t := by
    unfold rdOf
    rw [Int.toNat_natCast, List.getD_eq_getElem?_getD, List.getElem?_replicate, if_pos hj]; rfl
  rw [h3]
namespace Depth
def acc (k : Nat) : Nat → Bool := fun s => decide ((s : Int) ≤ (k : Int))
def call (k : Nat) : Nat → Nat → S47 := fun s q => ⟨mn ((s : Int) + 1) ((k : Int) + 1), 0⟩
def back (k : Nat) : Nat → Nat → Nat → Int := fun s q x => if (s : Int) = (k : Int) + 1 then (s : Int) else mx 0 ((s : Int) - 1)
def inner : Nat → Nat → Int := fun s q => (s : Int)
def valid (a : Int) : Prop := 0 ≤ a ∧ a ≤ 9
instance (a : Int) : Decidable (valid a) := inferInstanceAs (Decidable (0 ≤ a ∧ a ≤ 9))
def DM (a : Int) : Int := if valid a then 1 else 0
def DK (a : Int) : Int := if valid a then 0 else 2
def DA (a : Int) : List Bool := if valid a then LAs (acc a.toNat) (a.toNat + 2) else []
def DC (a : Int) : List (List S47) := if valid a then LCs (call a.toNat) (a.toNat + 2) else []
def DR (a : Int) : List (List (List Int)) := if valid a then LRs 1 (back a.toNat) (a.toNat + 2) else []
def DI (a : Int) : List (List Int) := if valid a then LIs inner (a.toNat + 2) else []
/-! ### the reference's -/
def SA (d : Nat) : List Bool := (List.range d).map fun _ => true
def SC (d : Nat) : List (List S47) := (List.range d).map fun (q : Nat) => [⟨(q : Int) + 1, 0⟩, ⟨(q : Int) + 1, 0⟩]
def SR (d : Nat) : List (List (List Int)) := (List.range d).map fun (q : Nat) => [List.replicate 2 (mx ((q : Int) - 1) 0), List.replicate 2 (mx ((q : Int) - 1) 0)]
def SI (d : Nat) : List (List Int) := (List.range d).map fun (q : Nat) => [(q : Int), (q : Int)]
theorem SA_succ (d : Nat) : SA (d + 1) = SA d ++ [true] := by simp [SA, List.range_succ]
theorem SC_succ (d : Nat) : SC (d + 1) = SC d ++ [[⟨(d : Int) + 1, 0⟩, ⟨(d : Int) + 1, 0⟩]] := by simp [SC, List.range_succ]
theorem SR_succ (d : Nat) : SR (d + 1) = SR d ++ [[List.replicate ((1 : Int) + 1).toNat (mx ((d : Int) - 1) 0), List.replicate ((1 : Int) + 1).toNat (mx ((d : Int) - 1) 0)]] := by simp [SR, List.range_succ]
theorem SI_succ (d : Nat) : SI (d + 1) = SI d ++ [[(d : Int), (d : Int)]] := by simp [SI, List.range_succ]
theorem same (k : Nat) (hk : k ≤ 9) : SA (k + 1) ++ [false] = LAs (acc k) (k + 2) ∧ SC (k + 1) ++ [[⟨(k : Int) + 1, 0⟩, ⟨(k : Int) + 1, 0⟩]] = LCs (call k) (k + 2) ∧ SR (k + 1) ++ [[List.replicate ((1 : Int) + 1).toNat ((k : Int) + 1), List.replicate ((1 : Int) + 1).toNat ((k : Int) + 1)]] = LRs 1 (back k) (k + 2) ∧ SI (k + 1) ++ [[(k : Int) + 1, (k : Int) + 1]] = LIs inner (k + 2) := by
  have : ∀ k : Fin 10, SA (k.1 + 1) ++ [false] = LAs (acc k.1) (k.1 + 2) ∧ SC (k.1 + 1) ++ [[⟨(k.1 : Int) + 1, 0⟩, ⟨(k.1 : Int) + 1, 0⟩]] = LCs (call k.1) (k.1 + 2) ∧ SR (k.1 + 1) ++ [[List.replicate ((1 : Int) + 1).toNat ((k.1 : Int) + 1), List.replicate ((1 : Int) + 1).toNat ((k.1 : Int) + 1)]] = LRs 1 (back k.1) (k.1 + 2) ∧ SI (k.1 + 1) ++ [[(k.1 : Int) + 1, (k.1 : Int) + 1]] = LIs inner (k.1 + 2) := by
    intro k
    match k with
    | ⟨0, _⟩ => exact ⟨rfl, rfl, rfl, rfl⟩
    | ⟨1, _⟩ => exact ⟨rfl, rfl, rfl, rfl⟩
    | ⟨2, _⟩ => exact ⟨rfl, rfl, rfl, rfl⟩
    | ⟨3, _⟩ => exact ⟨rfl, rfl, rfl, rfl⟩
    | ⟨4, _⟩ => exact ⟨rfl, rfl, rfl, rfl⟩
    | ⟨5, _⟩ => exact ⟨rfl, rfl, rfl, rfl⟩
    | ⟨6, _⟩ => exact ⟨rfl, rfl, rfl, rfl⟩
    | ⟨7, _⟩ => exact ⟨rfl, rfl, rfl, rfl⟩
    | ⟨8, _⟩ => exact ⟨rfl, rfl, rfl, rfl⟩
    | ⟨9, _⟩ => exact ⟨rfl, rfl, rfl, rfl⟩
  exact this ⟨k, by omega⟩
theorem reads_nil (w : World) : Reads w nilV nilV nilV nilV [] [] [] [] := ⟨⟨none, 0, rfl, Nat.le_refl _, Kd.C_nil _ _⟩, ⟨none, 0, rfl, Nat.le_refl _, Kd.C_nil _ _⟩, ⟨none, 0, rfl, Nat.le_refl _, Kd.C_nil _ _⟩, ⟨none, 0, rfl, Nat.le_refl _, Kd.C_nil _ _⟩⟩
theorem own_nil (w : World) (B : Nat) : OwnC w B nilV nilV nilV nilV [] [] [] [] := ⟨fun _ => 0, Kd.R_nil _ _ _ _ _, Kd.S_nil _ _ _ _ _, Kd.S_nil _ _ _ _ _, Kd.S_nil _ _ _ _ _⟩
theorem own_of {w w' : World} {gC gZ : Nat} {cC cZ : Array Value} {vA vC vR vI vc vb vi vl : Value} {LA : List Bool} {LC : List (List S47)} {LR : List (List (List Int))} {LI : List (List Int)} {lc : List S47} {lb : List (List Int)} {li ll : List Int} (h : AllB w w' gC gZ cC cZ vA vC vR vI vc vb vi vl LA LC LR LI lc lb li ll) : OwnC w' w.heap.size vA vC vR vI LA LC LR LI := by
  obtain ⟨_, _, _, _, f, h0, h1, h2, h3, _⟩ := h
  exact ⟨f, h0, h1, h2, h3⟩
set_option maxHeartbeats 4000000 in
set_option maxRecDepth 100000 in
theorem spec_calls (a : Int) (w : World) : Calls Try.prog 17 #[.int .i64 a] w fun e w' => ∃ vA vC vR vI : Value, e = .returned (.tuple #[.agg #[.int .i64 (DM a), .int .i64 0, vA, vC, vR, vI], .int .i64 (DK a)]) ∧ Reads w' vA vC vR vI (DA a) (DC a) (DR a) (DI a) ∧ Below w.heap.size w w' := by
  have hu27 := Try.underlying27
  have HB := Aside0.mk (Below.refl w.heap.size w)
  have hin : spec_l00In.f a 0 9 = some (decide (valid a)) := by
    unfold spec_l00In.f valid
    by_cases h : a ≥ 0
    · rw [if_pos h]; congr 1; by_cases h9 : a ≤ 9 <;> simp [h9] <;> omega
    · rw [if_neg h]; congr 1; symm; exact decide_eq_false (fun hh => h hh.1)
  have HIN := Aside0.mk hin
  clear hin
  by_cases hv : valid a
  · obtain ⟨k, rfl⟩ : ∃ k : Nat, a = (k : Int) := ⟨a.toNat, by have := hv.1; omega⟩
    have hk : k ≤ 9 := by have := hv.2; omega
    have HKK := Aside0.mk hk
    have cv : decide (valid (k : Int)) = true := decide_eq_true hv
    have HV := Aside0.mk hv
    clear hv hk
    go_enter Try.func17, Try.ntmps17
    go_wp2_with (first | ((with_reducible refine gate_dst (N := 2) rfl ?_); refine box_event ?hg (N := 2) ?hd (cs := cZ) (t := 27) ?hr ?_; (case hd => rfl); (case hg => rfl); (case hr => first | (go_simp; done) | (go_simp; rfl)); intro gZ hg WgZ hbx hb; have BZ := Aside0.mk hbx; have GZ := Aside0.mk (show w.heap.size ≤ gZ by rw [hg]; exact below_size HB.out); have n_ := Aside0.mk (below_step HB.out hb); clear HB hb hbx hg; have HB := n_; clear n_) | ((with_reducible refine gate_callee (f := 50) rfl ?_); refine goesL_ (some 8) rfl rfl Try.func50 (by kernel_rfl) rfl #[.int .i64 (k : Int), .int .i64 0, .int .i64 9] rfl (by (try simp only [List.map_toArray, List.map_cons, List.map_nil]); first | done | rfl) ?_; refine (spec_l00In.calls (k : Int) 0 9 _ _ HIN.out).mono ?_; rintro e W5 ⟨rfl, hd⟩; refine ⟨_, rfl, ?_⟩; have hb := hd.below; have n0_ := Aside0.mk (below_step HB.out hb); have n1_ := Aside0.mk (blk_below BZ.out hb); clear HB BZ hb hd; have HB := n0_; have BZ := n1_; clear n0_ n1_) | ((with_reducible refine gate_dst (N := 4) rfl ?_); refine box_event ?hg (N := 4) ?hd (cs := cZ) (t := 27) ?hr ?_; (case hd => rfl); (case hg => rfl); (case hr => first | (go_simp; done) | (go_simp; rfl)); intro gC hg WgC hbx hb; have BC := Aside0.mk hbx; have GC := Aside0.mk (show w.heap.size ≤ gC by rw [hg]; exact below_size HB.out); have NE := Aside0.mk (show gC ≠ gZ by rw [hg]; exact Nat.ne_of_gt (blk_lt BZ.out)); have n0_ := Aside0.mk (below_step HB.out hb); have n1_ := Aside0.mk (blk_below BZ.out hb); clear HB BZ hb hbx hg; have HB := n0_; have BZ := n1_; clear n0_ n1_) | ((with_reducible refine gate_ (.store 27 (.tmp 4) (.tmp 11)) rfl ?_); refine store27 rfl 4 11 rfl (g := gC) (old := cZ) (cs := cellsI 1 0 nilV nilV nilV nilV) rfl rfl BC.out rfl rfl (cellsI_one _ _ (reads_nil w)) ?_; intro w3 hbx hB hfar; have HO := Aside0.mk (show AllB w w3 gC gZ (cellsI 1 0 nilV nilV nilV nilV) cZ nilV nilV nilV nilV nilV nilV nilV nilV (SA 0) (SC 0) (SR 0) (SI 0) [] [] [] [] from ⟨hB _ _ HB.out GC.out, hbx, (hfar _ (Ne.symm NE.out)).trans BZ.out, ⟨GC.out, GZ.out, NE.out⟩, fun _ => 0, Kd.R_nil _ _ _ _ _, Kd.S_nil _ _ _ _ _, Kd.S_nil _ _ _ _ _, Kd.S_nil _ _ _ _ _, Kd.R_nil _ _ _ _ _, Kd.S_nil _ _ _ _ _, Kd.R_nil _ _ _ _ _, Kd.R_nil _ _ _ _ _⟩); clear HB BC BZ hbx hB hfar))
    clear cv
    go_loopg [5] (k + 2) (fun kq v5 w' => ∃ (d : Nat) (vA vC vR vI : Value), v5 = .int .i64 (d : Int) ∧ Aside0 (kq + d = k + 2) ∧ Aside0 (d ≤ k + 1) ∧ Aside0 (AllB w w' gC gZ (cellsI 1 0 vA vC vR vI) cZ vA vC vR vI nilV nilV nilV nilV (SA d) (SC d) (SR d) (SI d) [] [] [] []))
    case atStart => exact ⟨0, nilV, nilV, nilV, nilV, rfl, ⟨rfl⟩, ⟨Nat.zero_le _⟩, HO⟩
    case round =>
      clear HO
      obtain ⟨d, vA, vC, vR, vI, rfl, HQ, HD, HO⟩ := hrel
      by_cases hlt : d < k + 1
      · have HL := Aside0.mk hlt
        have c1 : decide ((d : Int) ≤ (k : Int)) = true := decide_eq_true (by omega)
        have c2 : decide (d ≤ k) = true := decide_eq_true (by omega)
        clear hlt
        obtain ⟨gk0, rfl⟩ : ∃ q, gk = q + 1 := ⟨gk - 1, by have := HQ.out; have := HL.out; omega⟩
        have HW1 := Aside0.mk (bw' ((d : Int) + 1) (by omega) (by have := HL.out; have := HKK.out; omega))
        have HW2 := Aside0.mk (bw' ((d : Int) - 1) (by omega) (by have := HL.out; have := HKK.out; omega))
        go_wp2_with (first | ((with_reducible refine gate_callee (f := 51) rfl ?_); refine goesL_ (some 19) rfl rfl Try.func51 (by kernel_rfl) rfl #[.int .i64 (wrap64 ((d : Int) - 1)), .int .i64 0] rfl (by (try simp only [List.map_toArray, List.map_cons, List.map_nil]); first | done | rfl) ?_; refine (spec_l00Max.calls (wrap64 ((d : Int) - 1)) 0 (mx ((d : Int) - 1) 0) _ (by rw [HW2.out]; unfold spec_l00Max.f mx; by_cases h : (d : Int) - 1 < 0 <;> simp [h] <;> omega)).mono ?_; rintro e W6 ⟨rfl, hd⟩; refine ⟨_, rfl, ?_⟩; have n_ := Aside0.mk (All.below HO.out hd.below); clear HO hd; have HO := n_; clear n_) | ((with_reducible refine gate_callee (f := 52) rfl ?_); refine goesL_ (some 29) rfl rfl Try.func52 (by kernel_rfl) rfl #[.pointer (some ⟨gC, 0, none⟩), .bool true, .slice (some ⟨W6.heap.size, 0, none⟩) 6 6] rfl (by (try simp only [List.map_toArray, List.map_cons, List.map_nil]); first | done | rfl) ?_; refine (plain_calls w _ gC gZ _ cZ _ 6 1 0 vA vC vR vI _ _ _ _ true (wrap64 ((d : Int) + 1)) (wrap64 ((d : Int) + 1)) (mx ((d : Int) - 1) 0) (mx ((d : Int) - 1) 0) (d : Int) (d : Int) (All.alloc HO.out _) (heap_alloc_new _ _) rfl rfl rfl rfl rfl rfl (by decide) (by simp [SA]; have := HL.out; have := HKK.out; omega) (by simp [SC]; have := HL.out; have := HKK.out; omega) (by simp [SR]; have := HL.out; have := HKK.out; omega) (by simp [SI]; have := HL.out; have := HKK.out; omega)).mono ?_; rintro e W7 ⟨vA', vC', vR', vI', rfl, ho⟩; refine ⟨_, rfl, ?_⟩; rw [HW1.out] at ho; clear HO; have HO := Aside0.mk ho; clear ho))
        go_roundg gk0
        case measure => have := HQ.out; omega
        case rel => exact ⟨d + 1, vA', vC', vR', vI', by simp only [Value.int.injEq, true_and]; rw [bw' _ (by omega) (by have := HL.out; have := HKK.out; omega)]; omega, ⟨by have := HQ.out; omega⟩, ⟨by have := HL.out; omega⟩, ⟨by rw [SA_succ, SC_succ, SR_succ, SI_succ]; exact HO.out⟩⟩
      · have HX := Aside0.mk (show d = k + 1 by have := HD.out; omega)
        have c1 : decide ((d : Int) ≤ (k : Int)) = false := decide_eq_false (by omega)
        have c2 : decide (d ≤ k) = false := decide_eq_false (by omega)
        clear hlt
        obtain rfl := HX.out
        have HW1 := Aside0.mk (bw' ((k : Int) + 1) (by omega) (by have := HKK.out; omega))
        go_wp2_with (first | ((with_reducible refine gate_callee (f := 53) rfl ?_); refine goesL_ (some 32) rfl rfl Try.func53 (by kernel_rfl) rfl #[.int .i64 (wrap64 ((k : Int) + 1)), .int .i64 6] rfl (by (try simp only [List.map_toArray, List.map_cons, List.map_nil]); first | done | rfl) ?_; refine (spec_l02Same.calls 2000 (wrap64 ((k : Int) + 1)) 6 (List.replicate 6 ((k : Int) + 1)) _ (by rw [HW1.out]; have h := same_f ((k : Int) + 1) 5 (by decide); rw [bw' ((5 : Int) + 1) (by decide) (by decide)] at h; exact h)).mono ?_; rintro e W8 ⟨v8, rfl, hr, hb⟩; refine ⟨_, rfl, ?_⟩; obtain ⟨gT, cT, csT, rfl, hbt, h6⟩ := six_cells hr; have BT := Aside0.mk hbt; have H6 := Aside0.mk h6; have n_ := Aside0.mk (All.below HO.out hb); clear HO hb hr hbt h6; have HO := n_; clear n_) | ((with_reducible refine gate_callee (f := 52) rfl ?_); refine goesL_ (some 33) rfl rfl Try.func52 (by kernel_rfl) rfl #[.pointer (some ⟨gC, 0, none⟩), .bool false, .slice (some ⟨gT, 0, none⟩) 6 cT] rfl (by (try simp only [List.map_toArray, List.map_cons, List.map_nil]); first | done | rfl) ?_; refine (plain_calls w _ gC gZ gT cZ csT cT 1 0 vA vC vR vI _ _ _ _ false ((k : Int) + 1) ((k : Int) + 1) ((k : Int) + 1) ((k : Int) + 1) ((k : Int) + 1) ((k : Int) + 1) HO.out BT.out (H6.out 0 (by decide)) (H6.out 1 (by decide)) (H6.out 2 (by decide)) (H6.out 3 (by decide)) (H6.out 4 (by decide)) (H6.out 5 (by decide)) (by decide) (by simp [SA]; have := HKK.out; omega) (by simp [SC]; have := HKK.out; omega) (by simp [SR]; have := HKK.out; omega) (by simp [SI]; have := HKK.out; omega)).mono ?_; rintro e W7 ⟨vA', vC', vR', vI', rfl, ho⟩; refine ⟨_, rfl, ?_⟩; clear HO BT; have HO := Aside0.mk ho; clear ho) | ((with_reducible refine gate_ (.load 27 (.tmp 4)) rfl ?_); refine load27 rfl 4 rfl (g := gC) rfl (All.boxC HO.out) rfl ?_) | ((with_reducible refine gate_ (.store 27 (.tmp 2) (.tmp 34)) rfl ?_); refine store27 rfl 2 34 rfl (g := gZ) (old := cZ) (cs := cellsI 1 0 vA' vC' vR' vI') rfl rfl (All.boxZ HO.out) rfl rfl (cellsI_one _ _ (Reads.own (own_of HO.out))) ?_; intro w9 hbx hB hfar))
        refine bodyPost_ret (results_ct rfl _ _ gZ 27 (cellsI 1 0 vA' vC' vR' vI') (0, 0) _ rfl hbx Try.underlying27 rfl (by kernel_rfl)) rfl ?_
        obtain ⟨e1, e2, e3, e4⟩ := same k HKK.out
        refine ⟨vA', vC', vR', vI', ?_, ?_, hB _ _ (All.blw HO.out) HO.out.2.2.2.1.2.1⟩
        · unfold DM DK; rw [if_pos HV.out, if_pos HV.out]; rfl
        · have h9 := Reads.own (own_out HO.out hfar)
          unfold DA DC DR DI
          rw [if_pos HV.out, if_pos HV.out, if_pos HV.out, if_pos HV.out, Int.toNat_natCast, ← e1, ← e2, ← e3, ← e4]
          exact h9
  · have cv : decide (valid a) = false := decide_eq_false hv
    have HV := Aside0.mk hv
    clear hv
    go_enter Try.func17, Try.ntmps17
    go_wp2_with (first | ((with_reducible refine gate_dst (N := 2) rfl ?_); refine box_event ?hg (N := 2) ?hd (cs := cZ) (t := 27) ?hr ?_; (case hd => rfl); (case hg => rfl); (case hr => first | (go_simp; done) | (go_simp; rfl)); intro gZ hg WgZ hbx hb; have BZ := Aside0.mk hbx; have GZ := Aside0.mk (show w.heap.size ≤ gZ by rw [hg]; exact below_size HB.out); have n_ := Aside0.mk (below_step HB.out hb); clear HB hb hbx hg; have HB := n_; clear n_) | ((with_reducible refine gate_callee (f := 50) rfl ?_); refine goesL_ (some 8) rfl rfl Try.func50 (by kernel_rfl) rfl #[.int .i64 a, .int .i64 0, .int .i64 9] rfl (by (try simp only [List.map_toArray, List.map_cons, List.map_nil]); first | done | rfl) ?_; refine (spec_l00In.calls a 0 9 _ _ HIN.out).mono ?_; rintro e W5 ⟨rfl, hd⟩; refine ⟨_, rfl, ?_⟩; have hb := hd.below; have n0_ := Aside0.mk (below_step HB.out hb); have n1_ := Aside0.mk (blk_below BZ.out hb); clear HB BZ hb hd; have HB := n0_; have BZ := n1_; clear n0_ n1_) | ((with_reducible refine gate_ (.store 27 (.tmp 2) (.tmp 10)) rfl ?_); refine store27 rfl 2 10 rfl (g := gZ) (old := cZ) (cs := cZ) rfl rfl BZ.out rfl rfl (cellsI_one 0 0 (reads_nil w)) ?_; intro w9 hbx hB hfar))
    refine bodyPost_ret (results_ct rfl _ _ gZ 27 cZ (0, 0) _ rfl hbx Try.underlying27 rfl (by kernel_rfl)) rfl ?_
    refine ⟨nilV, nilV, nilV, nilV, ?_, ?_, hB _ _ HB.out GZ.out⟩
    · unfold DM DK; rw [if_neg HV.out, if_neg HV.out]; rfl
    · unfold DA DC DR DI; rw [if_neg HV.out, if_neg HV.out, if_neg HV.out, if_neg HV.out]; exact reads_nil _
set_option maxHeartbeats 4000000 in
set_option maxRecDepth 100000 in
theorem impl_calls (a : Int) (w : World) : Calls Try.prog 18 #[.int .i64 a] w fun e w' => ∃ vA vC vR vI : Value, e = .returned (.tuple #[.agg #[.int .i64 (DM a), .int .i64 0, vA, vC, vR, vI], .int .i64 (DK a)]) ∧ OwnC w' w.heap.size vA vC vR vI (DA a) (DC a) (DR a) (DI a) ∧ Below w.heap.size w w' := by
  have hu27 := Try.underlying27
  have HB := Aside0.mk (Below.refl w.heap.size w)
  have hin : impl_within.f a 0 9 = some (decide (valid a)) := by
    unfold impl_within.f valid
    by_cases h : a ≥ 0
    · rw [if_pos h]; congr 1; by_cases h9 : a ≤ 9 <;> simp [h9] <;> omega
    · rw [if_neg h]; congr 1; symm; exact decide_eq_false (fun hh => h hh.1)
  have HIN := Aside0.mk hin
  clear hin
  by_cases hv : valid a
  · obtain ⟨k, rfl⟩ : ∃ k : Nat, a = (k : Int) := ⟨a.toNat, by have := hv.1; omega⟩
    have hk : k ≤ 9 := by have := hv.2; omega
    have HKK := Aside0.mk hk
    have cv : decide (valid (k : Int)) = true := decide_eq_true hv
    have HV := Aside0.mk hv
    clear hv hk
    go_enter Try.func18, Try.ntmps18
    go_wp2_with (first | ((with_reducible refine gate_dst (N := 1) rfl ?_); refine box_event ?hg (N := 1) ?hd (cs := #[.int .i64 (k : Int)]) (t := 2) ?hr ?_; (case hd => rfl); (case hg => rfl); (case hr => first | (go_simp; done) | (go_simp; rfl)); intro gA hg WgA hbx hb; have BA := Aside0.mk hbx; have n_ := Aside0.mk (below_step HB.out hb); clear HB hb hbx hg; have HB := n_; clear n_) | ((with_reducible refine gate_dst (N := 2) rfl ?_); refine box_event ?hg (N := 2) ?hd (cs := cZ) (t := 27) ?hr ?_; (case hd => rfl); (case hg => rfl); (case hr => first | (go_simp; done) | (go_simp; rfl)); intro gZ hg WgZ hbx hb; have BZ := Aside0.mk hbx; have GZ := Aside0.mk (show w.heap.size ≤ gZ by rw [hg]; exact below_size HB.out); have n_ := Aside0.mk (below_step HB.out hb); have n2_ := Aside0.mk (blk_below BA.out hb); clear HB BA hb hbx hg; have HB := n_; have BA := n2_; clear n_ n2_; have hca := (blk_cell BA.out 0 : WgZ.cell? ⟨gA, 0, none⟩ = _).trans rfl) | ((with_reducible refine gate_callee (f := 54) rfl ?_); refine goesL_ (some 5) rfl rfl Try.func54 (by kernel_rfl) rfl #[.int .i64 (k : Int), .int .i64 0, .int .i64 9] rfl (by (try simp only [List.map_toArray, List.map_cons, List.map_nil]); first | done | rfl) ?_; refine (impl_within.calls (k : Int) 0 9 _ _ HIN.out).mono ?_; rintro e W5 ⟨rfl, hd⟩; refine ⟨_, rfl, ?_⟩; have hb := hd.below; have n0_ := Aside0.mk (below_step HB.out hb); have n1_ := Aside0.mk (blk_below BZ.out hb); have n2_ := Aside0.mk (blk_below BA.out hb); clear HB BZ BA hb hd hca; have HB := n0_; have BZ := n1_; have BA := n2_; clear n0_ n1_ n2_; have hca := (blk_cell BA.out 0 : W5.cell? ⟨gA, 0, none⟩ = _).trans rfl) | ((with_reducible refine gate_callee (f := 29) rfl ?_); refine goesL_ (some 13) rfl rfl Try.func29 (by kernel_rfl) rfl #[.int .i64 (wrap64 ((k : Int) + 2)), .int .i64 1, .int .i64 0, .func (.func 55) #[] #[.pointer (some ⟨gA, 0, none⟩)], .func (.func 56) #[] #[.pointer (some ⟨gA, 0, none⟩)], .func (.func 57) #[] #[.pointer (some ⟨gA, 0, none⟩)], .func (.func 58) #[] #[]] rfl (by (try simp only [List.map_toArray, List.map_cons, List.map_nil]); first | done | rfl) ?_; rw [show wrap64 ((k : Int) + 2) = ((k + 2 : Nat) : Int) from by have := HKK.out; rw [bw' _ (by omega) (by omega)]; omega]; refine (built_walk (k + 2) 1 0 _ (by have := HKK.out; omega) (by decide) (acc k) (call k) (back k) inner 55 56 57 58 _ _ _ _ #[.pointer (some ⟨gA, 0, none⟩)] #[.pointer (some ⟨gA, 0, none⟩)] #[.pointer (some ⟨gA, 0, none⟩)] #[] Try.func55 (by kernel_rfl) rfl Try.func56 (by kernel_rfl) rfl Try.func57 (by kernel_rfl) rfl Try.func58 (by kernel_rfl) rfl ?HA ?HC ?HR ?HI).mono ?_; (case HA => intro s W hs hbW; refine (impl_DepthChecker_1_c.calls (s : Int) gA (k : Int) (acc k s) W (blk_below BA.out hbW) rfl).mono ?_; rintro e W' ⟨rfl, hd⟩; exact ⟨rfl, hd.below⟩); (case HC => intro s q W hs hq hbW; refine (impl_DepthChecker_2_c.calls (s : Int) (q : Int) gA (k : Int) (call k s q).f0 (call k s q).f1 W (blk_below BA.out hbW) (by have := HKK.out; unfold impl_DepthChecker_2_c.f call; rw [bw' _ (by omega) (by omega), bw' _ (by omega) (by omega)])).mono ?_; rintro e W' ⟨rfl, hd⟩; exact ⟨rfl, hd⟩); (case HR => intro s q x W hs hq hx hbW; refine (impl_DepthChecker_3_c.calls (s : Int) (q : Int) (x : Int) gA (k : Int) (back k s q x) W (blk_below BA.out hbW) (by have := HKK.out; unfold impl_DepthChecker_3_c.f back; rw [bw' _ (by omega) (by omega), bw' _ (by omega) (by omega)]; by_cases h : (s : Int) = (k : Int) + 1 <;> simp [h])).mono ?_; rintro e W' ⟨rfl, hd⟩; exact ⟨rfl, hd⟩); (case HI => intro s q W hs hq hbW; refine (impl_DepthChecker_4.calls (s : Int) (q : Int) (inner s q) W rfl).mono ?_; rintro e W' ⟨rfl, hd⟩; exact ⟨rfl, hd.below⟩); rintro e w2 ⟨vA, vC, vR, vI, rfl, hO, hb⟩; refine ⟨_, rfl, ?_⟩; have HO := Aside0.mk hO; have G1 := Aside0.mk (blk_lt BZ.out); have HB1 := Aside0.mk (below_step HB.out hb); have BK1 := Aside0.mk (blk_below BZ.out hb); clear HB BZ BA hca hO hb; have HB := HB1; have BZ := BK1; clear HB1 BK1) | ((with_reducible refine gate_ (.store 27 (.tmp 2) (.tmp 13)) rfl ?_); refine store27 rfl 2 13 rfl (g := gZ) (old := cZ) (cs := cellsI 1 0 vA vC vR vI) rfl rfl BZ.out rfl rfl (cellsI_one _ _ (Reads.own HO.out)) ?_; intro w9 hbx hB hfar))
    refine bodyPost_ret (results_ct rfl _ _ gZ 27 (cellsI 1 0 vA vC vR vI) (0, 0) _ rfl hbx Try.underlying27 rfl (by kernel_rfl)) rfl ?_
    refine ⟨vA, vC, vR, vI, ?_, ?_, hB _ _ HB.out GZ.out⟩
    · unfold DM DK; rw [if_pos HV.out, if_pos HV.out]; rfl
    · have h9 := own_far HO.out (fun k hk => hfar k (by have := G1.out; omega)) (by have := GZ.out; have := G1.out; omega : w.heap.size ≤ _)
      unfold DA DC DR DI
      rw [if_pos HV.out, if_pos HV.out, if_pos HV.out, if_pos HV.out, Int.toNat_natCast]
      exact h9
  · have cv : decide (valid a) = false := decide_eq_false hv
    have HV := Aside0.mk hv
    clear hv
    go_enter Try.func18, Try.ntmps18
    go_wp2_with (first | ((with_reducible refine gate_dst (N := 1) rfl ?_); refine box_event ?hg (N := 1) ?hd (cs := #[.int .i64 a]) (t := 2) ?hr ?_; (case hd => rfl); (case hg => rfl); (case hr => first | (go_simp; done) | (go_simp; rfl)); intro gA hg WgA hbx hb; have BA := Aside0.mk hbx; have n_ := Aside0.mk (below_step HB.out hb); clear HB hb hbx hg; have HB := n_; clear n_) | ((with_reducible refine gate_dst (N := 2) rfl ?_); refine box_event ?hg (N := 2) ?hd (cs := cZ) (t := 27) ?hr ?_; (case hd => rfl); (case hg => rfl); (case hr => first | (go_simp; done) | (go_simp; rfl)); intro gZ hg WgZ hbx hb; have BZ := Aside0.mk hbx; have GZ := Aside0.mk (show w.heap.size ≤ gZ by rw [hg]; exact below_size HB.out); have n_ := Aside0.mk (below_step HB.out hb); have n2_ := Aside0.mk (blk_below BA.out hb); clear HB BA hb hbx hg; have HB := n_; have BA := n2_; clear n_ n2_; have hca := (blk_cell BA.out 0 : WgZ.cell? ⟨gA, 0, none⟩ = _).trans rfl) | ((with_reducible refine gate_callee (f := 54) rfl ?_); refine goesL_ (some 5) rfl rfl Try.func54 (by kernel_rfl) rfl #[.int .i64 a, .int .i64 0, .int .i64 9] rfl (by (try simp only [List.map_toArray, List.map_cons, List.map_nil]); first | done | rfl) ?_; refine (impl_within.calls a 0 9 _ _ HIN.out).mono ?_; rintro e W5 ⟨rfl, hd⟩; refine ⟨_, rfl, ?_⟩; have hb := hd.below; have n0_ := Aside0.mk (below_step HB.out hb); have n1_ := Aside0.mk (blk_below BZ.out hb); have n2_ := Aside0.mk (blk_below BA.out hb); clear HB BZ BA hb hd hca; have HB := n0_; have BZ := n1_; have BA := n2_; clear n0_ n1_ n2_; have hca := (blk_cell BA.out 0 : W5.cell? ⟨gA, 0, none⟩ = _).trans rfl) | ((with_reducible refine gate_ (.store 27 (.tmp 2) (.tmp 7)) rfl ?_); refine store27 rfl 2 7 rfl (g := gZ) (old := cZ) (cs := cZ) rfl rfl BZ.out rfl rfl (cellsI_one 0 0 (reads_nil w)) ?_; intro w9 hbx hB hfar))
    refine bodyPost_ret (results_ct rfl _ _ gZ 27 cZ (0, 0) _ rfl hbx Try.underlying27 rfl (by kernel_rfl)) rfl ?_
    refine ⟨nilV, nilV, nilV, nilV, ?_, ?_, hB _ _ HB.out GZ.out⟩
    · unfold DM DK; rw [if_neg HV.out, if_neg HV.out]; rfl
    · unfold DA DC DR DI; rw [if_neg HV.out, if_neg HV.out, if_neg HV.out, if_neg HV.out]; exact own_nil _ _
end Depth
end Go.Proofs.Ytepkfigcnnfoaaa.P
