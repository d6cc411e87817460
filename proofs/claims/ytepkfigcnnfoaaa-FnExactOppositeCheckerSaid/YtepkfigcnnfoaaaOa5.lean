/- Texts that this law leans on, several in one; written by programs of these sessions (print, wip/deep, gather.py). -/
import Derived.Test.YtepkfigcnnfoaaaOa4
namespace Go.Proofs.Ytepkfigcnnfoaaa.P
open Go.RowKit Go.Proofs.YtepkfigcnnfoaaaW.PrintWords Go.Proofs.YtepkfigcnnfoaaaW.PrintLast Go.Proofs.YtepkfigcnnfoaaaW.PrintMore
attribute [local go_sem] max2_int min2_int max_two min_two max_three min_three max_four min_four
set_option linter.unusedVariables false
set_option linter.unusedSimpArgs false
mutual
def spec_l02Copy.l0 : Nat → Int → Int → Int → List Bool → List (List (S47)) → List (List (List Int)) → List (List Int) → Int → Int → List Bool → List (List (S47)) → Option (Int × Int × List Bool × (List (List (S47))) × (List (List (List Int))) × (List (List Int)))
 | 0, _, _, _, _, _, _, _, _, _, _, _ => none
 | k + 1, x4, x1000, x1001, x1002, x1003, x1004, x1005, x357000, x357001, x357002, x357003 => if x4 < (x1003.length : Int) then ((some (([] : List (S47)) : List (S47))).bind fun y357 => (if 0 ≤ x4 then (if y357.length + (rd_L3 x1003 x4).length < 8796093022208 then (if x357003.length < 5864062014805 then (spec_l02Copy.l0 k (wrap64 (x4 + 1)) x1000 x1001 x1002 x1003 x1004 x1005 x357000 x357001 x357002 (x357003 ++ [(y357 ++ (rd_L3 x1003 x4))])) else (none)) else (none)) else (none))) else (spec_l02Copy.l1 k 0 x1000 x1001 x1002 x1003 x1004 x1005 x357000 x357001 x357002 x357003 ([] : List (List (List Int))))
def spec_l02Copy.l1 : Nat → Int → Int → Int → List Bool → List (List (S47)) → List (List (List Int)) → List (List Int) → Int → Int → List Bool → List (List (S47)) → List (List (List Int)) → Option (Int × Int × List Bool × (List (List (S47))) × (List (List (List Int))) × (List (List Int)))
 | 0, _, _, _, _, _, _, _, _, _, _, _, _ => none
 | k + 1, x5, x1000, x1001, x1002, x1003, x1004, x1005, x357000, x357001, x357002, x357003, x357004 => if x5 < (x1004.length : Int) then (spec_l02Copy.l2 k x5 (([] : List (List Int))) 0 x1000 x1001 x1002 x1003 x1004 x1005 x357000 x357001 x357002 x357003 x357004) else (spec_l02Copy.l3 k 0 x1000 x1001 x1002 x1003 x1004 x1005 x357000 x357001 x357002 x357003 x357004 ([] : List (List Int)))
def spec_l02Copy.l2 : Nat → Int → List (List Int) → Int → Int → Int → List Bool → List (List (S47)) → List (List (List Int)) → List (List Int) → Int → Int → List Bool → List (List (S47)) → List (List (List Int)) → Option (Int × Int × List Bool × (List (List (S47))) × (List (List (List Int))) × (List (List Int)))
 | 0, _, _, _, _, _, _, _, _, _, _, _, _, _, _ => none
 | k + 1, x5, x6, x7, x1000, x1001, x1002, x1003, x1004, x1005, x357000, x357001, x357002, x357003, x357004 => if 0 ≤ x5 then (if x5 < (x1004.length : Int) then (if x7 < ((rd_L5 x1004 x5).length : Int) then (if 0 ≤ x7 then ((spec_l00Own.f (rd_L4 (rd_L5 x1004 x5) x7)).bind fun t373 => (if x6.length < 5864062014805 then (spec_l02Copy.l2 k x5 (x6 ++ [t373]) (wrap64 (x7 + 1)) x1000 x1001 x1002 x1003 x1004 x1005 x357000 x357001 x357002 x357003 x357004) else (none))) else (none)) else (if x357004.length < 5864062014805 then (spec_l02Copy.l1 k (wrap64 (x5 + 1)) x1000 x1001 x1002 x1003 x1004 x1005 x357000 x357001 x357002 x357003 (x357004 ++ [x6])) else (none))) else (none)) else (none)
def spec_l02Copy.l3 : Nat → Int → Int → Int → List Bool → List (List (S47)) → List (List (List Int)) → List (List Int) → Int → Int → List Bool → List (List (S47)) → List (List (List Int)) → List (List Int) → Option (Int × Int × List Bool × (List (List (S47))) × (List (List (List Int))) × (List (List Int)))
 | 0, _, _, _, _, _, _, _, _, _, _, _, _, _ => none
 | k + 1, x8, x1000, x1001, x1002, x1003, x1004, x1005, x357000, x357001, x357002, x357003, x357004, x357005 => if x8 < (x1005.length : Int) then (if 0 ≤ x8 then ((spec_l00Own.f (rd_L4 x1005 x8)).bind fun t383 => (if x357005.length < 5864062014805 then (spec_l02Copy.l3 k (wrap64 (x8 + 1)) x1000 x1001 x1002 x1003 x1004 x1005 x357000 x357001 x357002 x357003 x357004 (x357005 ++ [t383])) else (none))) else (none)) else (some (x357000, x357001, x357002, x357003, x357004, x357005))
end
def spec_l02Copy.f (k : Nat) (a0_0 : Int) (a0_1 : Int) (l0_2 : List Bool) (l0_3 : List (List (S47))) (l0_4 : List (List (List Int))) (l0_5 : List (List Int)) : Option (Int × Int × List Bool × (List (List (S47))) × (List (List (List Int))) × (List (List Int))) := (some (([] : List Bool) : List Bool)).bind fun y350 => (if y350.length + l0_2.length < 140737488355328 then (spec_l02Copy.l0 k 0 a0_0 a0_1 l0_2 l0_3 l0_4 l0_5 a0_0 a0_1 (y350 ++ l0_2) ([] : List (List (S47)))) else (none))
def spec_l02Copy.T1 : Bool × List (List Nat × List Nat) := (true, [([], []), ([0], [0]), ([1], [1]), ([2], [2]), ([], []), ([4], [4]), ([5], [5]), ([6], [6]), ([], []), ([], []), ([9], [9]), ([10], [10]), ([11], [11]), ([8, 12], [8, 12]), ([3, 7, 13], [3, 7, 13]), ([], []), ([15, 14, 13, 0, 1, 2, 3, 4, 5, 6, 7, 8, 9, 10, 11, 12, 13, 14, 15], [14, 15])])
def spec_l02Copy.B1 : List Nat := [0, 1, 3, 7, 0, 16, 48, 112, 0, 0, 512, 1536, 3584, 7936, 16383, 0, 65535]
theorem spec_l02Copy.tab1 : rtab .any (opsOf Try.f71 1) = spec_l02Copy.T1 := by kernel_rfl
theorem spec_l02Copy.bits1 : waitsOk spec_l02Copy.T1.2 spec_l02Copy.B1 = true := by kernel_rfl
def spec_l02Copy.T5 : Bool × List (List Nat × List Nat) := (true, [([], []), ([0], [0]), ([], []), ([], []), ([3], [3]), ([4], [4]), ([5], [5]), ([], []), ([6, 7], [6, 7]), ([8], [8]), ([2, 9], [2, 9]), ([10], [10]), ([1, 11, 10], [1, 11]), ([0, 1, 2, 3, 4, 5, 6, 7, 8, 9, 10, 11, 12], []), ([13, 12, 12, 0, 1, 2, 3, 4, 5, 6, 7, 8, 9, 10, 11, 12], [12, 13])])
def spec_l02Copy.B5 : List Nat := [0, 1, 0, 0, 8, 24, 56, 0, 248, 504, 1020, 2044, 4095, 8191, 16383]
theorem spec_l02Copy.tab5 : rtab .any (opsOf Try.f71 5) = spec_l02Copy.T5 := by kernel_rfl
theorem spec_l02Copy.bits5 : waitsOk spec_l02Copy.T5.2 spec_l02Copy.B5 = true := by kernel_rfl
def spec_l02Copy.T18 : Bool × List (List Nat × List Nat) := (true, [([], []), ([0], [0]), ([], []), ([2], [2]), ([3], [3]), ([4], [4]), ([], []), ([5, 6], [5, 6]), ([7], [7]), ([8], [8]), ([9], [9]), ([1, 10, 9], [1, 10]), ([0, 1, 2, 3, 4, 5, 6, 7, 8, 9, 10, 11], []), ([12, 11, 11, 0, 1, 2, 3, 4, 5, 6, 7, 8, 9, 10, 11], [11, 12])])
def spec_l02Copy.B18 : List Nat := [0, 1, 0, 4, 12, 28, 0, 124, 252, 508, 1020, 2047, 4095, 8191]
theorem spec_l02Copy.tab18 : rtab .any (opsOf Try.f71 18) = spec_l02Copy.T18 := by kernel_rfl
theorem spec_l02Copy.bits18 : waitsOk spec_l02Copy.T18.2 spec_l02Copy.B18 = true := by kernel_rfl
def spec_l02Copy.cz0 : List Nat := [0, 1, 2, 4, 5, 6, 9, 10, 11, 403, 407, 412]
def spec_l02Copy.cz1 : List Nat := [0, 3, 4, 5, 7, 401, 406, 8, 409]
def spec_l02Copy.cz2 : List Nat := [0, 2, 3, 4, 6, 401, 405, 7, 408]
set_option maxHeartbeats 8000000 in
set_option maxRecDepth 100000 in
theorem spec_l02Copy.calls (k : Nat) (g0_ : Nat) (a0_0 : Int) (a0_1 : Int) (A0_2 : Option Addr) (c0_2 : Nat) (l0_2 : List Bool) (A0_3 : Option Addr) (c0_3 : Nat) (l0_3 : List (List (S47))) (A0_4 : Option Addr) (c0_4 : Nat) (l0_4 : List (List (List Int))) (A0_5 : Option Addr) (c0_5 : Nat) (l0_5 : List (List Int)) (r1 : Int) (r2 : Int) (r3 : List Bool) (r4 : List (List (S47))) (r5 : List (List (List Int))) (r6 : List (List Int)) (w : World) (hr0_2 : Kd.C Kd.bool w A0_2 l0_2.length l0_2) (hc0_2 : l0_2.length ≤ c0_2) (hr0_3 : Kd.C (Kd.slice 47 k47) w A0_3 l0_3.length l0_3) (hc0_3 : l0_3.length ≤ c0_3) (hr0_4 : Kd.C (Kd.slice 49 (Kd.slice 2 (Kd.int .i64))) w A0_4 l0_4.length l0_4) (hc0_4 : l0_4.length ≤ c0_4) (hr0_5 : Kd.C (Kd.slice 2 (Kd.int .i64)) w A0_5 l0_5.length l0_5) (hc0_5 : l0_5.length ≤ c0_5) (hbk0_0 : w.heap[g0_]? = some (.cells #[.int .i64 a0_0, .int .i64 a0_1, .slice A0_2 l0_2.length c0_2, .slice A0_3 l0_3.length c0_3, .slice A0_4 l0_4.length c0_4, .slice A0_5 l0_5.length c0_5] 27 (0, 0))) (h : spec_l02Copy.f k a0_0 a0_1 l0_2 l0_3 l0_4 l0_5 = some (r1, r2, r3, r4, r5, r6)) :
  Calls Try.prog 71 #[.pointer (some ⟨g0_, 0, none⟩)] w fun e w' => ∃ v2_ v3_ v4_ v5_ : Value, e = .returned (.agg #[.int .i64 r1, .int .i64 r2, v2_, v3_, v4_, v5_]) ∧ Kd.R Kd.bool 4 w' w.heap.size (fun _ => True) v2_ r3 ∧ Kd.S (Kd.slice 47 k47) 48 w' w.heap.size (fun _ => True) v3_ r4 ∧ Kd.R (Kd.slice 49 (Kd.slice 2 (Kd.int .i64))) 25 w' w.heap.size (fun k_ => some k_ ≠ (v5_ : Value).ownBlock) v4_ r5 ∧ Kd.S (Kd.slice 2 (Kd.int .i64)) 49 w' w.heap.size (fun _ => True) v5_ r6 ∧ Below w.heap.size w w' := by
 have hu27 := Try.underlying27
 have HR0_2 := AZ.mk hr0_2
 have HC0_2 := AZ.mk hc0_2
 clear hr0_2 hc0_2
 have HR0_3 := AZ.mk hr0_3
 have HC0_3 := AZ.mk hc0_3
 clear hr0_3 hc0_3
 have HR0_4 := AZ.mk hr0_4
 have HC0_4 := AZ.mk hc0_4
 clear hr0_4 hc0_4
 have HR0_5 := AZ.mk hr0_5
 have HC0_5 := AZ.mk hc0_5
 clear hr0_5 hc0_5
 have BK0 := AZ.mk hbk0_0
 clear hbk0_0
 have HB := AZ.mk (Below.refl w.heap.size w)
 have H : ((some (([] : List Bool) : List Bool)).bind fun y350 => (if y350.length + l0_2.length < 140737488355328 then (spec_l02Copy.l0 k 0 a0_0 a0_1 l0_2 l0_3 l0_4 l0_5 a0_0 a0_1 (y350 ++ l0_2) ([] : List (List (S47)))) else (none))) = some (r1, r2, r3, r4, r5, r6) := h
 clear h
 obtain ⟨y350, hy350⟩ : ∃ y_ : List Bool, y_ = (([] : List Bool)) := ⟨_, rfl⟩
 replace H : (if y350.length + l0_2.length < 140737488355328 then (spec_l02Copy.l0 k 0 a0_0 a0_1 l0_2 l0_3 l0_4 l0_5 a0_0 a0_1 (y350 ++ l0_2) ([] : List (List (S47)))) else (none)) = some (r1, r2, r3, r4, r5, r6) := by first | (rw [hy350]; with_reducible exact H) | (have H2_ := (Option.bind_some _ _).symm.trans H; rw [hy350]; with_reducible exact H2_) | (have H2_ := (Option.bind_some _ _).symm.trans H; with_reducible exact H2_) | with_reducible exact H | (rw [hy350]; exact H) | exact H
 have Ny350 := AZ.mk hy350
 clear hy350
 by_cases c2 : y350.length + l0_2.length < 140737488355328
 rotate_left
 ·rw [if_neg c2] at H
  exact absurd H (by simp)
 rw [if_pos c2] at H
 have LMc2 := AZ.mk c2
 clear c2
 obtain ⟨y353, hy353⟩ : ∃ y_ : List Bool, y_ = (y350 ++ l0_2) := ⟨_, rfl⟩
 replace H : (spec_l02Copy.l0 k 0 a0_0 a0_1 l0_2 l0_3 l0_4 l0_5 a0_0 a0_1 y353 ([] : List (List (S47)))) = some (r1, r2, r3, r4, r5, r6) := by first | (rw [hy353]; with_reducible exact H) | (have H2_ := (Option.bind_some _ _).symm.trans H; rw [hy353]; with_reducible exact H2_) | (have H2_ := (Option.bind_some _ _).symm.trans H; with_reducible exact H2_) | with_reducible exact H | (rw [hy353]; exact H) | exact H
 have Ny353 := AZ.mk hy353
 clear hy353
 have H' := AZ.mk H
 clear H
 go_enter Try.func71, Try.ntmps71
 try go_wp2_with (first | ((with_reducible refine gate_dst (N := 2) rfl ?_); refine box_event ?hg (N := 2) ?hd (cs := #[.int .i64 0, .int .i64 0, .slice none 0 0, .slice none 0 0, .slice none 0 0, .slice none 0 0]) (t := 27) ?hr ?_; (case hd => rfl); (case hg => rfl); (case hr => first | (go_simp; done) | (go_simp; rfl)); intro gb349 hg w3 hbox hb; have n0_ := AZ.mk (bb_ (g := g0_) (o := .cells #[.int .i64 a0_0, .int .i64 a0_1, .slice A0_2 l0_2.length c0_2, .slice A0_3 l0_3.length c0_3, .slice A0_4 l0_4.length c0_4, .slice A0_5 l0_5.length c0_5] 27 (0, 0)) (by (with_reducible repeat (first | refine bn_ ?_ _ | refine bd_ ?_ | refine ba_ ?_ _)); exact BK0.out) hb); have n1_ := AZ.mk (pT (by repeat (first | (with_reducible first | exact HB.out | apply pA | apply pN | apply pD | refine pS ?_ GE0.out) | exact HB.out)) hb); have n2_ := AZ.mk (hbox); have n3_ := AZ.mk ((by rw [hg]; exact (pZ (by repeat (first | (with_reducible first | exact HB.out | apply pA | apply pN | apply pD | refine pS ?_ GE0.out) | exact HB.out))) : w.heap.size ≤ gb349)); have n4_ := AZ.mk ((by rw [hg]; exact (pZ (by repeat (first | (with_reducible first | exact HB.out | apply pA | apply pN | apply pD | refine pS ?_ GE0.out) | exact HB.out))) : w.heap.size ≤ gb349)); have n5_ := AZ.mk ((by rw [hg]; exact Nat.ne_of_lt (blk_lt (g := g0_) (o := .cells #[.int .i64 a0_0, .int .i64 a0_1, .slice A0_2 l0_2.length c0_2, .slice A0_3 l0_3.length c0_3, .slice A0_4 l0_4.length c0_4, .slice A0_5 l0_5.length c0_5] 27 (0, 0)) (by (with_reducible repeat (first | refine bn_ ?_ _ | refine bd_ ?_ | refine ba_ ?_ _)); exact BK0.out)) : g0_ ≠ gb349)); have n6_ := AZ.mk ((by rw [hg]; exact Nat.ne_of_gt (blk_lt (g := g0_) (o := .cells #[.int .i64 a0_0, .int .i64 a0_1, .slice A0_2 l0_2.length c0_2, .slice A0_3 l0_3.length c0_3, .slice A0_4 l0_4.length c0_4, .slice A0_5 l0_5.length c0_5] 27 (0, 0)) (by (with_reducible repeat (first | refine bn_ ?_ _ | refine bd_ ?_ | refine ba_ ?_ _)); exact BK0.out)) : gb349 ≠ g0_)); clear BK0; clear HB; have BK0 := n0_; have HB := n1_; have BK349 := n2_; have GW349 := n3_; have GE349 := n4_; have NB0_349 := n5_; have NB349_0 := n6_; clear n0_ n1_ n2_ n3_ n4_ n5_ n6_; clear hb hbox hg))
 have n0_ := AZ.mk (bd_ BK0.out)
 have n1_ := AZ.mk (bd_ BK349.out)
 have n2_ := AZ.mk (pD HB.out)
 clear BK0
 clear BK349
 clear HB
 have BK0 := n0_
 have BK349 := n1_
 have HB := n2_
 clear n0_ n1_ n2_
 refine start_ (n := 17) (S := fun w' => w'.cell? ⟨g0_, 0, none⟩ = some (.int .i64 a0_0) ∧ w'.cell? ⟨g0_, 1, none⟩ = some (.int .i64 a0_1) ∧ w'.cell? ⟨g0_, 2, none⟩ = some (.slice A0_2 l0_2.length c0_2) ∧ w'.cell? ⟨g0_, 3, none⟩ = some (.slice A0_3 l0_3.length c0_3) ∧ w'.cell? ⟨g0_, 4, none⟩ = some (.slice A0_4 l0_4.length c0_4) ∧ w'.cell? ⟨g0_, 5, none⟩ = some (.slice A0_5 l0_5.length c0_5)) (ds := []) (bz 17 0) (by kernel_rfl) rfl rfl ⟨(bc BK0.out 0).trans rfl, (bc BK0.out 1).trans rfl, (bc BK0.out 2).trans rfl, (bc BK0.out 3).trans rfl, (bc BK0.out 4).trans rfl, (bc BK0.out 5).trans rfl⟩ (fun hHeld => ?_); refine with_tabW spec_l02Copy.tab1 spec_l02Copy.bits1 (fun HT_ HW_ => ?_)
 generalize w3.drew = w4 at BK0 BK349 HB hHeld ⊢
 iterate 12 (first | (refine pz_ HT_ spec_l02Copy.cz0 rfl rfl rfl (v := ?_) (a' := ?_) (by kernel_rfl) (fun _ _ _ h => h) (Or.inl ⟨by rfl, ?_⟩) ?_ ?_; rotate_left; (intro w'; go_simp; with_reducible rfl); rotate_left; (simp only [Act.put, sA, sB, sC, i64_w, i32_w]; rfl)) | (refine tz_ HT_ HW_ spec_l02Copy.cz0 rfl rfl rfl (v := ?_) (a' := ?_) (by kernel_rfl) (fun _ _ _ h => h) (Or.inl ⟨by rfl, ?_⟩) hHeld ?_ ?_; rotate_left; (rintro w' ⟨s0, s1, s2, s3, s4, s5⟩; go_simp; with_reducible rfl); rotate_left; (simp only [Act.put, sA, sB, sC, i64_w, i32_w]; rfl)))
 refine join_ (σ := Value × Value × Nat) 1 (bz 17 65535) (fun s_ => [(17, s_.1), (22, s_.2.1), (3, .pointer (some ⟨s_.2.2, 0, none⟩)), (23, .agg #[.int .i64 a0_0, .int .i64 a0_1, s_.2.1, .slice none 0 0, .slice none 0 0, .slice none 0 0])]) (fun s_ w' => (w'.cell? ⟨g0_, 0, none⟩ = some (.int .i64 a0_0) ∧ w'.cell? ⟨g0_, 1, none⟩ = some (.int .i64 a0_1) ∧ w'.cell? ⟨g0_, 2, none⟩ = some (.slice A0_2 l0_2.length c0_2) ∧ w'.cell? ⟨g0_, 3, none⟩ = some (.slice A0_3 l0_3.length c0_3) ∧ w'.cell? ⟨g0_, 4, none⟩ = some (.slice A0_4 l0_4.length c0_4) ∧ w'.cell? ⟨g0_, 5, none⟩ = some (.slice A0_5 l0_5.length c0_5)) ∧ (Kd.R Kd.bool 4 w' w.heap.size (fun _ => True) s_.2.1 y353) ∧ (w'.heap[g0_]? = some (.cells #[.int .i64 a0_0, .int .i64 a0_1, .slice A0_2 l0_2.length c0_2, .slice A0_3 l0_3.length c0_3, .slice A0_4 l0_4.length c0_4, .slice A0_5 l0_5.length c0_5] 27 (0, 0))) ∧ (w'.heap[gb349]? = some (.cells #[.int .i64 0, .int .i64 0, .slice none 0 0, .slice none 0 0, .slice none 0 0, .slice none 0 0] 27 (0, 0))) ∧ (w'.heap[s_.2.2]? = some (.cells #[.int .i64 0, .int .i64 0, .slice none 0 0, .slice none 0 0, .slice none 0 0, .slice none 0 0] 27 (0, 0))) ∧ (w.heap.size ≤ s_.2.2) ∧ (w.heap.size ≤ s_.2.2) ∧ (g0_ ≠ s_.2.2) ∧ (s_.2.2 ≠ g0_) ∧ (gb349 ≠ s_.2.2) ∧ (s_.2.2 ≠ gb349) ∧ (Below w.heap.size w w')) ?_ ?_
 rotate_left
 ·intro hCont
  refine two_ (i := 8) (j := 15) (Ni := some 17) (Nj := some 3) (bz 17 8191) (bz 17 40703) rfl rfl rfl rfl (two_of HT_.out (by kernel_rfl)) (by decide) (by decide) (fun K hK => ?_) (fun K hK => ?_)
  ·skip
   refine Kd.R_lit_step Kd.bool _ 4 ?hg (N := 17) ?hd (xs := ([] : List Bool)) (inner := []) (ok := fun _ => True) (okp := fun _ => True) ?hr ?hp (fun _ hk => hk) trivial (Below.refl _ _) (Nat.le_refl _) (by simp) ?_; (case hd => rfl); (case hg => rfl); (case hr => first | (go_simp; done) | (go_simp; rfl)); (case hp => exact (Reps.none _ _))
   intro v351 w5 ho6 hb hg_ hnew_
   clear hg_ hnew_
   (first | rw [← Ny350.out] at ho6 | (simp only [Int.reduceToNat] at ho6; rw [← Ny350.out] at ho6))
   have n0_ := AZ.mk (Kd.R_lower ho6 (pZ (by repeat (first | (with_reducible first | exact HB.out | apply pA | apply pN | apply pD | refine pS ?_ GE0.out | refine pS ?_ GE349.out) | exact HB.out))))
   have n1_ := AZ.mk (bb_ (g := g0_) (o := .cells #[.int .i64 a0_0, .int .i64 a0_1, .slice A0_2 l0_2.length c0_2, .slice A0_3 l0_3.length c0_3, .slice A0_4 l0_4.length c0_4, .slice A0_5 l0_5.length c0_5] 27 (0, 0)) (by (with_reducible repeat (first | refine bn_ ?_ _ | refine bd_ ?_ | refine ba_ ?_ _)); exact BK0.out) hb)
   have n2_ := AZ.mk (bb_ (g := gb349) (o := .cells #[.int .i64 0, .int .i64 0, .slice none 0 0, .slice none 0 0, .slice none 0 0, .slice none 0 0] 27 (0, 0)) (by (with_reducible repeat (first | refine bn_ ?_ _ | refine bd_ ?_ | refine ba_ ?_ _)); exact BK349.out) hb)
   have n3_ := AZ.mk (pT (by repeat (first | (with_reducible first | exact HB.out | apply pA | apply pN | apply pD | refine pS ?_ GE0.out | refine pS ?_ GE349.out) | exact HB.out)) hb)
   clear BK0
   clear BK349
   clear HB
   have HO352 := n0_
   have BK0 := n1_
   have BK349 := n2_
   have HB := n3_
   clear n0_ n1_ n2_ n3_
   clear hb ho6
   refine hK.out _ _ ⟨(bc BK0.out 0).trans rfl, (bc BK0.out 1).trans rfl, (bc BK0.out 2).trans rfl, (bc BK0.out 3).trans rfl, (bc BK0.out 4).trans rfl, (bc BK0.out 5).trans rfl⟩ (fun hHeld => ?_)
   clear hK K
   refine norm_ (a' := ?_) ?_ ?_
   rotate_left
   ·show Act.put _ (some 17) _ = _
    simp only [Act.put, sA, sB, sC, i64_w, i32_w]
    rfl
   refine two_ (i := 13) (j := 15) (Ni := some 22) (Nj := some 3) (bz 17 16383) (bz 17 40959) rfl rfl rfl rfl (two_of HT_.out (by kernel_rfl)) (by decide) (by decide) (fun K hK => ?_) (fun K hK => ?_)
   ·skip
    refine Kd.R_append_rows_step Kd.bool (w0 := w) w.heap.size (by rfl) (.tmp 17) (.tmp 21) 22 4 (.bool false) 1 rfl Try.underlying22 info4 rfl (by decide) (by omega) v351 y350 l0_2 _ _ _ (fun _ => True) (fun _ => False) rfl rfl ?aO ?aR (fun _ _ h => h) (fun _ h => h.elim) ?aF ?aB ?aS ?aL ?_
    (case aR => repeat (first | exact (Kd.C_below HR0_2.out HB.out) | (with_reducible refine Kd.C_alloc ?_ _) | (with_reducible refine Kd.C_drewN ?_ _) | (with_reducible refine Kd.C_drew ?_)))
    (case aB => exact (by repeat (first | (with_reducible first | exact HB.out | apply pA | apply pN | apply pD | refine pS ?_ GE0.out | refine pS ?_ GE349.out) | exact HB.out)))
    (case aF => exact (fun _ _ => trivial))
    (case aO => exact (by (with_reducible repeat (first | apply Kd.R_alloc | apply Kd.R_drewN | apply Kd.R_drew)); exact HO352.out))
    (case aS => exact (pZ (by repeat (first | (with_reducible first | exact HB.out | apply pA | apply pN | apply pD | refine pS ?_ GE0.out | refine pS ?_ GE349.out) | exact HB.out))))
    (case aL => have := LMc2.out; omega)
    intro v354 w7 ho hb hg hat
    rw [← Ny353.out] at ho
    have n0_ := AZ.mk (blk_grown (g := g0_) (o := .cells #[.int .i64 a0_0, .int .i64 a0_1, .slice A0_2 l0_2.length c0_2, .slice A0_3 l0_3.length c0_3, .slice A0_4 l0_4.length c0_4, .slice A0_5 l0_5.length c0_5] 27 (0, 0)) (by (with_reducible repeat (first | refine bn_ ?_ _ | refine bd_ ?_ | refine ba_ ?_ _)); exact BK0.out) hg (Kd.R_ne HO352.out BK0.out (by decide)))
    have n1_ := AZ.mk (blk_grown (g := gb349) (o := .cells #[.int .i64 0, .int .i64 0, .slice none 0 0, .slice none 0 0, .slice none 0 0, .slice none 0 0] 27 (0, 0)) (by (with_reducible repeat (first | refine bn_ ?_ _ | refine bd_ ?_ | refine ba_ ?_ _)); exact BK349.out) hg (Kd.R_ne HO352.out BK349.out (by decide)))
    have n2_ := AZ.mk (hb)
    have n3_ := AZ.mk (ho)
    clear BK0
    clear BK349
    clear HB
    clear HO352
    have BK0 := n0_
    have BK349 := n1_
    have HB := n2_
    have HO355 := n3_
    clear n0_ n1_ n2_ n3_
    clear ho hb hg hat
    obtain ⟨Ao8, co8, eo8⟩ := Kd.R_slice HO355.out
    (first | subst eo8 | (injection eo8 with f1_ f2_ f3_; have f4_ := f1_.symm; have f5_ := f3_.symm; clear f1_ f2_ f3_; subst f4_; subst f5_))
    refine hK.out _ _ ⟨(bc BK0.out 0).trans rfl, (bc BK0.out 1).trans rfl, (bc BK0.out 2).trans rfl, (bc BK0.out 3).trans rfl, (bc BK0.out 4).trans rfl, (bc BK0.out 5).trans rfl⟩ (fun hHeld => ?_)
    clear hK K
    refine norm_ (a' := ?_) ?_ ?_
    rotate_left
    ·show Act.put _ (some 22) _ = _
     simp only [Act.put, sA, sB, sC, i64_w, i32_w]
     rfl
    refine pure_ (i := 14) (N := some 23) (v := ?_) (a' := ?_) (bz 17 32767) rfl rfl (any_of HT_.out (by kernel_rfl)) (fun _ _ _ h => h) (Or.inl ⟨by rfl, ?_⟩) ?_ ?_
    rotate_left
    ·intro w'
     go_simp
     with_reducible rfl
    rotate_left
    ·simp only [Act.put, sA, sB, sC, i64_w, i32_w]
     rfl
    refine one_ (i := 15) (N := some 3) (bz 17 65535) rfl rfl (one_of HT_.out (by kernel_rfl)) (by decide) (fun K hK => ?_)
    refine box_step ?hg (N := 3) ?hd (cs := #[.int .i64 0, .int .i64 0, .slice none 0 0, .slice none 0 0, .slice none 0 0, .slice none 0 0]) (t := 27) ?hr ?_; (case hd => rfl); (case hg => rfl); (case hr => first | (go_simp; done) | (go_simp; rfl))
    intro gb356 hg w9 hbox hb
    have n0_ := AZ.mk (Kd.R_below (by (with_reducible repeat (first | apply Kd.R_alloc | apply Kd.R_drewN | apply Kd.R_drew)); exact HO355.out) hb)
    have n1_ := AZ.mk (bb_ (g := g0_) (o := .cells #[.int .i64 a0_0, .int .i64 a0_1, .slice A0_2 l0_2.length c0_2, .slice A0_3 l0_3.length c0_3, .slice A0_4 l0_4.length c0_4, .slice A0_5 l0_5.length c0_5] 27 (0, 0)) (by (with_reducible repeat (first | refine bn_ ?_ _ | refine bd_ ?_ | refine ba_ ?_ _)); exact BK0.out) hb)
    have n2_ := AZ.mk (bb_ (g := gb349) (o := .cells #[.int .i64 0, .int .i64 0, .slice none 0 0, .slice none 0 0, .slice none 0 0, .slice none 0 0] 27 (0, 0)) (by (with_reducible repeat (first | refine bn_ ?_ _ | refine bd_ ?_ | refine ba_ ?_ _)); exact BK349.out) hb)
    have n3_ := AZ.mk (pT (by repeat (first | (with_reducible first | exact HB.out | apply pA | apply pN | apply pD | refine pS ?_ GE0.out | refine pS ?_ GE349.out) | exact HB.out)) hb)
    have n4_ := AZ.mk (hbox)
    have n5_ := AZ.mk ((by rw [hg]; exact (pZ (by repeat (first | (with_reducible first | exact HB.out | apply pA | apply pN | apply pD | refine pS ?_ GE0.out | refine pS ?_ GE349.out) | exact HB.out))) : w.heap.size ≤ gb356))
    have n6_ := AZ.mk ((by rw [hg]; exact (pZ (by repeat (first | (with_reducible first | exact HB.out | apply pA | apply pN | apply pD | refine pS ?_ GE0.out | refine pS ?_ GE349.out) | exact HB.out))) : w.heap.size ≤ gb356))
    have n7_ := AZ.mk ((by rw [hg]; exact Nat.ne_of_lt (blk_lt (g := g0_) (o := .cells #[.int .i64 a0_0, .int .i64 a0_1, .slice A0_2 l0_2.length c0_2, .slice A0_3 l0_3.length c0_3, .slice A0_4 l0_4.length c0_4, .slice A0_5 l0_5.length c0_5] 27 (0, 0)) (by (with_reducible repeat (first | refine bn_ ?_ _ | refine bd_ ?_ | refine ba_ ?_ _)); exact BK0.out)) : g0_ ≠ gb356))
    have n8_ := AZ.mk ((by rw [hg]; exact Nat.ne_of_gt (blk_lt (g := g0_) (o := .cells #[.int .i64 a0_0, .int .i64 a0_1, .slice A0_2 l0_2.length c0_2, .slice A0_3 l0_3.length c0_3, .slice A0_4 l0_4.length c0_4, .slice A0_5 l0_5.length c0_5] 27 (0, 0)) (by (with_reducible repeat (first | refine bn_ ?_ _ | refine bd_ ?_ | refine ba_ ?_ _)); exact BK0.out)) : gb356 ≠ g0_))
    have n9_ := AZ.mk ((by rw [hg]; exact Nat.ne_of_lt (blk_lt (g := gb349) (o := .cells #[.int .i64 0, .int .i64 0, .slice none 0 0, .slice none 0 0, .slice none 0 0, .slice none 0 0] 27 (0, 0)) (by (with_reducible repeat (first | refine bn_ ?_ _ | refine bd_ ?_ | refine ba_ ?_ _)); exact BK349.out)) : gb349 ≠ gb356))
    have n10_ := AZ.mk ((by rw [hg]; exact Nat.ne_of_gt (blk_lt (g := gb349) (o := .cells #[.int .i64 0, .int .i64 0, .slice none 0 0, .slice none 0 0, .slice none 0 0, .slice none 0 0] 27 (0, 0)) (by (with_reducible repeat (first | refine bn_ ?_ _ | refine bd_ ?_ | refine ba_ ?_ _)); exact BK349.out)) : gb356 ≠ gb349))
    clear HO355
    clear BK0
    clear BK349
    clear HB
    have HO355 := n0_
    have BK0 := n1_
    have BK349 := n2_
    have HB := n3_
    have BK356 := n4_
    have GW356 := n5_
    have GE356 := n6_
    have NB0_356 := n7_
    have NB356_0 := n8_
    have NB349_356 := n9_
    have NB356_349 := n10_
    clear n0_ n1_ n2_ n3_ n4_ n5_ n6_ n7_ n8_ n9_ n10_
    clear hb hbox hg
    refine hK.out _ _ ⟨(bc BK0.out 0).trans rfl, (bc BK0.out 1).trans rfl, (bc BK0.out 2).trans rfl, (bc BK0.out 3).trans rfl, (bc BK0.out 4).trans rfl, (bc BK0.out 5).trans rfl⟩ (fun hHeld => ?_)
    clear hK K
    refine norm_ (a' := ?_) ?_ ?_
    rotate_left
    ·show Act.put _ (some 3) _ = _
     simp only [Act.put, sA, sB, sC, i64_w, i32_w]
     rfl
    exact norm_ (by simp only [putAll, Act.put, sA, sB, sC]) (hCont (v351, .slice Ao8 y353.length co8, gb356) _ ⟨hHeld, (by (with_reducible repeat (first | apply Kd.R_alloc | apply Kd.R_drewN | apply Kd.R_drew)); exact HO355.out), (by (with_reducible repeat (first | refine bn_ ?_ _ | refine bd_ ?_ | refine ba_ ?_ _)); exact BK0.out), (by (with_reducible repeat (first | refine bn_ ?_ _ | refine bd_ ?_ | refine ba_ ?_ _)); exact BK349.out), (by (with_reducible repeat (first | refine bn_ ?_ _ | refine bd_ ?_ | refine ba_ ?_ _)); exact BK356.out), GW356.out, GE356.out, NB0_356.out, NB356_0.out, NB349_356.out, NB356_349.out, (by repeat (first | (with_reducible first | exact HB.out | apply pA | apply pN | apply pD | refine pS ?_ GE0.out | refine pS ?_ GE349.out | refine pS ?_ GE356.out) | exact HB.out))⟩)
   ·skip
    refine box_step ?hg (N := 3) ?hd (cs := #[.int .i64 0, .int .i64 0, .slice none 0 0, .slice none 0 0, .slice none 0 0, .slice none 0 0]) (t := 27) ?hr ?_; (case hd => rfl); (case hg => rfl); (case hr => first | (go_simp; done) | (go_simp; rfl))
    intro gb356 hg w7 hbox hb
    have n0_ := AZ.mk (Kd.R_below (by (with_reducible repeat (first | apply Kd.R_alloc | apply Kd.R_drewN | apply Kd.R_drew)); exact HO352.out) hb)
    have n1_ := AZ.mk (bb_ (g := g0_) (o := .cells #[.int .i64 a0_0, .int .i64 a0_1, .slice A0_2 l0_2.length c0_2, .slice A0_3 l0_3.length c0_3, .slice A0_4 l0_4.length c0_4, .slice A0_5 l0_5.length c0_5] 27 (0, 0)) (by (with_reducible repeat (first | refine bn_ ?_ _ | refine bd_ ?_ | refine ba_ ?_ _)); exact BK0.out) hb)
    have n2_ := AZ.mk (bb_ (g := gb349) (o := .cells #[.int .i64 0, .int .i64 0, .slice none 0 0, .slice none 0 0, .slice none 0 0, .slice none 0 0] 27 (0, 0)) (by (with_reducible repeat (first | refine bn_ ?_ _ | refine bd_ ?_ | refine ba_ ?_ _)); exact BK349.out) hb)
    have n3_ := AZ.mk (pT (by repeat (first | (with_reducible first | exact HB.out | apply pA | apply pN | apply pD | refine pS ?_ GE0.out | refine pS ?_ GE349.out) | exact HB.out)) hb)
    have n4_ := AZ.mk (hbox)
    have n5_ := AZ.mk ((by rw [hg]; exact (pZ (by repeat (first | (with_reducible first | exact HB.out | apply pA | apply pN | apply pD | refine pS ?_ GE0.out | refine pS ?_ GE349.out) | exact HB.out))) : w.heap.size ≤ gb356))
    have n6_ := AZ.mk ((by rw [hg]; exact (pZ (by repeat (first | (with_reducible first | exact HB.out | apply pA | apply pN | apply pD | refine pS ?_ GE0.out | refine pS ?_ GE349.out) | exact HB.out))) : w.heap.size ≤ gb356))
    have n7_ := AZ.mk ((by rw [hg]; exact Nat.ne_of_lt (blk_lt (g := g0_) (o := .cells #[.int .i64 a0_0, .int .i64 a0_1, .slice A0_2 l0_2.length c0_2, .slice A0_3 l0_3.length c0_3, .slice A0_4 l0_4.length c0_4, .slice A0_5 l0_5.length c0_5] 27 (0, 0)) (by (with_reducible repeat (first | refine bn_ ?_ _ | refine bd_ ?_ | refine ba_ ?_ _)); exact BK0.out)) : g0_ ≠ gb356))
    have n8_ := AZ.mk ((by rw [hg]; exact Nat.ne_of_gt (blk_lt (g := g0_) (o := .cells #[.int .i64 a0_0, .int .i64 a0_1, .slice A0_2 l0_2.length c0_2, .slice A0_3 l0_3.length c0_3, .slice A0_4 l0_4.length c0_4, .slice A0_5 l0_5.length c0_5] 27 (0, 0)) (by (with_reducible repeat (first | refine bn_ ?_ _ | refine bd_ ?_ | refine ba_ ?_ _)); exact BK0.out)) : gb356 ≠ g0_))
    have n9_ := AZ.mk ((by rw [hg]; exact Nat.ne_of_lt (blk_lt (g := gb349) (o := .cells #[.int .i64 0, .int .i64 0, .slice none 0 0, .slice none 0 0, .slice none 0 0, .slice none 0 0] 27 (0, 0)) (by (with_reducible repeat (first | refine bn_ ?_ _ | refine bd_ ?_ | refine ba_ ?_ _)); exact BK349.out)) : gb349 ≠ gb356))
    have n10_ := AZ.mk ((by rw [hg]; exact Nat.ne_of_gt (blk_lt (g := gb349) (o := .cells #[.int .i64 0, .int .i64 0, .slice none 0 0, .slice none 0 0, .slice none 0 0, .slice none 0 0] 27 (0, 0)) (by (with_reducible repeat (first | refine bn_ ?_ _ | refine bd_ ?_ | refine ba_ ?_ _)); exact BK349.out)) : gb356 ≠ gb349))
    clear HO352
    clear BK0
    clear BK349
    clear HB
    have HO352 := n0_
    have BK0 := n1_
    have BK349 := n2_
    have HB := n3_
    have BK356 := n4_
    have GW356 := n5_
    have GE356 := n6_
    have NB0_356 := n7_
    have NB356_0 := n8_
    have NB349_356 := n9_
    have NB356_349 := n10_
    clear n0_ n1_ n2_ n3_ n4_ n5_ n6_ n7_ n8_ n9_ n10_
    clear hb hbox hg
    refine hK.out _ _ ⟨(bc BK0.out 0).trans rfl, (bc BK0.out 1).trans rfl, (bc BK0.out 2).trans rfl, (bc BK0.out 3).trans rfl, (bc BK0.out 4).trans rfl, (bc BK0.out 5).trans rfl⟩ (fun hHeld => ?_)
    clear hK K
    refine norm_ (a' := ?_) ?_ ?_
    rotate_left
    ·show Act.put _ (some 3) _ = _
     simp only [Act.put, sA, sB, sC, i64_w, i32_w]
     rfl
    refine one_ (i := 13) (N := some 22) (bz 17 49151) rfl rfl (one_of HT_.out (by kernel_rfl)) (by decide) (fun K hK => ?_)
    refine Kd.R_append_rows_step Kd.bool (w0 := w) w.heap.size (by rfl) (.tmp 17) (.tmp 21) 22 4 (.bool false) 1 rfl Try.underlying22 info4 rfl (by decide) (by omega) v351 y350 l0_2 _ _ _ (fun _ => True) (fun _ => False) rfl rfl ?aO ?aR (fun _ _ h => h) (fun _ h => h.elim) ?aF ?aB ?aS ?aL ?_
    (case aR => repeat (first | exact (Kd.C_below HR0_2.out HB.out) | (with_reducible refine Kd.C_alloc ?_ _) | (with_reducible refine Kd.C_drewN ?_ _) | (with_reducible refine Kd.C_drew ?_)))
    (case aB => exact (by repeat (first | (with_reducible first | exact HB.out | apply pA | apply pN | apply pD | refine pS ?_ GE0.out | refine pS ?_ GE349.out | refine pS ?_ GE356.out) | exact HB.out)))
    (case aF => exact (fun _ _ => trivial))
    (case aO => exact (by (with_reducible repeat (first | apply Kd.R_alloc | apply Kd.R_drewN | apply Kd.R_drew)); exact HO352.out))
    (case aS => exact (pZ (by repeat (first | (with_reducible first | exact HB.out | apply pA | apply pN | apply pD | refine pS ?_ GE0.out | refine pS ?_ GE349.out | refine pS ?_ GE356.out) | exact HB.out))))
    (case aL => have := LMc2.out; omega)
    intro v354 w8 ho hb hg hat
    rw [← Ny353.out] at ho
    have n0_ := AZ.mk (blk_grown (g := g0_) (o := .cells #[.int .i64 a0_0, .int .i64 a0_1, .slice A0_2 l0_2.length c0_2, .slice A0_3 l0_3.length c0_3, .slice A0_4 l0_4.length c0_4, .slice A0_5 l0_5.length c0_5] 27 (0, 0)) (by (with_reducible repeat (first | refine bn_ ?_ _ | refine bd_ ?_ | refine ba_ ?_ _)); exact BK0.out) hg (Kd.R_ne HO352.out BK0.out (by decide)))
    have n1_ := AZ.mk (blk_grown (g := gb349) (o := .cells #[.int .i64 0, .int .i64 0, .slice none 0 0, .slice none 0 0, .slice none 0 0, .slice none 0 0] 27 (0, 0)) (by (with_reducible repeat (first | refine bn_ ?_ _ | refine bd_ ?_ | refine ba_ ?_ _)); exact BK349.out) hg (Kd.R_ne HO352.out BK349.out (by decide)))
    have n2_ := AZ.mk (blk_grown (g := gb356) (o := .cells #[.int .i64 0, .int .i64 0, .slice none 0 0, .slice none 0 0, .slice none 0 0, .slice none 0 0] 27 (0, 0)) (by (with_reducible repeat (first | refine bn_ ?_ _ | refine bd_ ?_ | refine ba_ ?_ _)); exact BK356.out) hg (Kd.R_ne HO352.out BK356.out (by decide)))
    have n3_ := AZ.mk (hb)
    have n4_ := AZ.mk (ho)
    clear BK0
    clear BK349
    clear BK356
    clear HB
    clear HO352
    have BK0 := n0_
    have BK349 := n1_
    have BK356 := n2_
    have HB := n3_
    have HO355 := n4_
    clear n0_ n1_ n2_ n3_ n4_
    clear ho hb hg hat
    obtain ⟨Ao9, co9, eo9⟩ := Kd.R_slice HO355.out
    (first | subst eo9 | (injection eo9 with f1_ f2_ f3_; have f4_ := f1_.symm; have f5_ := f3_.symm; clear f1_ f2_ f3_; subst f4_; subst f5_))
    refine hK.out _ _ ⟨(bc BK0.out 0).trans rfl, (bc BK0.out 1).trans rfl, (bc BK0.out 2).trans rfl, (bc BK0.out 3).trans rfl, (bc BK0.out 4).trans rfl, (bc BK0.out 5).trans rfl⟩ (fun hHeld => ?_)
    clear hK K
    refine norm_ (a' := ?_) ?_ ?_
    rotate_left
    ·show Act.put _ (some 22) _ = _
     simp only [Act.put, sA, sB, sC, i64_w, i32_w]
     rfl
    refine pure_ (i := 14) (N := some 23) (v := ?_) (a' := ?_) (bz 17 65535) rfl rfl (any_of HT_.out (by kernel_rfl)) (fun _ _ _ h => h) (Or.inl ⟨by rfl, ?_⟩) ?_ ?_
    rotate_left
    ·intro w'
     go_simp
     with_reducible rfl
    rotate_left
    ·simp only [Act.put, sA, sB, sC, i64_w, i32_w]
     rfl
    exact norm_ (by simp only [putAll, Act.put, sA, sB, sC]) (hCont (v351, .slice Ao9 y353.length co9, gb356) _ ⟨hHeld, (by (with_reducible repeat (first | apply Kd.R_alloc | apply Kd.R_drewN | apply Kd.R_drew)); exact HO355.out), (by (with_reducible repeat (first | refine bn_ ?_ _ | refine bd_ ?_ | refine ba_ ?_ _)); exact BK0.out), (by (with_reducible repeat (first | refine bn_ ?_ _ | refine bd_ ?_ | refine ba_ ?_ _)); exact BK349.out), (by (with_reducible repeat (first | refine bn_ ?_ _ | refine bd_ ?_ | refine ba_ ?_ _)); exact BK356.out), GW356.out, GE356.out, NB0_356.out, NB356_0.out, NB349_356.out, NB356_349.out, (by repeat (first | (with_reducible first | exact HB.out | apply pA | apply pN | apply pD | refine pS ?_ GE0.out | refine pS ?_ GE349.out | refine pS ?_ GE356.out) | exact HB.out))⟩)
  ·skip
   refine box_step ?hg (N := 3) ?hd (cs := #[.int .i64 0, .int .i64 0, .slice none 0 0, .slice none 0 0, .slice none 0 0, .slice none 0 0]) (t := 27) ?hr ?_; (case hd => rfl); (case hg => rfl); (case hr => first | (go_simp; done) | (go_simp; rfl))
   intro gb356 hg w5 hbox hb
   have n0_ := AZ.mk (bb_ (g := g0_) (o := .cells #[.int .i64 a0_0, .int .i64 a0_1, .slice A0_2 l0_2.length c0_2, .slice A0_3 l0_3.length c0_3, .slice A0_4 l0_4.length c0_4, .slice A0_5 l0_5.length c0_5] 27 (0, 0)) (by (with_reducible repeat (first | refine bn_ ?_ _ | refine bd_ ?_ | refine ba_ ?_ _)); exact BK0.out) hb)
   have n1_ := AZ.mk (bb_ (g := gb349) (o := .cells #[.int .i64 0, .int .i64 0, .slice none 0 0, .slice none 0 0, .slice none 0 0, .slice none 0 0] 27 (0, 0)) (by (with_reducible repeat (first | refine bn_ ?_ _ | refine bd_ ?_ | refine ba_ ?_ _)); exact BK349.out) hb)
   have n2_ := AZ.mk (pT (by repeat (first | (with_reducible first | exact HB.out | apply pA | apply pN | apply pD | refine pS ?_ GE0.out | refine pS ?_ GE349.out) | exact HB.out)) hb)
   have n3_ := AZ.mk (hbox)
   have n4_ := AZ.mk ((by rw [hg]; exact (pZ (by repeat (first | (with_reducible first | exact HB.out | apply pA | apply pN | apply pD | refine pS ?_ GE0.out | refine pS ?_ GE349.out) | exact HB.out))) : w.heap.size ≤ gb356))
   have n5_ := AZ.mk ((by rw [hg]; exact (pZ (by repeat (first | (with_reducible first | exact HB.out | apply pA | apply pN | apply pD | refine pS ?_ GE0.out | refine pS ?_ GE349.out) | exact HB.out))) : w.heap.size ≤ gb356))
   have n6_ := AZ.mk ((by rw [hg]; exact Nat.ne_of_lt (blk_lt (g := g0_) (o := .cells #[.int .i64 a0_0, .int .i64 a0_1, .slice A0_2 l0_2.length c0_2, .slice A0_3 l0_3.length c0_3, .slice A0_4 l0_4.length c0_4, .slice A0_5 l0_5.length c0_5] 27 (0, 0)) (by (with_reducible repeat (first | refine bn_ ?_ _ | refine bd_ ?_ | refine ba_ ?_ _)); exact BK0.out)) : g0_ ≠ gb356))
   have n7_ := AZ.mk ((by rw [hg]; exact Nat.ne_of_gt (blk_lt (g := g0_) (o := .cells #[.int .i64 a0_0, .int .i64 a0_1, .slice A0_2 l0_2.length c0_2, .slice A0_3 l0_3.length c0_3, .slice A0_4 l0_4.length c0_4, .slice A0_5 l0_5.length c0_5] 27 (0, 0)) (by (with_reducible repeat (first | refine bn_ ?_ _ | refine bd_ ?_ | refine ba_ ?_ _)); exact BK0.out)) : gb356 ≠ g0_))
   have n8_ := AZ.mk ((by rw [hg]; exact Nat.ne_of_lt (blk_lt (g := gb349) (o := .cells #[.int .i64 0, .int .i64 0, .slice none 0 0, .slice none 0 0, .slice none 0 0, .slice none 0 0] 27 (0, 0)) (by (with_reducible repeat (first | refine bn_ ?_ _ | refine bd_ ?_ | refine ba_ ?_ _)); exact BK349.out)) : gb349 ≠ gb356))
   have n9_ := AZ.mk ((by rw [hg]; exact Nat.ne_of_gt (blk_lt (g := gb349) (o := .cells #[.int .i64 0, .int .i64 0, .slice none 0 0, .slice none 0 0, .slice none 0 0, .slice none 0 0] 27 (0, 0)) (by (with_reducible repeat (first | refine bn_ ?_ _ | refine bd_ ?_ | refine ba_ ?_ _)); exact BK349.out)) : gb356 ≠ gb349))
   clear BK0
   clear BK349
   clear HB
   have BK0 := n0_
   have BK349 := n1_
   have HB := n2_
   have BK356 := n3_
   have GW356 := n4_
   have GE356 := n5_
   have NB0_356 := n6_
   have NB356_0 := n7_
   have NB349_356 := n8_
   have NB356_349 := n9_
   clear n0_ n1_ n2_ n3_ n4_ n5_ n6_ n7_ n8_ n9_
   clear hb hbox hg
   refine hK.out _ _ ⟨(bc BK0.out 0).trans rfl, (bc BK0.out 1).trans rfl, (bc BK0.out 2).trans rfl, (bc BK0.out 3).trans rfl, (bc BK0.out 4).trans rfl, (bc BK0.out 5).trans rfl⟩ (fun hHeld => ?_)
   clear hK K
   refine norm_ (a' := ?_) ?_ ?_
   rotate_left
   ·show Act.put _ (some 3) _ = _
    simp only [Act.put, sA, sB, sC, i64_w, i32_w]
    rfl
   refine one_ (i := 8) (N := some 17) (bz 17 40959) rfl rfl (one_of HT_.out (by kernel_rfl)) (by decide) (fun K hK => ?_)
   refine Kd.R_lit_step Kd.bool _ 4 ?hg (N := 17) ?hd (xs := ([] : List Bool)) (inner := []) (ok := fun _ => True) (okp := fun _ => True) ?hr ?hp (fun _ hk => hk) trivial (Below.refl _ _) (Nat.le_refl _) (by simp) ?_; (case hd => rfl); (case hg => rfl); (case hr => first | (go_simp; done) | (go_simp; rfl)); (case hp => exact (Reps.none _ _))
   intro v351 w6 ho7 hb hg_ hnew_
   clear hg_ hnew_
   (first | rw [← Ny350.out] at ho7 | (simp only [Int.reduceToNat] at ho7; rw [← Ny350.out] at ho7))
   have n0_ := AZ.mk (Kd.R_lower ho7 (pZ (by repeat (first | (with_reducible first | exact HB.out | apply pA | apply pN | apply pD | refine pS ?_ GE0.out | refine pS ?_ GE349.out | refine pS ?_ GE356.out) | exact HB.out))))
   have n1_ := AZ.mk (bb_ (g := g0_) (o := .cells #[.int .i64 a0_0, .int .i64 a0_1, .slice A0_2 l0_2.length c0_2, .slice A0_3 l0_3.length c0_3, .slice A0_4 l0_4.length c0_4, .slice A0_5 l0_5.length c0_5] 27 (0, 0)) (by (with_reducible repeat (first | refine bn_ ?_ _ | refine bd_ ?_ | refine ba_ ?_ _)); exact BK0.out) hb)
   have n2_ := AZ.mk (bb_ (g := gb349) (o := .cells #[.int .i64 0, .int .i64 0, .slice none 0 0, .slice none 0 0, .slice none 0 0, .slice none 0 0] 27 (0, 0)) (by (with_reducible repeat (first | refine bn_ ?_ _ | refine bd_ ?_ | refine ba_ ?_ _)); exact BK349.out) hb)
   have n3_ := AZ.mk (bb_ (g := gb356) (o := .cells #[.int .i64 0, .int .i64 0, .slice none 0 0, .slice none 0 0, .slice none 0 0, .slice none 0 0] 27 (0, 0)) (by (with_reducible repeat (first | refine bn_ ?_ _ | refine bd_ ?_ | refine ba_ ?_ _)); exact BK356.out) hb)
   have n4_ := AZ.mk (pT (by repeat (first | (with_reducible first | exact HB.out | apply pA | apply pN | apply pD | refine pS ?_ GE0.out | refine pS ?_ GE349.out | refine pS ?_ GE356.out) | exact HB.out)) hb)
   clear BK0
   clear BK349
   clear BK356
   clear HB
   have HO352 := n0_
   have BK0 := n1_
   have BK349 := n2_
   have BK356 := n3_
   have HB := n4_
   clear n0_ n1_ n2_ n3_ n4_
   clear hb ho7
   refine hK.out _ _ ⟨(bc BK0.out 0).trans rfl, (bc BK0.out 1).trans rfl, (bc BK0.out 2).trans rfl, (bc BK0.out 3).trans rfl, (bc BK0.out 4).trans rfl, (bc BK0.out 5).trans rfl⟩ (fun hHeld => ?_)
   clear hK K
   refine norm_ (a' := ?_) ?_ ?_
   rotate_left
   ·show Act.put _ (some 17) _ = _
    simp only [Act.put, sA, sB, sC, i64_w, i32_w]
    rfl
   refine one_ (i := 13) (N := some 22) (bz 17 49151) rfl rfl (one_of HT_.out (by kernel_rfl)) (by decide) (fun K hK => ?_)
   refine Kd.R_append_rows_step Kd.bool (w0 := w) w.heap.size (by rfl) (.tmp 17) (.tmp 21) 22 4 (.bool false) 1 rfl Try.underlying22 info4 rfl (by decide) (by omega) v351 y350 l0_2 _ _ _ (fun _ => True) (fun _ => False) rfl rfl ?aO ?aR (fun _ _ h => h) (fun _ h => h.elim) ?aF ?aB ?aS ?aL ?_
   (case aR => repeat (first | exact (Kd.C_below HR0_2.out HB.out) | (with_reducible refine Kd.C_alloc ?_ _) | (with_reducible refine Kd.C_drewN ?_ _) | (with_reducible refine Kd.C_drew ?_)))
   (case aB => exact (by repeat (first | (with_reducible first | exact HB.out | apply pA | apply pN | apply pD | refine pS ?_ GE0.out | refine pS ?_ GE349.out | refine pS ?_ GE356.out) | exact HB.out)))
   (case aF => exact (fun _ _ => trivial))
   (case aO => exact (by (with_reducible repeat (first | apply Kd.R_alloc | apply Kd.R_drewN | apply Kd.R_drew)); exact HO352.out))
   (case aS => exact (pZ (by repeat (first | (with_reducible first | exact HB.out | apply pA | apply pN | apply pD | refine pS ?_ GE0.out | refine pS ?_ GE349.out | refine pS ?_ GE356.out) | exact HB.out))))
   (case aL => have := LMc2.out; omega)
   intro v354 w8 ho hb hg hat
   rw [← Ny353.out] at ho
   have n0_ := AZ.mk (blk_grown (g := g0_) (o := .cells #[.int .i64 a0_0, .int .i64 a0_1, .slice A0_2 l0_2.length c0_2, .slice A0_3 l0_3.length c0_3, .slice A0_4 l0_4.length c0_4, .slice A0_5 l0_5.length c0_5] 27 (0, 0)) (by (with_reducible repeat (first | refine bn_ ?_ _ | refine bd_ ?_ | refine ba_ ?_ _)); exact BK0.out) hg (Kd.R_ne HO352.out BK0.out (by decide)))
   have n1_ := AZ.mk (blk_grown (g := gb349) (o := .cells #[.int .i64 0, .int .i64 0, .slice none 0 0, .slice none 0 0, .slice none 0 0, .slice none 0 0] 27 (0, 0)) (by (with_reducible repeat (first | refine bn_ ?_ _ | refine bd_ ?_ | refine ba_ ?_ _)); exact BK349.out) hg (Kd.R_ne HO352.out BK349.out (by decide)))
   have n2_ := AZ.mk (blk_grown (g := gb356) (o := .cells #[.int .i64 0, .int .i64 0, .slice none 0 0, .slice none 0 0, .slice none 0 0, .slice none 0 0] 27 (0, 0)) (by (with_reducible repeat (first | refine bn_ ?_ _ | refine bd_ ?_ | refine ba_ ?_ _)); exact BK356.out) hg (Kd.R_ne HO352.out BK356.out (by decide)))
   have n3_ := AZ.mk (hb)
   have n4_ := AZ.mk (ho)
   clear BK0
   clear BK349
   clear BK356
   clear HB
   clear HO352
   have BK0 := n0_
   have BK349 := n1_
   have BK356 := n2_
   have HB := n3_
   have HO355 := n4_
   clear n0_ n1_ n2_ n3_ n4_
   clear ho hb hg hat
   obtain ⟨Ao9, co9, eo9⟩ := Kd.R_slice HO355.out
   (first | subst eo9 | (injection eo9 with f1_ f2_ f3_; have f4_ := f1_.symm; have f5_ := f3_.symm; clear f1_ f2_ f3_; subst f4_; subst f5_))
   refine hK.out _ _ ⟨(bc BK0.out 0).trans rfl, (bc BK0.out 1).trans rfl, (bc BK0.out 2).trans rfl, (bc BK0.out 3).trans rfl, (bc BK0.out 4).trans rfl, (bc BK0.out 5).trans rfl⟩ (fun hHeld => ?_)
   clear hK K
   refine norm_ (a' := ?_) ?_ ?_
   rotate_left
   ·show Act.put _ (some 22) _ = _
    simp only [Act.put, sA, sB, sC, i64_w, i32_w]
    rfl
   refine pure_ (i := 14) (N := some 23) (v := ?_) (a' := ?_) (bz 17 65535) rfl rfl (any_of HT_.out (by kernel_rfl)) (fun _ _ _ h => h) (Or.inl ⟨by rfl, ?_⟩) ?_ ?_
   rotate_left
   ·intro w'
    go_simp
    with_reducible rfl
   rotate_left
   ·simp only [Act.put, sA, sB, sC, i64_w, i32_w]
    rfl
   exact norm_ (by simp only [putAll, Act.put, sA, sB, sC]) (hCont (v351, .slice Ao9 y353.length co9, gb356) _ ⟨hHeld, (by (with_reducible repeat (first | apply Kd.R_alloc | apply Kd.R_drewN | apply Kd.R_drew)); exact HO355.out), (by (with_reducible repeat (first | refine bn_ ?_ _ | refine bd_ ?_ | refine ba_ ?_ _)); exact BK0.out), (by (with_reducible repeat (first | refine bn_ ?_ _ | refine bd_ ?_ | refine ba_ ?_ _)); exact BK349.out), (by (with_reducible repeat (first | refine bn_ ?_ _ | refine bd_ ?_ | refine ba_ ?_ _)); exact BK356.out), GW356.out, GE356.out, NB0_356.out, NB356_0.out, NB349_356.out, NB356_349.out, (by repeat (first | (with_reducible first | exact HB.out | apply pA | apply pN | apply pD | refine pS ?_ GE0.out | refine pS ?_ GE349.out | refine pS ?_ GE356.out) | exact HB.out))⟩)
 rintro ⟨v351, v354, gb356⟩ w10 ⟨hS_, h0_, h1_, h2_, h3_, h4_, h5_, h6_, h7_, h8_, h9_, h10_⟩
 have n0_ : AZ (Kd.R Kd.bool 4 w10 w.heap.size (fun _ => True) v354 y353) := ⟨h0_⟩
 have n1_ : AZ (w10.heap[g0_]? = some (.cells #[.int .i64 a0_0, .int .i64 a0_1, .slice A0_2 l0_2.length c0_2, .slice A0_3 l0_3.length c0_3, .slice A0_4 l0_4.length c0_4, .slice A0_5 l0_5.length c0_5] 27 (0, 0))) := ⟨h1_⟩
 have n2_ : AZ (w10.heap[gb349]? = some (.cells #[.int .i64 0, .int .i64 0, .slice none 0 0, .slice none 0 0, .slice none 0 0, .slice none 0 0] 27 (0, 0))) := ⟨h2_⟩
 have n3_ : AZ (w10.heap[gb356]? = some (.cells #[.int .i64 0, .int .i64 0, .slice none 0 0, .slice none 0 0, .slice none 0 0, .slice none 0 0] 27 (0, 0))) := ⟨h3_⟩
 have n4_ : AZ (w.heap.size ≤ gb356) := ⟨h4_⟩
 have n5_ : AZ (w.heap.size ≤ gb356) := ⟨h5_⟩
 have n6_ : AZ (g0_ ≠ gb356) := ⟨h6_⟩
 have n7_ : AZ (gb356 ≠ g0_) := ⟨h7_⟩
 have n8_ : AZ (gb349 ≠ gb356) := ⟨h8_⟩
 have n9_ : AZ (gb356 ≠ gb349) := ⟨h9_⟩
 have n10_ : AZ (Below w.heap.size w w10) := ⟨h10_⟩
 clear BK0
 clear BK349
 clear HB
 clear h0_ h1_ h2_ h3_ h4_ h5_ h6_ h7_ h8_ h9_ h10_
 have HO355 := n0_
 have BK0 := n1_
 have BK349 := n2_
 have BK356 := n3_
 have GW356 := n4_
 have GE356 := n5_
 have NB0_356 := n6_
 have NB356_0 := n7_
 have NB349_356 := n8_
 have NB356_349 := n9_
 have HB := n10_
 clear n0_ n1_ n2_ n3_ n4_ n5_ n6_ n7_ n8_ n9_ n10_
 have hHeld : w10.cell? ⟨g0_, 0, none⟩ = some (.int .i64 a0_0) ∧ w10.cell? ⟨g0_, 1, none⟩ = some (.int .i64 a0_1) ∧ w10.cell? ⟨g0_, 2, none⟩ = some (.slice A0_2 l0_2.length c0_2) ∧ w10.cell? ⟨g0_, 3, none⟩ = some (.slice A0_3 l0_3.length c0_3) ∧ w10.cell? ⟨g0_, 4, none⟩ = some (.slice A0_4 l0_4.length c0_4) ∧ w10.cell? ⟨g0_, 5, none⟩ = some (.slice A0_5 l0_5.length c0_5) := hS_
 obtain ⟨Ao11, co11, eo11⟩ := Kd.R_slice HO355.out
 (first | subst eo11 | (injection eo11 with f1_ f2_ f3_; have f4_ := f1_.symm; have f5_ := f3_.symm; clear f1_ f2_ f3_; subst f4_; subst f5_))
 refine norm_ (a' := ?_) ?_ ?_
 rotate_left
 ·simp only [putAll, Act.put, sA, sB, sC]
  rfl
 refine one_ (i := 16) (N := none) (bz 17 131071) rfl rfl (one_of HT_.out (by kernel_rfl)) (by decide) (fun K hK => ?_)
 have hs12 : w10.cell? ⟨gb356, 0, none⟩ = some (.int .i64 0) := (bc BK356.out 0).trans rfl
 have hfs12 := bf BK356.out 0
 have hns12_0 := NB0_356.out
 have hns12_1 := NB349_356.out
 have hms12_0 := NB356_0.out
 have hms12_1 := NB356_349.out
 have hs13 : w10.cell? ⟨gb356, 1, none⟩ = some (.int .i64 0) := (bc BK356.out 1).trans rfl
 have hfs13 := bf BK356.out 1
 have hns13_0 := NB0_356.out
 have hns13_1 := NB349_356.out
 have hms13_0 := NB356_0.out
 have hms13_1 := NB356_349.out
 have hs14 : w10.cell? ⟨gb356, 2, none⟩ = some (.slice none 0 0) := (bc BK356.out 2).trans rfl
 have hfs14 := bf BK356.out 2
 have hns14_0 := NB0_356.out
 have hns14_1 := NB349_356.out
 have hms14_0 := NB356_0.out
 have hms14_1 := NB356_349.out
 have hs15 : w10.cell? ⟨gb356, 3, none⟩ = some (.slice none 0 0) := (bc BK356.out 3).trans rfl
 have hfs15 := bf BK356.out 3
 have hns15_0 := NB0_356.out
 have hns15_1 := NB349_356.out
 have hms15_0 := NB356_0.out
 have hms15_1 := NB356_349.out
 have hs16 : w10.cell? ⟨gb356, 4, none⟩ = some (.slice none 0 0) := (bc BK356.out 4).trans rfl
 have hfs16 := bf BK356.out 4
 have hns16_0 := NB0_356.out
 have hns16_1 := NB349_356.out
 have hms16_0 := NB356_0.out
 have hms16_1 := NB356_349.out
 have hs17 : w10.cell? ⟨gb356, 5, none⟩ = some (.slice none 0 0) := (bc BK356.out 5).trans rfl
 have hfs17 := bf BK356.out 5
 have hns17_0 := NB0_356.out
 have hns17_1 := NB349_356.out
 have hms17_0 := NB356_0.out
 have hms17_1 := NB356_349.out
 refine skip_ (w1 := ?_) (by rfl) rfl ?_ ?_
 rotate_left
 ·go_simp
  rfl
 refine hK.out _ _ ⟨((cell_far (p := ⟨gb356, _, none⟩) NB0_356.out _).trans (((cell_far (p := ⟨gb356, _, none⟩) NB0_356.out _).trans (((cell_far (p := ⟨gb356, _, none⟩) NB0_356.out _).trans (((cell_far (p := ⟨gb356, _, none⟩) NB0_356.out _).trans (((cell_far (p := ⟨gb356, _, none⟩) NB0_356.out _).trans (((cell_far (p := ⟨gb356, _, none⟩) NB0_356.out _).trans (hHeld.1)))))))))))), ((cell_far (p := ⟨gb356, _, none⟩) NB0_356.out _).trans (((cell_far (p := ⟨gb356, _, none⟩) NB0_356.out _).trans (((cell_far (p := ⟨gb356, _, none⟩) NB0_356.out _).trans (((cell_far (p := ⟨gb356, _, none⟩) NB0_356.out _).trans (((cell_far (p := ⟨gb356, _, none⟩) NB0_356.out _).trans (((cell_far (p := ⟨gb356, _, none⟩) NB0_356.out _).trans (hHeld.2.1)))))))))))), ((cell_far (p := ⟨gb356, _, none⟩) NB0_356.out _).trans (((cell_far (p := ⟨gb356, _, none⟩) NB0_356.out _).trans (((cell_far (p := ⟨gb356, _, none⟩) NB0_356.out _).trans (((cell_far (p := ⟨gb356, _, none⟩) NB0_356.out _).trans (((cell_far (p := ⟨gb356, _, none⟩) NB0_356.out _).trans (((cell_far (p := ⟨gb356, _, none⟩) NB0_356.out _).trans (hHeld.2.2.1)))))))))))), ((cell_far (p := ⟨gb356, _, none⟩) NB0_356.out _).trans (((cell_far (p := ⟨gb356, _, none⟩) NB0_356.out _).trans (((cell_far (p := ⟨gb356, _, none⟩) NB0_356.out _).trans (((cell_far (p := ⟨gb356, _, none⟩) NB0_356.out _).trans (((cell_far (p := ⟨gb356, _, none⟩) NB0_356.out _).trans (((cell_far (p := ⟨gb356, _, none⟩) NB0_356.out _).trans (hHeld.2.2.2.1)))))))))))), ((cell_far (p := ⟨gb356, _, none⟩) NB0_356.out _).trans (((cell_far (p := ⟨gb356, _, none⟩) NB0_356.out _).trans (((cell_far (p := ⟨gb356, _, none⟩) NB0_356.out _).trans (((cell_far (p := ⟨gb356, _, none⟩) NB0_356.out _).trans (((cell_far (p := ⟨gb356, _, none⟩) NB0_356.out _).trans (((cell_far (p := ⟨gb356, _, none⟩) NB0_356.out _).trans (hHeld.2.2.2.2.1)))))))))))), ((cell_far (p := ⟨gb356, _, none⟩) NB0_356.out _).trans (((cell_far (p := ⟨gb356, _, none⟩) NB0_356.out _).trans (((cell_far (p := ⟨gb356, _, none⟩) NB0_356.out _).trans (((cell_far (p := ⟨gb356, _, none⟩) NB0_356.out _).trans (((cell_far (p := ⟨gb356, _, none⟩) NB0_356.out _).trans (((cell_far (p := ⟨gb356, _, none⟩) NB0_356.out _).trans (hHeld.2.2.2.2.2))))))))))))⟩ (fun hHeld => ?_)
 clear hK K
 refine done_ (done_of HT_.out (by kernel_rfl)) ?_
 try go_wp2
 go_loopg [4] k (fun kq v4 w' => ∃ (x4_1 : Int) (x357003_1 : List (List (S47))) (u357003 : Value), v4 = .int .i64 x4_1 ∧ AZ (spec_l02Copy.l0 kq x4_1 a0_0 a0_1 l0_2 l0_3 l0_4 l0_5 a0_0 a0_1 y353 x357003_1 = some (r1, r2, r3, r4, r5, r6)) ∧ AZ (kq ≤ k) ∧ AZ (Kd.R Kd.bool 4 w' w.heap.size (fun _ => True) (.slice Ao11 y353.length co11) y353) ∧ AZ (Kd.S (Kd.slice 47 k47) 48 w' w.heap.size (fun _ => True) u357003 x357003_1) ∧ AZ (w'.heap[g0_]? = some (.cells #[.int .i64 a0_0, .int .i64 a0_1, (.slice A0_2 l0_2.length c0_2), (.slice A0_3 l0_3.length c0_3), (.slice A0_4 l0_4.length c0_4), (.slice A0_5 l0_5.length c0_5)] 27 (0, 0))) ∧ AZ (w'.heap[gb349]? = some (.cells #[.int .i64 0, .int .i64 0, (.slice none 0 0), (.slice none 0 0), (.slice none 0 0), (.slice none 0 0)] 27 (0, 0))) ∧ AZ (w'.heap[gb356]? = some (.cells #[.int .i64 a0_0, .int .i64 a0_1, (.slice Ao11 y353.length co11), u357003, (.slice none 0 0), (.slice none 0 0)] 27 (0, 0))) ∧ AZ (Below w.heap.size w w'))
 case atStart => exact ⟨(0), (([] : List (List (S47)))), (.slice none 0 0), (by first | rfl | (simp; done) | (simp [*]; done)), H', ⟨Nat.le_refl _⟩, ⟨by (with_reducible repeat (first | apply Kd.R_alloc | apply Kd.R_drewN | apply Kd.R_drew)); exact Kd.R_mono (Kd.R_far (p := ⟨gb356, 5, none⟩) (Kd.R_far (p := ⟨gb356, 4, none⟩) (Kd.R_far (p := ⟨gb356, 3, none⟩) (Kd.R_far (p := ⟨gb356, 2, none⟩) (Kd.R_far (p := ⟨gb356, 1, none⟩) (Kd.R_far (p := ⟨gb356, 0, none⟩) (Kd.R_types HO355.out BK356.out (by decide)) (fun _ hk => hk.2) (.int .i64 a0_0)) (fun _ hk => hk.2) (.int .i64 a0_1)) (fun _ hk => hk.2) (.slice Ao11 y353.length co11)) (fun _ hk => hk.2) (.slice none 0 0)) (fun _ hk => hk.2) (.slice none 0 0)) (fun _ hk => hk.2) (.slice none 0 0)) (fun _ hk => trivial)⟩, ⟨by first | exact Kd.S_nil _ _ _ _ _ | exact Kd.N_nil _ _ _ _ _ | exact Kd.V_nil _ _ _ _ _ | exact Kd.Q_nil _ _ _ _ _ | exact Kd.R_nil _ _ _ _ _⟩, ⟨by (with_reducible repeat (first | refine bn_ ?_ _ | refine bd_ ?_ | refine ba_ ?_ _)); refine blk_far ?_ NB0_356.out _; (with_reducible repeat (first | refine bn_ ?_ _ | refine bd_ ?_ | refine ba_ ?_ _)); refine blk_far ?_ NB0_356.out _; (with_reducible repeat (first | refine bn_ ?_ _ | refine bd_ ?_ | refine ba_ ?_ _)); refine blk_far ?_ NB0_356.out _; (with_reducible repeat (first | refine bn_ ?_ _ | refine bd_ ?_ | refine ba_ ?_ _)); refine blk_far ?_ NB0_356.out _; (with_reducible repeat (first | refine bn_ ?_ _ | refine bd_ ?_ | refine ba_ ?_ _)); refine blk_far ?_ NB0_356.out _; (with_reducible repeat (first | refine bn_ ?_ _ | refine bd_ ?_ | refine ba_ ?_ _)); refine blk_far ?_ NB0_356.out _; (with_reducible repeat (first | refine bn_ ?_ _ | refine bd_ ?_ | refine ba_ ?_ _)); exact BK0.out⟩, ⟨by (with_reducible repeat (first | refine bn_ ?_ _ | refine bd_ ?_ | refine ba_ ?_ _)); refine blk_far ?_ NB349_356.out _; (with_reducible repeat (first | refine bn_ ?_ _ | refine bd_ ?_ | refine ba_ ?_ _)); refine blk_far ?_ NB349_356.out _; (with_reducible repeat (first | refine bn_ ?_ _ | refine bd_ ?_ | refine ba_ ?_ _)); refine blk_far ?_ NB349_356.out _; (with_reducible repeat (first | refine bn_ ?_ _ | refine bd_ ?_ | refine ba_ ?_ _)); refine blk_far ?_ NB349_356.out _; (with_reducible repeat (first | refine bn_ ?_ _ | refine bd_ ?_ | refine ba_ ?_ _)); refine blk_far ?_ NB349_356.out _; (with_reducible repeat (first | refine bn_ ?_ _ | refine bd_ ?_ | refine ba_ ?_ _)); refine blk_far ?_ NB349_356.out _; (with_reducible repeat (first | refine bn_ ?_ _ | refine bd_ ?_ | refine ba_ ?_ _)); exact BK349.out⟩, ⟨by (with_reducible repeat (first | refine bn_ ?_ _ | refine bd_ ?_ | refine ba_ ?_ _)); refine blk_put (cs := #[.int .i64 a0_0, .int .i64 a0_1, .slice Ao11 y353.length co11, .slice none 0 0, .slice none 0 0, .slice none 0 0]) ?_ 5 _ rfl; (with_reducible repeat (first | refine bn_ ?_ _ | refine bd_ ?_ | refine ba_ ?_ _)); refine blk_put (cs := #[.int .i64 a0_0, .int .i64 a0_1, .slice Ao11 y353.length co11, .slice none 0 0, .slice none 0 0, .slice none 0 0]) ?_ 4 _ rfl; (with_reducible repeat (first | refine bn_ ?_ _ | refine bd_ ?_ | refine ba_ ?_ _)); refine blk_put (cs := #[.int .i64 a0_0, .int .i64 a0_1, .slice Ao11 y353.length co11, .slice none 0 0, .slice none 0 0, .slice none 0 0]) ?_ 3 _ rfl; (with_reducible repeat (first | refine bn_ ?_ _ | refine bd_ ?_ | refine ba_ ?_ _)); refine blk_put (cs := #[.int .i64 a0_0, .int .i64 a0_1, .slice none 0 0, .slice none 0 0, .slice none 0 0, .slice none 0 0]) ?_ 2 _ rfl; (with_reducible repeat (first | refine bn_ ?_ _ | refine bd_ ?_ | refine ba_ ?_ _)); refine blk_put (cs := #[.int .i64 a0_0, .int .i64 0, .slice none 0 0, .slice none 0 0, .slice none 0 0, .slice none 0 0]) ?_ 1 _ rfl; (with_reducible repeat (first | refine bn_ ?_ _ | refine bd_ ?_ | refine ba_ ?_ _)); refine blk_put (cs := #[.int .i64 0, .int .i64 0, .slice none 0 0, .slice none 0 0, .slice none 0 0, .slice none 0 0]) ?_ 0 _ rfl; (with_reducible repeat (first | refine bn_ ?_ _ | refine bd_ ?_ | refine ba_ ?_ _)); exact BK356.out⟩, ⟨by repeat (first | (with_reducible first | exact HB.out | apply pA | apply pN | apply pD | refine pS ?_ GE0.out | refine pS ?_ GE349.out | refine pS ?_ GE356.out) | exact HB.out)⟩⟩
 case round =>
  clear H'
  try clear c2
  try clear p2
  try clear c7
  obtain ⟨x4_1, x357003_1, u357003, rfl, HA, HK1, HO_357002, HO_357003, BK0, BK349, BK356, HB⟩ := hrel
  cases gk with
  | zero => exact absurd HA.out (by simp [spec_l02Copy.l0])
  | succ k1 =>
   have H := HA.out
   clear HA
   simp only [spec_l02Copy.l0] at H
   by_cases c18 : x4_1 < (l0_3.length : Int)
   ·rw [if_pos c18] at H
    have c18b0 : decide (x4_1 < (l0_3.length : Int)) = true := decide_eq_true c18
    clear c18
    obtain ⟨y357, hy357⟩ : ∃ y_ : List (S47), y_ = (([] : List (S47))) := ⟨_, rfl⟩
    replace H : (if 0 ≤ x4_1 then (if y357.length + (rd_L3 l0_3 x4_1).length < 8796093022208 then (if x357003_1.length < 5864062014805 then (spec_l02Copy.l0 k1 (wrap64 (x4_1 + 1)) a0_0 a0_1 l0_2 l0_3 l0_4 l0_5 a0_0 a0_1 y353 (x357003_1 ++ [(y357 ++ (rd_L3 l0_3 x4_1))])) else (none)) else (none)) else (none)) = some (r1, r2, r3, r4, r5, r6) := by first | (rw [hy357]; with_reducible exact H) | (have H2_ := (Option.bind_some _ _).symm.trans H; rw [hy357]; with_reducible exact H2_) | (have H2_ := (Option.bind_some _ _).symm.trans H; with_reducible exact H2_) | with_reducible exact H | (rw [hy357]; exact H) | exact H
    have Ny357 := AZ.mk hy357
    clear hy357
    by_cases c19 : 0 ≤ x4_1
    rotate_left
    ·rw [if_neg c19] at H
     exact absurd H (by simp)
    rw [if_pos c19] at H
    have c19b0 : decide (0 ≤ x4_1) = true := decide_eq_true c19
    clear c19
    by_cases c20 : y357.length + (rd_L3 l0_3 x4_1).length < 8796093022208
    rotate_left
    ·rw [if_neg c20] at H
     exact absurd H (by simp)
    rw [if_pos c20] at H
    have LMc20 := AZ.mk c20
    clear c20
    obtain ⟨y361, hy361⟩ : ∃ y_ : List (S47), y_ = (y357 ++ (rd_L3 l0_3 x4_1)) := ⟨_, rfl⟩
    replace H : (if x357003_1.length < 5864062014805 then (spec_l02Copy.l0 k1 (wrap64 (x4_1 + 1)) a0_0 a0_1 l0_2 l0_3 l0_4 l0_5 a0_0 a0_1 y353 (x357003_1 ++ [y361])) else (none)) = some (r1, r2, r3, r4, r5, r6) := by first | (rw [hy361]; with_reducible exact H) | (have H2_ := (Option.bind_some _ _).symm.trans H; rw [hy361]; with_reducible exact H2_) | (have H2_ := (Option.bind_some _ _).symm.trans H; with_reducible exact H2_) | with_reducible exact H | (rw [hy361]; exact H) | exact H
    have Ny361 := AZ.mk hy361
    clear hy361
    by_cases c21 : x357003_1.length < 5864062014805
    rotate_left
    ·rw [if_neg c21] at H
     exact absurd H (by simp)
    rw [if_pos c21] at H
    have LMc21 := AZ.mk c21
    clear c21
    obtain ⟨y364, hy364⟩ : ∃ y_ : List (List (S47)), y_ = (x357003_1 ++ [y361]) := ⟨_, rfl⟩
    replace H : (spec_l02Copy.l0 k1 (wrap64 (x4_1 + 1)) a0_0 a0_1 l0_2 l0_3 l0_4 l0_5 a0_0 a0_1 y353 y364) = some (r1, r2, r3, r4, r5, r6) := by first | (rw [hy364]; with_reducible exact H) | (have H2_ := (Option.bind_some _ _).symm.trans H; rw [hy364]; with_reducible exact H2_) | (have H2_ := (Option.bind_some _ _).symm.trans H; with_reducible exact H2_) | with_reducible exact H | (rw [hy364]; exact H) | exact H
    have Ny364 := AZ.mk hy364
    clear hy364
    have H' := AZ.mk H
    clear H
    have hnb22 := NB0_349.out
    have hnc22 := NB349_0.out
    have hnb23 := NB0_356.out
    have hnc23 := NB356_0.out
    obtain ⟨hcz24_0, hcz24_1, hcz24_2, hcz24_3, hcz24_4, hcz24_5⟩ := c6 BK0.out
    obtain ⟨hfz24_0, hfz24_1, hfz24_2, hfz24_3, hfz24_4, hfz24_5⟩ := f6 BK0.out
    try go_wp2
    have n0_ := AZ.mk (Kd.R_drew HO_357002.out)
    have n1_ := AZ.mk (Kd.S_drew HO_357003.out)
    have n2_ := AZ.mk (bd_ BK0.out)
    have n3_ := AZ.mk (bd_ BK349.out)
    have n4_ := AZ.mk (bd_ BK356.out)
    have n5_ := AZ.mk (pD HB.out)
    clear HO_357002
    clear HO_357003
    clear BK0
    clear BK349
    clear BK356
    clear HB
    have HO_357002 := n0_
    have HO_357003 := n1_
    have BK0 := n2_
    have BK349 := n3_
    have BK356 := n4_
    have HB := n5_
    clear n0_ n1_ n2_ n3_ n4_ n5_
    have p360 : 0 ≤ (x4_1 : Int) := oT (by first | (with_reducible assumption) | assumption)
    have q360 : x4_1 < (l0_3.length : Int) := oT (by first | (with_reducible assumption) | assumption)
    obtain ⟨ad360, A360_0, c360_0, e360, hx360_0, hl360_0, hi360_0⟩ := at_L3 HR0_3.out x4_1 p360 q360
    have hw360_0 := hx360_0
    cases e360
    replace hx360_0 := (HB.out.cell (World.block_lt_of_cell? w _ hx360_0)).trans hx360_0
    have HR360_0 := AZ.mk hi360_0
    have HC360_0 := AZ.mk hl360_0
    clear hi360_0 hl360_0
    replace p360 := eq_true p360
    replace q360 := eq_true q360
    refine start_ (n := 15) (S := fun w' => w'.cell? ⟨gb356, 0, none⟩ = some (.int .i64 a0_0) ∧ w'.cell? ⟨gb356, 1, none⟩ = some (.int .i64 a0_1) ∧ w'.cell? ⟨gb356, 2, none⟩ = some (.slice Ao11 y353.length co11) ∧ w'.cell? ⟨gb356, 3, none⟩ = some (u357003) ∧ w'.cell? ⟨gb356, 4, none⟩ = some (.slice none 0 0) ∧ w'.cell? ⟨gb356, 5, none⟩ = some (.slice none 0 0) ∧ w'.cell? ⟨g0_, 0, none⟩ = some (.int .i64 a0_0) ∧ w'.cell? ⟨g0_, 1, none⟩ = some (.int .i64 a0_1) ∧ w'.cell? ⟨g0_, 2, none⟩ = some (.slice A0_2 l0_2.length c0_2) ∧ w'.cell? ⟨g0_, 3, none⟩ = some (.slice (some ad360) l0_3.length c0_3) ∧ w'.cell? ⟨g0_, 4, none⟩ = some (.slice A0_4 l0_4.length c0_4) ∧ w'.cell? ⟨g0_, 5, none⟩ = some (.slice A0_5 l0_5.length c0_5) ∧ w'.cell? (ad360.add (x4_1).toNat) = some (.slice A360_0 (rd_L3 l0_3 x4_1).length c360_0)) (ds := [14]) (bz 15 0) (by kernel_rfl) rfl rfl ⟨(bc BK356.out 0).trans rfl, (bc BK356.out 1).trans rfl, (bc BK356.out 2).trans rfl, (bc BK356.out 3).trans rfl, (bc BK356.out 4).trans rfl, (bc BK356.out 5).trans rfl, (bc BK0.out 0).trans rfl, (bc BK0.out 1).trans rfl, (bc BK0.out 2).trans rfl, (bc BK0.out 3).trans rfl, (bc BK0.out 4).trans rfl, (bc BK0.out 5).trans rfl, ((HB.out.cell (World.block_lt_of_cell? w _ hw360_0)).trans hw360_0)⟩ (fun hHeld => ?_); refine with_tabW spec_l02Copy.tab5 spec_l02Copy.bits5 (fun HT_ HW_ => ?_)
    generalize wr.drew = w25 at HO_357002 HO_357003 BK0 BK349 BK356 HB HR360_0 hx360_0 hHeld ⊢
    iterate 9 (first | (refine pz_ HT_ spec_l02Copy.cz1 rfl rfl rfl (v := ?_) (a' := ?_) (by kernel_rfl) (fun _ _ _ h => h) (Or.inl ⟨by rfl, ?_⟩) ?_ ?_; rotate_left; (intro w'; go_simp; with_reducible rfl); rotate_left; (simp only [Act.put, sA, sB, sC, i64_w, i32_w]; rfl)) | (refine tz_ HT_ HW_ spec_l02Copy.cz1 rfl rfl rfl (v := ?_) (a' := ?_) (by kernel_rfl) (fun _ _ _ h => h) (Or.inl ⟨by rfl, ?_⟩) hHeld ?_ ?_; rotate_left; (rintro w' ⟨s0, s1, s2, s3, s4, s5, s6, s7, s8, s9, s10, s11, s12⟩; go_simp; with_reducible rfl); rotate_left; (simp only [Act.put, sA, sB, sC, i64_w, i32_w]; rfl)))
    refine one_ (i := 2) (N := some 35) (bz 15 1023) rfl rfl (one_of HT_.out (by kernel_rfl)) (by decide) (fun K hK => ?_)
    refine Kd.R_lit_step k47 _ 47 ?hg (N := 35) ?hd (xs := ([] : List (S47))) (inner := []) (ok := fun _ => True) (okp := fun _ => True) ?hr ?hp (fun _ hk => hk) trivial (Below.refl _ _) (Nat.le_refl _) (by simp) ?_; (case hd => rfl); (case hg => rfl); (case hr => first | (go_simp; done) | (go_simp; rfl)); (case hp => exact (Reps.none _ _))
    intro v358 w26 ho27 hb hg_ hnew_
    clear hg_ hnew_
    (first | rw [← Ny357.out] at ho27 | (simp only [Int.reduceToNat] at ho27; rw [← Ny357.out] at ho27))
    have n0_ := AZ.mk (Kd.R_below (by (with_reducible repeat (first | apply Kd.R_alloc | apply Kd.R_drewN | apply Kd.R_drew)); exact HO_357002.out) hb)
    have n1_ := AZ.mk (Kd.S_elder' (by (with_reducible repeat (first | apply Kd.S_alloc | apply Kd.S_drewN | apply Kd.S_drew)); exact HO_357003.out) (Kd.R_base ho27) hb)
    have n2_ := AZ.mk (Kd.R_lower ho27 (pZ (by repeat (first | (with_reducible first | exact HB.out | apply pA | apply pN | apply pD | refine pS ?_ GE0.out | refine pS ?_ GE349.out | refine pS ?_ GE356.out) | exact HB.out))))
    have n3_ := AZ.mk (bb_ (g := g0_) (o := .cells #[.int .i64 a0_0, .int .i64 a0_1, .slice A0_2 l0_2.length c0_2, .slice (some ad360) l0_3.length c0_3, .slice A0_4 l0_4.length c0_4, .slice A0_5 l0_5.length c0_5] 27 (0, 0)) (by (with_reducible repeat (first | refine bn_ ?_ _ | refine bd_ ?_ | refine ba_ ?_ _)); exact BK0.out) hb)
    have n4_ := AZ.mk (bb_ (g := gb349) (o := .cells #[.int .i64 0, .int .i64 0, .slice none 0 0, .slice none 0 0, .slice none 0 0, .slice none 0 0] 27 (0, 0)) (by (with_reducible repeat (first | refine bn_ ?_ _ | refine bd_ ?_ | refine ba_ ?_ _)); exact BK349.out) hb)
    have n5_ := AZ.mk (bb_ (g := gb356) (o := .cells #[.int .i64 a0_0, .int .i64 a0_1, .slice Ao11 y353.length co11, u357003, .slice none 0 0, .slice none 0 0] 27 (0, 0)) (by (with_reducible repeat (first | refine bn_ ?_ _ | refine bd_ ?_ | refine ba_ ?_ _)); exact BK356.out) hb)
    have n6_ := AZ.mk (pT (by repeat (first | (with_reducible first | exact HB.out | apply pA | apply pN | apply pD | refine pS ?_ GE0.out | refine pS ?_ GE349.out | refine pS ?_ GE356.out) | exact HB.out)) hb)
    clear HO_357002
    clear HO_357003
    clear BK0
    clear BK349
    clear BK356
    clear HB
    have HO_357002 := n0_
    have HO_357003 := n1_
    have HO359 := n2_
    have BK0 := n3_
    have BK349 := n4_
    have BK356 := n5_
    have HB := n6_
    clear n0_ n1_ n2_ n3_ n4_ n5_ n6_
    clear hb ho27
    refine hK.out _ _ ⟨(bc BK356.out 0).trans rfl, (bc BK356.out 1).trans rfl, (bc BK356.out 2).trans rfl, (bc BK356.out 3).trans rfl, (bc BK356.out 4).trans rfl, (bc BK356.out 5).trans rfl, (bc BK0.out 0).trans rfl, (bc BK0.out 1).trans rfl, (bc BK0.out 2).trans rfl, (bc BK0.out 3).trans rfl, (bc BK0.out 4).trans rfl, (bc BK0.out 5).trans rfl, ((HB.out.cell (World.block_lt_of_cell? w _ hw360_0)).trans hw360_0)⟩ (fun hHeld => ?_)
    clear hK K
    refine norm_ (a' := ?_) ?_ ?_
    rotate_left
    ·show Act.put _ (some 35) _ = _
     simp only [Act.put, sA, sB, sC, i64_w, i32_w]
     rfl
    refine one_ (i := 10) (N := some 43) (bz 15 2047) rfl rfl (one_of HT_.out (by kernel_rfl)) (by decide) (fun K hK => ?_)
    refine Kd.R_append_rows_step k47 (w0 := w) w.heap.size (by rfl) (.tmp 35) (.tmp 42) 48 47 (.agg #[(.int .i64 0), (.int .i64 0)]) 16 rfl Try.underlying48 info47 rfl (by decide) (by omega) v358 y357 (rd_L3 l0_3 x4_1) _ _ _ (fun _ => True) (fun _ => False) rfl rfl ?aO ?aR (fun _ _ h => h) (fun _ h => h.elim) ?aF ?aB ?aS ?aL ?_
    (case aR => repeat (first | exact (Kd.C_below HR360_0.out HB.out) | (with_reducible refine Kd.C_alloc ?_ _) | (with_reducible refine Kd.C_drewN ?_ _) | (with_reducible refine Kd.C_drew ?_)))
    (case aB => exact (by repeat (first | (with_reducible first | exact HB.out | apply pA | apply pN | apply pD | refine pS ?_ GE0.out | refine pS ?_ GE349.out | refine pS ?_ GE356.out) | exact HB.out)))
    (case aF => exact (fun _ _ => trivial))
    (case aO => exact (by (with_reducible repeat (first | apply Kd.R_alloc | apply Kd.R_drewN | apply Kd.R_drew)); exact HO359.out))
    (case aS => exact (pZ (by repeat (first | (with_reducible first | exact HB.out | apply pA | apply pN | apply pD | refine pS ?_ GE0.out | refine pS ?_ GE349.out | refine pS ?_ GE356.out) | exact HB.out))))
    (case aL => have := LMc20.out; omega)
    intro v362 w28 ho hb hg hat
    rw [← Ny361.out] at ho
    have n0_ := AZ.mk (Kd.R_over' (by (with_reducible repeat (first | apply Kd.R_alloc | apply Kd.R_drewN | apply Kd.R_drew)); exact HO_357002.out) (Kd.R_typed (by (with_reducible repeat (first | apply Kd.R_alloc | apply Kd.R_drewN | apply Kd.R_drew)); exact HO359.out)) (by decide) hg)
    have n1_ := AZ.mk (Kd.S_after (ok := (fun _ => True)) (by (with_reducible repeat (first | apply Kd.S_alloc | apply Kd.S_drewN | apply Kd.S_drew)); exact HO_357003.out) hg hat)
    have n2_ := AZ.mk (blk_grown (g := g0_) (o := .cells #[.int .i64 a0_0, .int .i64 a0_1, .slice A0_2 l0_2.length c0_2, .slice (some ad360) l0_3.length c0_3, .slice A0_4 l0_4.length c0_4, .slice A0_5 l0_5.length c0_5] 27 (0, 0)) (by (with_reducible repeat (first | refine bn_ ?_ _ | refine bd_ ?_ | refine ba_ ?_ _)); exact BK0.out) hg (Kd.R_ne HO359.out BK0.out (by decide)))
    have n3_ := AZ.mk (blk_grown (g := gb349) (o := .cells #[.int .i64 0, .int .i64 0, .slice none 0 0, .slice none 0 0, .slice none 0 0, .slice none 0 0] 27 (0, 0)) (by (with_reducible repeat (first | refine bn_ ?_ _ | refine bd_ ?_ | refine ba_ ?_ _)); exact BK349.out) hg (Kd.R_ne HO359.out BK349.out (by decide)))
    have n4_ := AZ.mk (blk_grown (g := gb356) (o := .cells #[.int .i64 a0_0, .int .i64 a0_1, .slice Ao11 y353.length co11, u357003, .slice none 0 0, .slice none 0 0] 27 (0, 0)) (by (with_reducible repeat (first | refine bn_ ?_ _ | refine bd_ ?_ | refine ba_ ?_ _)); exact BK356.out) hg (Kd.R_ne HO359.out BK356.out (by decide)))
    have n5_ := AZ.mk (hb)
    have n6_ := AZ.mk (ho)
    clear HO_357002
    clear HO_357003
    clear BK0
    clear BK349
    clear BK356
    clear HB
    clear HO359
    have HO_357002 := n0_
    have HO_357003 := n1_
    have BK0 := n2_
    have BK349 := n3_
    have BK356 := n4_
    have HB := n5_
    have HO363 := n6_
    clear n0_ n1_ n2_ n3_ n4_ n5_ n6_
    clear ho hb hg hat
    obtain ⟨Ao30, co30, eo30⟩ := Kd.R_slice HO363.out
    (first | subst eo30 | (injection eo30 with f1_ f2_ f3_; have f4_ := f1_.symm; have f5_ := f3_.symm; clear f1_ f2_ f3_; subst f4_; subst f5_))
    refine hK.out _ _ ⟨(bc BK356.out 0).trans rfl, (bc BK356.out 1).trans rfl, (bc BK356.out 2).trans rfl, (bc BK356.out 3).trans rfl, (bc BK356.out 4).trans rfl, (bc BK356.out 5).trans rfl, (bc BK0.out 0).trans rfl, (bc BK0.out 1).trans rfl, (bc BK0.out 2).trans rfl, (bc BK0.out 3).trans rfl, (bc BK0.out 4).trans rfl, (bc BK0.out 5).trans rfl, ((HB.out.cell (World.block_lt_of_cell? w _ hw360_0)).trans hw360_0)⟩ (fun hHeld => ?_)
    clear hK K
    refine norm_ (a' := ?_) ?_ ?_
    rotate_left
    ·show Act.put _ (some 43) _ = _
     simp only [Act.put, sA, sB, sC, i64_w, i32_w]
     rfl
    refine one_ (i := 11) (N := some 44) (bz 15 4095) rfl rfl (one_of HT_.out (by kernel_rfl)) (by decide) (fun K hK => ?_)
    refine value_ (w1 := ?_) (v := ?_) (by rfl) rfl ?_ ?_
    rotate_left 2
    ·go_simp
     constructor
     ·rfl
     ·rfl
    refine hK.out _ _ ⟨(bc (ba_ BK356.out _) 0).trans rfl, (bc (ba_ BK356.out _) 1).trans rfl, (bc (ba_ BK356.out _) 2).trans rfl, (bc (ba_ BK356.out _) 3).trans rfl, (bc (ba_ BK356.out _) 4).trans rfl, (bc (ba_ BK356.out _) 5).trans rfl, (bc (ba_ BK0.out _) 0).trans rfl, (bc (ba_ BK0.out _) 1).trans rfl, (bc (ba_ BK0.out _) 2).trans rfl, (bc (ba_ BK0.out _) 3).trans rfl, (bc (ba_ BK0.out _) 4).trans rfl, (bc (ba_ BK0.out _) 5).trans rfl, (World.cell?_alloc_lt _ _ _ (World.block_lt_of_cell? _ _ (((HB.out.cell (World.block_lt_of_cell? w _ hw360_0)).trans hw360_0)))).trans (((HB.out.cell (World.block_lt_of_cell? w _ hw360_0)).trans hw360_0))⟩ (fun hHeld => ?_)
    clear hK K
    refine norm_ (a' := ?_) ?_ ?_
    rotate_left
    ·show Act.put _ (some 44) _ = _
     simp only [Act.put, sA, sB, sC, i64_w, i32_w]
     rfl
    refine one_ (i := 12) (N := some 45) (bz 15 8191) rfl rfl (one_of HT_.out (by kernel_rfl)) (by decide) (fun K hK => ?_)
    refine Kd.S_append_step (Kd.slice 47 k47) (w0 := w) w.heap.size (by rfl) (.tmp 34) (.tmp 44) 23 48 (.slice none 0 0) 24 rfl Try.underlying23 info48 rfl (by decide) (by omega) u357003 x357003_1 y361 [.slice Ao30 y361.length co30] (fun _ => True) (fun k_ => some k_ = (.slice Ao30 y361.length co30 : Value).ownBlock) rfl rfl ?aP (fun k_ hk_ => ((Kd.R_mono (ok' := fun k_ => ((fun _ => True)) k_ ∧ some k_ ≠ (u357003 : Value).ownBlock) (Kd.R_apart' (HO363.out) (Kd.S_typed HO_357003.out) (by decide)) (fun k_ hk => ⟨trivial, hk.2⟩))).1 k_ hk_.symm) ?aF ?aO ?aB ?aS ?aL ?_
    (case aP => exact Kd.M_row (Kd.R_mono (Kd.R_tight rfl (Kd.R_mono (ok' := fun k_ => ((fun _ => True)) k_ ∧ some k_ ≠ (u357003 : Value).ownBlock) (Kd.R_apart' (HO363.out) (Kd.S_typed HO_357003.out) (by decide)) (fun k_ hk => ⟨trivial, hk.2⟩))) (fun _ h_ => h_)))
    (case aB => exact (by repeat (first | (with_reducible first | exact HB.out | apply pA | apply pN | apply pD | refine pS ?_ GE0.out | refine pS ?_ GE349.out | refine pS ?_ GE356.out) | exact HB.out)))
    (case aF => exact (fun _ _ => trivial))
    (case aO => exact (by (with_reducible repeat (first | apply Kd.S_alloc | apply Kd.S_drewN | apply Kd.S_drew)); exact Kd.S_mono HO_357003.out (fun k_ hk => ⟨trivial, fun e_ => hk.2 e_⟩)))
    (case aS => exact (pZ (by repeat (first | (with_reducible first | exact HB.out | apply pA | apply pN | apply pD | refine pS ?_ GE0.out | refine pS ?_ GE349.out | refine pS ?_ GE356.out) | exact HB.out))))
    (case aL => have := LMc21.out; omega)
    intro v365 w29 ho hb hg hat
    rw [← Ny364.out] at ho
    have n0_ := AZ.mk (Kd.R_over' (by (with_reducible repeat (first | apply Kd.R_alloc | apply Kd.R_drewN | apply Kd.R_drew)); exact HO_357002.out) (Kd.S_typed (by (with_reducible repeat (first | apply Kd.S_alloc | apply Kd.S_drewN | apply Kd.S_drew)); exact HO_357003.out)) (by decide) hg)
    have n1_ := AZ.mk (blk_grown (g := g0_) (o := .cells #[.int .i64 a0_0, .int .i64 a0_1, .slice A0_2 l0_2.length c0_2, .slice (some ad360) l0_3.length c0_3, .slice A0_4 l0_4.length c0_4, .slice A0_5 l0_5.length c0_5] 27 (0, 0)) (by (with_reducible repeat (first | refine bn_ ?_ _ | refine bd_ ?_ | refine ba_ ?_ _)); exact BK0.out) hg (Kd.S_ne HO_357003.out BK0.out (by decide)))
    have n2_ := AZ.mk (blk_grown (g := gb349) (o := .cells #[.int .i64 0, .int .i64 0, .slice none 0 0, .slice none 0 0, .slice none 0 0, .slice none 0 0] 27 (0, 0)) (by (with_reducible repeat (first | refine bn_ ?_ _ | refine bd_ ?_ | refine ba_ ?_ _)); exact BK349.out) hg (Kd.S_ne HO_357003.out BK349.out (by decide)))
    have n3_ := AZ.mk (blk_grown (g := gb356) (o := .cells #[.int .i64 a0_0, .int .i64 a0_1, .slice Ao11 y353.length co11, u357003, .slice none 0 0, .slice none 0 0] 27 (0, 0)) (by (with_reducible repeat (first | refine bn_ ?_ _ | refine bd_ ?_ | refine ba_ ?_ _)); exact BK356.out) hg (Kd.S_ne HO_357003.out BK356.out (by decide)))
    have n4_ := AZ.mk (hb)
    have n5_ := AZ.mk (ho)
    clear HO_357002
    clear BK0
    clear BK349
    clear BK356
    clear HB
    clear HO_357003
    clear HO363
    have HO_357002 := n0_
    have BK0 := n1_
    have BK349 := n2_
    have BK356 := n3_
    have HB := n4_
    have HO366 := n5_
    clear n0_ n1_ n2_ n3_ n4_ n5_
    clear ho hb hg hat
    obtain ⟨Ao31, co31, eo31⟩ := Kd.S_slice HO366.out
    (first | subst eo31 | (injection eo31 with f1_ f2_ f3_; have f4_ := f1_.symm; have f5_ := f3_.symm; clear f1_ f2_ f3_; subst f4_; subst f5_))
    refine hK.out _ _ ⟨(bc BK356.out 0).trans rfl, (bc BK356.out 1).trans rfl, (bc BK356.out 2).trans rfl, (bc BK356.out 3).trans rfl, (bc BK356.out 4).trans rfl, (bc BK356.out 5).trans rfl, (bc BK0.out 0).trans rfl, (bc BK0.out 1).trans rfl, (bc BK0.out 2).trans rfl, (bc BK0.out 3).trans rfl, (bc BK0.out 4).trans rfl, (bc BK0.out 5).trans rfl, ((HB.out.cell (World.block_lt_of_cell? w _ hw360_0)).trans hw360_0)⟩ (fun hHeld => ?_)
    clear hK K
    refine norm_ (a' := ?_) ?_ ?_
    rotate_left
    ·show Act.put _ (some 45) _ = _
     simp only [Act.put, sA, sB, sC, i64_w, i32_w]
     rfl
    refine pure_ (i := 13) (N := some 46) (v := ?_) (a' := ?_) (bz 15 16383) rfl rfl (any_of HT_.out (by kernel_rfl)) (fun _ _ _ h => h) (Or.inl ⟨by rfl, ?_⟩) ?_ ?_
    rotate_left
    ·intro w'
     go_simp
     with_reducible rfl
    rotate_left
    ·simp only [Act.put, sA, sB, sC, i64_w, i32_w]
     rfl
    refine last_ (i := 14) (N := none) (bz 15 32767) rfl rfl (one_of HT_.out (by kernel_rfl)) (by decide) (fun K hK => ?_)
    have hs32 : w29.cell? ⟨gb356, 3, none⟩ = some (u357003) := (bc BK356.out 3).trans rfl
    have hfs32 := bf BK356.out 3
    have hns32_0 := NB0_356.out
    have hns32_1 := NB349_356.out
    have hms32_0 := NB356_0.out
    have hms32_1 := NB356_349.out
    refine skip_ (w1 := ?_) (by rfl) rfl ?_ ?_
    rotate_left
    ·go_simp
     rfl
    refine hK.out _ _ ?_
    clear hK K
    refine done_ (done_of HT_.out (by kernel_rfl)) ?_
    try go_wp2
    go_roundg k1
    case measure => have := HK1.out; omega
    case rel => exact ⟨(wrap64 (x4_1 + 1)), (y364), (.slice Ao31 y364.length co31), (by first | rfl | (simp; done) | (simp [*]; done)), H', ⟨by have := HK1.out; omega⟩, ⟨by (with_reducible repeat (first | apply Kd.R_alloc | apply Kd.R_drewN | apply Kd.R_drew)); exact Kd.R_mono (Kd.R_far (p := ⟨gb356, 3, none⟩) (Kd.R_types HO_357002.out BK356.out (by decide)) (fun _ hk => hk.2) (.slice Ao31 y364.length co31)) (fun _ hk => trivial)⟩, ⟨by (with_reducible repeat (first | apply Kd.S_alloc | apply Kd.S_drewN | apply Kd.S_drew)); exact Kd.S_mono (Kd.S_far (p := ⟨gb356, 3, none⟩) (Kd.S_types HO366.out BK356.out (by decide)) (fun _ hk => hk.2) (.slice Ao31 y364.length co31)) (fun _ hk => trivial)⟩, ⟨by (with_reducible repeat (first | refine bn_ ?_ _ | refine bd_ ?_ | refine ba_ ?_ _)); refine blk_far ?_ NB0_356.out _; (with_reducible repeat (first | refine bn_ ?_ _ | refine bd_ ?_ | refine ba_ ?_ _)); exact BK0.out⟩, ⟨by (with_reducible repeat (first | refine bn_ ?_ _ | refine bd_ ?_ | refine ba_ ?_ _)); refine blk_far ?_ NB349_356.out _; (with_reducible repeat (first | refine bn_ ?_ _ | refine bd_ ?_ | refine ba_ ?_ _)); exact BK349.out⟩, ⟨by (with_reducible repeat (first | refine bn_ ?_ _ | refine bd_ ?_ | refine ba_ ?_ _)); refine blk_put (cs := #[.int .i64 a0_0, .int .i64 a0_1, .slice Ao11 y353.length co11, u357003, .slice none 0 0, .slice none 0 0]) ?_ 3 _ rfl; (with_reducible repeat (first | refine bn_ ?_ _ | refine bd_ ?_ | refine ba_ ?_ _)); exact BK356.out⟩, ⟨by repeat (first | (with_reducible first | exact HB.out | apply pA | apply pN | apply pD | refine pS ?_ GE0.out | refine pS ?_ GE349.out | refine pS ?_ GE356.out) | exact HB.out)⟩⟩
   rw [if_neg c18] at H
   have c18b0 : decide (x4_1 < (l0_3.length : Int)) = false := decide_eq_false c18
   clear c18
   have H' := AZ.mk H
   clear H
   have hnb33 := NB0_349.out
   have hnc33 := NB349_0.out
   have hnb34 := NB0_356.out
   have hnc34 := NB356_0.out
   obtain ⟨hcz35_0, hcz35_1, hcz35_2, hcz35_3, hcz35_4, hcz35_5⟩ := c6 BK0.out
   obtain ⟨hfz35_0, hfz35_1, hfz35_2, hfz35_3, hfz35_4, hfz35_5⟩ := f6 BK0.out
   go_wp2
   go_loopg [5] k1 (fun kq v5 w' => ∃ (x5_2 : Int) (x357004_2 : List (List (List Int))) (u357004 : Value), v5 = .int .i64 x5_2 ∧ AZ (spec_l02Copy.l1 kq x5_2 a0_0 a0_1 l0_2 l0_3 l0_4 l0_5 a0_0 a0_1 y353 x357003_1 x357004_2 = some (r1, r2, r3, r4, r5, r6)) ∧ AZ (kq ≤ k1) ∧ AZ (Kd.R Kd.bool 4 w' w.heap.size (fun _ => True) (.slice Ao11 y353.length co11) y353) ∧ AZ (Kd.S (Kd.slice 47 k47) 48 w' w.heap.size (fun _ => True) u357003 x357003_1) ∧ AZ (Kd.R (Kd.slice 49 (Kd.slice 2 (Kd.int .i64))) 25 w' w.heap.size (fun _ => True) u357004 x357004_2) ∧ AZ (w'.heap[g0_]? = some (.cells #[.int .i64 a0_0, .int .i64 a0_1, (.slice A0_2 l0_2.length c0_2), (.slice A0_3 l0_3.length c0_3), (.slice A0_4 l0_4.length c0_4), (.slice A0_5 l0_5.length c0_5)] 27 (0, 0))) ∧ AZ (w'.heap[gb349]? = some (.cells #[.int .i64 0, .int .i64 0, (.slice none 0 0), (.slice none 0 0), (.slice none 0 0), (.slice none 0 0)] 27 (0, 0))) ∧ AZ (w'.heap[gb356]? = some (.cells #[.int .i64 a0_0, .int .i64 a0_1, (.slice Ao11 y353.length co11), u357003, u357004, (.slice none 0 0)] 27 (0, 0))) ∧ AZ (Below w.heap.size w w'))
   case atStart => exact ⟨(0), (([] : List (List (List Int)))), (.slice none 0 0), (by first | rfl | (simp; done) | (simp [*]; done)), H', ⟨Nat.le_refl _⟩, ⟨by (with_reducible repeat (first | apply Kd.R_alloc | apply Kd.R_drewN | apply Kd.R_drew)); exact HO_357002.out⟩, ⟨by (with_reducible repeat (first | apply Kd.S_alloc | apply Kd.S_drewN | apply Kd.S_drew)); exact HO_357003.out⟩, ⟨by first | exact Kd.R_nil _ _ _ _ _ | exact Kd.N_nil _ _ _ _ _ | exact Kd.V_nil _ _ _ _ _ | exact Kd.Q_nil _ _ _ _ _ | exact Kd.S_nil _ _ _ _ _⟩, ⟨by (with_reducible repeat (first | refine bn_ ?_ _ | refine bd_ ?_ | refine ba_ ?_ _)); exact BK0.out⟩, ⟨by (with_reducible repeat (first | refine bn_ ?_ _ | refine bd_ ?_ | refine ba_ ?_ _)); exact BK349.out⟩, ⟨by (with_reducible repeat (first | refine bn_ ?_ _ | refine bd_ ?_ | refine ba_ ?_ _)); exact BK356.out⟩, ⟨by repeat (first | (with_reducible first | exact HB.out | apply pA | apply pN | apply pD | refine pS ?_ GE0.out | refine pS ?_ GE349.out | refine pS ?_ GE356.out) | exact HB.out)⟩⟩
   case round =>
    clear H'
    try clear c1
    try clear c2
    try clear p2
    try clear c3
    try clear p3
    try clear q3
    try clear hx3
    try clear p6
    try clear c7
    try clear c18
    try clear c18b0
    try clear c19
    try clear c19b0
    try clear c20
    try clear c21
    try clear c22
    try clear c23
    try clear c33
    try clear c34
    try clear hcz24_0
    try clear hcz24_1
    try clear hcz24_2
    try clear hcz24_3
    try clear hcz24_4
    try clear hcz24_5
    try clear hcz35_0
    try clear hcz35_1
    try clear hcz35_2
    try clear hcz35_3
    try clear hcz35_4
    try clear hcz35_5
    try clear hfz24_0
    try clear hfz24_1
    try clear hfz24_2
    try clear hfz24_3
    try clear hfz24_4
    try clear hfz24_5
    try clear hfz35_0
    try clear hfz35_1
    try clear hfz35_2
    try clear hfz35_3
    try clear hfz35_4
    try clear hfz35_5
    try clear hx360_0
    try clear p2
    try clear p360
    try clear q360
    obtain ⟨x5_2, x357004_2, u357004, rfl, HA, HK2, HO_357002, HO_357003, HO_357004, BK0, BK349, BK356, HB⟩ := hrel
    cases gk with
    | zero => exact absurd HA.out (by simp [spec_l02Copy.l1])
    | succ k2 =>
     have H := HA.out
     clear HA
     simp only [spec_l02Copy.l1] at H
     by_cases c36 : x5_2 < (l0_4.length : Int)
     ·rw [if_pos c36] at H
      have c36b0 : decide (x5_2 < (l0_4.length : Int)) = true := decide_eq_true c36
      clear c36
      obtain ⟨y367, hy367⟩ : ∃ y_ : List (List Int), y_ = (([] : List (List Int))) := ⟨_, rfl⟩
      replace H : (spec_l02Copy.l2 k2 x5_2 y367 0 a0_0 a0_1 l0_2 l0_3 l0_4 l0_5 a0_0 a0_1 y353 x357003_1 x357004_2) = some (r1, r2, r3, r4, r5, r6) := by first | (rw [hy367]; with_reducible exact H) | (have H2_ := (Option.bind_some _ _).symm.trans H; rw [hy367]; with_reducible exact H2_) | (have H2_ := (Option.bind_some _ _).symm.trans H; with_reducible exact H2_) | with_reducible exact H | (rw [hy367]; exact H) | exact H
      have Ny367 := AZ.mk hy367
      clear hy367
      have H' := AZ.mk H
      clear H
      have hnb37 := NB0_349.out
      have hnc37 := NB349_0.out
      have hnb38 := NB0_356.out
      have hnc38 := NB356_0.out
      obtain ⟨hcz39_0, hcz39_1, hcz39_2, hcz39_3, hcz39_4, hcz39_5⟩ := c6 BK0.out
      obtain ⟨hfz39_0, hfz39_1, hfz39_2, hfz39_3, hfz39_4, hfz39_5⟩ := f6 BK0.out
      go_wp2_with (first | ((with_reducible refine gate_dst (N := 56) rfl ?_); refine Kd.S_lit (Kd.slice 2 (Kd.int .i64)) _ 49 ?hg (N := 56) ?hd (xs := ([] : List (List Int))) (inner := []) (ok := fun _ => True) (okp := fun _ => True) ?hr ?hp (fun _ hk => hk) trivial (Below.refl _ _) (Nat.le_refl _) (by simp) ?_; (case hd => rfl); (case hg => rfl); (case hr => first | (go_simp; done) | (go_simp; rfl)); (case hp => exact (Reps.none _ _)); intro v368 w40 ho41 hb hg_ hnew_; clear hg_ hnew_; (first | rw [← Ny367.out] at ho41 | (simp only [Int.reduceToNat] at ho41; rw [← Ny367.out] at ho41)); have n0_ := AZ.mk (Kd.R_below (by (with_reducible repeat (first | apply Kd.R_alloc | apply Kd.R_drewN | apply Kd.R_drew)); exact HO_357002.out) hb); have n1_ := AZ.mk (Kd.S_below (by (with_reducible repeat (first | apply Kd.S_alloc | apply Kd.S_drewN | apply Kd.S_drew)); exact HO_357003.out) hb); have n2_ := AZ.mk (Kd.R_elder' (by (with_reducible repeat (first | apply Kd.R_alloc | apply Kd.R_drewN | apply Kd.R_drew)); exact HO_357004.out) (Kd.S_base ho41) hb); have n3_ := AZ.mk (Kd.S_lower ho41 (pZ (by repeat (first | (with_reducible first | exact HB.out | apply pA | apply pN | apply pD | refine pS ?_ GE0.out | refine pS ?_ GE349.out | refine pS ?_ GE356.out) | exact HB.out)))); have n4_ := AZ.mk (bb_ (g := g0_) (o := .cells #[.int .i64 a0_0, .int .i64 a0_1, .slice A0_2 l0_2.length c0_2, .slice A0_3 l0_3.length c0_3, .slice A0_4 l0_4.length c0_4, .slice A0_5 l0_5.length c0_5] 27 (0, 0)) (by (with_reducible repeat (first | refine bn_ ?_ _ | refine bd_ ?_ | refine ba_ ?_ _)); exact BK0.out) hb); have n5_ := AZ.mk (bb_ (g := gb349) (o := .cells #[.int .i64 0, .int .i64 0, .slice none 0 0, .slice none 0 0, .slice none 0 0, .slice none 0 0] 27 (0, 0)) (by (with_reducible repeat (first | refine bn_ ?_ _ | refine bd_ ?_ | refine ba_ ?_ _)); exact BK349.out) hb); have n6_ := AZ.mk (bb_ (g := gb356) (o := .cells #[.int .i64 a0_0, .int .i64 a0_1, .slice Ao11 y353.length co11, u357003, u357004, .slice none 0 0] 27 (0, 0)) (by (with_reducible repeat (first | refine bn_ ?_ _ | refine bd_ ?_ | refine ba_ ?_ _)); exact BK356.out) hb); have n7_ := AZ.mk (pT (by repeat (first | (with_reducible first | exact HB.out | apply pA | apply pN | apply pD | refine pS ?_ GE0.out | refine pS ?_ GE349.out | refine pS ?_ GE356.out) | exact HB.out)) hb); clear HO_357002; clear HO_357003; clear HO_357004; clear BK0; clear BK349; clear BK356; clear HB; have HO_357002 := n0_; have HO_357003 := n1_; have HO_357004 := n2_; have HO369 := n3_; have BK0 := n4_; have BK349 := n5_; have BK356 := n6_; have HB := n7_; clear n0_ n1_ n2_ n3_ n4_ n5_ n6_ n7_; clear hb ho41))
      go_loopg [6, 7] k2 (fun kq v6 v7 w' => ∃ (x6_3 : List (List Int)) (x7_3 : Int), v7 = .int .i64 x7_3 ∧ AZ (spec_l02Copy.l2 kq x5_2 x6_3 x7_3 a0_0 a0_1 l0_2 l0_3 l0_4 l0_5 a0_0 a0_1 y353 x357003_1 x357004_2 = some (r1, r2, r3, r4, r5, r6)) ∧ AZ (kq ≤ k2) ∧ AZ (Kd.S (Kd.slice 2 (Kd.int .i64)) 49 w' w.heap.size (fun _ => True) v6 x6_3) ∧ AZ (Kd.R Kd.bool 4 w' w.heap.size (fun _ => True) (.slice Ao11 y353.length co11) y353) ∧ AZ (Kd.S (Kd.slice 47 k47) 48 w' w.heap.size (fun _ => True) u357003 x357003_1) ∧ AZ (Kd.R (Kd.slice 49 (Kd.slice 2 (Kd.int .i64))) 25 w' w.heap.size (fun k_ => some k_ ≠ (v6 : Value).ownBlock) u357004 x357004_2) ∧ AZ (w'.heap[g0_]? = some (.cells #[.int .i64 a0_0, .int .i64 a0_1, (.slice A0_2 l0_2.length c0_2), (.slice A0_3 l0_3.length c0_3), (.slice A0_4 l0_4.length c0_4), (.slice A0_5 l0_5.length c0_5)] 27 (0, 0))) ∧ AZ (w'.heap[gb349]? = some (.cells #[.int .i64 0, .int .i64 0, (.slice none 0 0), (.slice none 0 0), (.slice none 0 0), (.slice none 0 0)] 27 (0, 0))) ∧ AZ (w'.heap[gb356]? = some (.cells #[.int .i64 a0_0, .int .i64 a0_1, (.slice Ao11 y353.length co11), u357003, u357004, (.slice none 0 0)] 27 (0, 0))) ∧ AZ (Below w.heap.size w w'))
      case atStart => exact ⟨(y367), (0), (by first | rfl | (simp; done) | (simp [*]; done)), H', ⟨Nat.le_refl _⟩, ⟨by (with_reducible repeat (first | apply Kd.S_alloc | apply Kd.S_drewN | apply Kd.S_drew)); exact HO369.out⟩, ⟨by (with_reducible repeat (first | apply Kd.R_alloc | apply Kd.R_drewN | apply Kd.R_drew)); exact HO_357002.out⟩, ⟨by (with_reducible repeat (first | apply Kd.S_alloc | apply Kd.S_drewN | apply Kd.S_drew)); exact HO_357003.out⟩, ⟨by (with_reducible repeat (first | apply Kd.R_alloc | apply Kd.R_drewN | apply Kd.R_drew)); exact Kd.R_mono HO_357004.out (fun _ hk => hk.2)⟩, ⟨by (with_reducible repeat (first | refine bn_ ?_ _ | refine bd_ ?_ | refine ba_ ?_ _)); exact BK0.out⟩, ⟨by (with_reducible repeat (first | refine bn_ ?_ _ | refine bd_ ?_ | refine ba_ ?_ _)); exact BK349.out⟩, ⟨by (with_reducible repeat (first | refine bn_ ?_ _ | refine bd_ ?_ | refine ba_ ?_ _)); exact BK356.out⟩, ⟨by repeat (first | (with_reducible first | exact HB.out | apply pA | apply pN | apply pD | refine pS ?_ GE0.out | refine pS ?_ GE349.out | refine pS ?_ GE356.out) | exact HB.out)⟩⟩
      case round =>
       clear H'
       try clear c1
       try clear c2
       try clear p2
       try clear c3
       try clear p3
       try clear q3
       try clear hx3
       try clear p6
       try clear c7
       try clear c18
       try clear c18b0
       try clear c19
       try clear c19b0
       try clear c20
       try clear c21
       try clear c22
       try clear c23
       try clear c33
       try clear c34
       try clear c36
       try clear c36b0
       try clear p36
       try clear q36
       try clear hx36
       try clear c37
       try clear c38
       try clear hcz24_0
       try clear hcz24_1
       try clear hcz24_2
       try clear hcz24_3
       try clear hcz24_4
       try clear hcz24_5
       try clear hcz35_0
       try clear hcz35_1
       try clear hcz35_2
       try clear hcz35_3
       try clear hcz35_4
       try clear hcz35_5
       try clear hcz39_0
       try clear hcz39_1
       try clear hcz39_2
       try clear hcz39_3
       try clear hcz39_4
       try clear hcz39_5
       try clear hfz24_0
       try clear hfz24_1
       try clear hfz24_2
       try clear hfz24_3
       try clear hfz24_4
       try clear hfz24_5
       try clear hfz35_0
       try clear hfz35_1
       try clear hfz35_2
       try clear hfz35_3
       try clear hfz35_4
       try clear hfz35_5
       try clear hfz39_0
       try clear hfz39_1
       try clear hfz39_2
       try clear hfz39_3
       try clear hfz39_4
       try clear hfz39_5
       try clear hx360_0
       try clear p2
       try clear p3
       try clear p360
       try clear p6
       try clear q3
       try clear q360
       obtain ⟨x6_3, x7_3, rfl, HA, HK3, HO_6, HO_357002, HO_357003, HO_357004, BK0, BK349, BK356, HB⟩ := hrel
       cases gk with
       | zero => exact absurd HA.out (by simp [spec_l02Copy.l2])
       | succ k3 =>
        have H := HA.out
        clear HA
        simp only [spec_l02Copy.l2] at H
        by_cases c42 : 0 ≤ x5_2
        rotate_left
        ·rw [if_neg c42] at H
         exact absurd H (by simp)
        rw [if_pos c42] at H
        have c42b0 : decide (0 ≤ x5_2) = true := decide_eq_true c42
        clear c42
        by_cases c43 : x5_2 < (l0_4.length : Int)
        rotate_left
        ·rw [if_neg c43] at H
         exact absurd H (by simp)
        rw [if_pos c43] at H
        have c43b0 : decide (x5_2 < (l0_4.length : Int)) = true := decide_eq_true c43
        clear c43
        by_cases c44 : x7_3 < ((rd_L5 l0_4 x5_2).length : Int)
        rotate_left
        ·rw [if_neg c44] at H
         have c44b0 : decide (x7_3 < ((rd_L5 l0_4 x5_2).length : Int)) = false := decide_eq_false c44
         clear c44
         by_cases c54 : x357004_2.length < 5864062014805
         rotate_left
         ·rw [if_neg c54] at H
          exact absurd H (by simp)
         rw [if_pos c54] at H
         have LMc54 := AZ.mk c54
         clear c54
         obtain ⟨y379, hy379⟩ : ∃ y_ : List (List (List Int)), y_ = (x357004_2 ++ [x6_3]) := ⟨_, rfl⟩
         replace H : (spec_l02Copy.l1 k3 (wrap64 (x5_2 + 1)) a0_0 a0_1 l0_2 l0_3 l0_4 l0_5 a0_0 a0_1 y353 x357003_1 y379) = some (r1, r2, r3, r4, r5, r6) := by first | (rw [hy379]; with_reducible exact H) | (have H2_ := (Option.bind_some _ _).symm.trans H; rw [hy379]; with_reducible exact H2_) | (have H2_ := (Option.bind_some _ _).symm.trans H; with_reducible exact H2_) | with_reducible exact H | (rw [hy379]; exact H) | exact H
         have Ny379 := AZ.mk hy379
         clear hy379
         have H' := AZ.mk H
         clear H
         have hnb55 := NB0_349.out
         have hnc55 := NB349_0.out
         have hnb56 := NB0_356.out
         have hnc56 := NB356_0.out
         obtain ⟨hcz57_0, hcz57_1, hcz57_2, hcz57_3, hcz57_4, hcz57_5⟩ := c6 BK0.out
         obtain ⟨hfz57_0, hfz57_1, hfz57_2, hfz57_3, hfz57_4, hfz57_5⟩ := f6 BK0.out
         have p370 : 0 ≤ (x5_2 : Int) := oT (by first | (with_reducible assumption) | assumption)
         have q370 : x5_2 < (l0_4.length : Int) := oT (by first | (with_reducible assumption) | assumption)
         obtain ⟨ad370, A370_0, c370_0, e370, hx370_0, hl370_0, hi370_0⟩ := at_L5 HR0_4.out x5_2 p370 q370
         cases e370
         replace hx370_0 := (HB.out.cell (World.block_lt_of_cell? w _ hx370_0)).trans hx370_0
         have HR370_0 := AZ.mk hi370_0
         have HC370_0 := AZ.mk hl370_0
         clear hi370_0 hl370_0
         replace p370 := eq_true p370
         replace q370 := eq_true q370
         have hnb58 := NB356_349.out
         have hnc58 := NB349_356.out
         obtain ⟨hcz59_0, hcz59_1, hcz59_2, hcz59_3, hcz59_4, hcz59_5⟩ := c6 BK356.out
         obtain ⟨hfz59_0, hfz59_1, hfz59_2, hfz59_3, hfz59_4, hfz59_5⟩ := f6 BK356.out
         obtain ⟨Ao61, co61, eo61⟩ := Kd.S_slice HO_6.out
         subst eo61
         go_wp2_with (first | ((with_reducible refine gate_builtin (b := .append) (xs := #[.tmp 84, .tmp 86]) rfl ?_); at_builtin; refine Kd.R_append (Kd.slice 49 (Kd.slice 2 (Kd.int .i64))) (w0 := w) w.heap.size rfl (.tmp 84) (.tmp 86) 24 25 (.slice none 0 0) 24 rfl Try.underlying24 info25 rfl (by decide) (by omega) u357004 x357004_2 x6_3 [.slice Ao61 x6_3.length co61] (fun _ => True) (fun k_ => ((fun _ => True)) k_ ∧ some k_ ≠ (u357004 : Value).ownBlock) rfl rfl ?aP (fun _ hk => hk) ?aF ?aO ?aB ?aS ?aL ?_; (case aP => exact Kd.M_row (Kd.R_mono (Kd.R_apart' ((Kd.S_R HO_6.out)) (Kd.R_typed HO_357004.out) (by decide)) (fun k_ hk => ⟨trivial, hk.2⟩))); (case aB => exact (by repeat (first | (with_reducible first | exact HB.out | apply pA | apply pN | apply pD | refine pS ?_ GE0.out | refine pS ?_ GE349.out | refine pS ?_ GE356.out) | exact HB.out))); (case aF => exact (fun _ _ => trivial)); (case aO => exact (by (with_reducible repeat (first | apply Kd.R_alloc | apply Kd.R_drewN | apply Kd.R_drew)); exact Kd.R_mono HO_357004.out (fun _ hk => trivial))); (case aS => exact (pZ (by repeat (first | (with_reducible first | exact HB.out | apply pA | apply pN | apply pD | refine pS ?_ GE0.out | refine pS ?_ GE349.out | refine pS ?_ GE356.out) | exact HB.out)))); (case aL => have := LMc54.out; omega); intro v380 w60 ho hb hg hat; rw [← Ny379.out] at ho; have n0_ := AZ.mk (Kd.R_over' (by (with_reducible repeat (first | apply Kd.R_alloc | apply Kd.R_drewN | apply Kd.R_drew)); exact HO_357002.out) (Kd.R_typed (by (with_reducible repeat (first | apply Kd.R_alloc | apply Kd.R_drewN | apply Kd.R_drew)); exact HO_357004.out)) (by decide) hg); have n1_ := AZ.mk (Kd.S_over' (by (with_reducible repeat (first | apply Kd.S_alloc | apply Kd.S_drewN | apply Kd.S_drew)); exact HO_357003.out) (Kd.R_typed (by (with_reducible repeat (first | apply Kd.R_alloc | apply Kd.R_drewN | apply Kd.R_drew)); exact HO_357004.out)) (by decide) hg); have n2_ := AZ.mk (blk_grown (g := g0_) (o := .cells #[.int .i64 a0_0, .int .i64 a0_1, .slice A0_2 l0_2.length c0_2, .slice A0_3 l0_3.length c0_3, .slice (some ad370) l0_4.length c0_4, .slice A0_5 l0_5.length c0_5] 27 (0, 0)) (by (with_reducible repeat (first | refine bn_ ?_ _ | refine bd_ ?_ | refine ba_ ?_ _)); exact BK0.out) hg (Kd.R_ne HO_357004.out BK0.out (by decide))); have n3_ := AZ.mk (blk_grown (g := gb349) (o := .cells #[.int .i64 0, .int .i64 0, .slice none 0 0, .slice none 0 0, .slice none 0 0, .slice none 0 0] 27 (0, 0)) (by (with_reducible repeat (first | refine bn_ ?_ _ | refine bd_ ?_ | refine ba_ ?_ _)); exact BK349.out) hg (Kd.R_ne HO_357004.out BK349.out (by decide))); have n4_ := AZ.mk (blk_grown (g := gb356) (o := .cells #[.int .i64 a0_0, .int .i64 a0_1, .slice Ao11 y353.length co11, u357003, u357004, .slice none 0 0] 27 (0, 0)) (by (with_reducible repeat (first | refine bn_ ?_ _ | refine bd_ ?_ | refine ba_ ?_ _)); exact BK356.out) hg (Kd.R_ne HO_357004.out BK356.out (by decide))); have n5_ := AZ.mk (hb); have n6_ := AZ.mk (ho); clear HO_357002; clear HO_357003; clear BK0; clear BK349; clear BK356; clear HB; clear HO_357004; clear HO_6; have HO_357002 := n0_; have HO_357003 := n1_; have BK0 := n2_; have BK349 := n3_; have BK356 := n4_; have HB := n5_; have HO381 := n6_; clear n0_ n1_ n2_ n3_ n4_ n5_ n6_; clear ho hb hg hat; obtain ⟨Ao62, co62, eo62⟩ := Kd.R_slice HO381.out; subst eo62; obtain ⟨hcz63_0, hcz63_1, hcz63_2, hcz63_3, hcz63_4, hcz63_5⟩ := c6 BK356.out; obtain ⟨hfz63_0, hfz63_1, hfz63_2, hfz63_3, hfz63_4, hfz63_5⟩ := f6 BK356.out))
         go_roundg k3
         case measure => have := HK1.out; have := HK2.out; have := HK3.out; omega
         case rel => exact ⟨(wrap64 (x5_2 + 1)), (y379), (.slice Ao62 y379.length co62), (by first | rfl | (simp; done) | (simp [*]; done)), H', ⟨by have := HK1.out; have := HK2.out; have := HK3.out; omega⟩, ⟨by (with_reducible repeat (first | apply Kd.R_alloc | apply Kd.R_drewN | apply Kd.R_drew)); exact Kd.R_mono (Kd.R_far (p := ⟨gb356, 4, none⟩) (Kd.R_types HO_357002.out BK356.out (by decide)) (fun _ hk => hk.2) (.slice Ao62 y379.length co62)) (fun _ hk => trivial)⟩, ⟨by (with_reducible repeat (first | apply Kd.S_alloc | apply Kd.S_drewN | apply Kd.S_drew)); exact Kd.S_mono (Kd.S_far (p := ⟨gb356, 4, none⟩) (Kd.S_types HO_357003.out BK356.out (by decide)) (fun _ hk => hk.2) (.slice Ao62 y379.length co62)) (fun _ hk => trivial)⟩, ⟨by (with_reducible repeat (first | apply Kd.R_alloc | apply Kd.R_drewN | apply Kd.R_drew)); exact Kd.R_mono (Kd.R_far (p := ⟨gb356, 4, none⟩) (Kd.R_types HO381.out BK356.out (by decide)) (fun _ hk => hk.2) (.slice Ao62 y379.length co62)) (fun _ hk => trivial)⟩, ⟨by (with_reducible repeat (first | refine bn_ ?_ _ | refine bd_ ?_ | refine ba_ ?_ _)); refine blk_far ?_ NB0_356.out _; (with_reducible repeat (first | refine bn_ ?_ _ | refine bd_ ?_ | refine ba_ ?_ _)); exact BK0.out⟩, ⟨by (with_reducible repeat (first | refine bn_ ?_ _ | refine bd_ ?_ | refine ba_ ?_ _)); refine blk_far ?_ NB349_356.out _; (with_reducible repeat (first | refine bn_ ?_ _ | refine bd_ ?_ | refine ba_ ?_ _)); exact BK349.out⟩, ⟨by (with_reducible repeat (first | refine bn_ ?_ _ | refine bd_ ?_ | refine ba_ ?_ _)); refine blk_put (cs := #[.int .i64 a0_0, .int .i64 a0_1, .slice Ao11 y353.length co11, u357003, u357004, .slice none 0 0]) ?_ 4 _ rfl; (with_reducible repeat (first | refine bn_ ?_ _ | refine bd_ ?_ | refine ba_ ?_ _)); exact BK356.out⟩, ⟨by repeat (first | (with_reducible first | exact HB.out | apply pA | apply pN | apply pD | refine pS ?_ GE0.out | refine pS ?_ GE349.out | refine pS ?_ GE356.out) | exact HB.out)⟩⟩
        rw [if_pos c44] at H
        have c44b0 : decide (x7_3 < ((rd_L5 l0_4 x5_2).length : Int)) = true := decide_eq_true c44
        clear c44
        by_cases c45 : 0 ≤ x7_3
        rotate_left
        ·rw [if_neg c45] at H
         exact absurd H (by simp)
        rw [if_pos c45] at H
        have c45b0 : decide (0 ≤ x7_3) = true := decide_eq_true c45
        clear c45
        replace H := Option.bind_eq_some_iff.mp H
        obtain ⟨t373, A460, H⟩ := H
        replace H : (if x6_3.length < 5864062014805 then (spec_l02Copy.l2 k3 x5_2 (x6_3 ++ [t373]) (wrap64 (x7_3 + 1)) a0_0 a0_1 l0_2 l0_3 l0_4 l0_5 a0_0 a0_1 y353 x357003_1 x357004_2) else (none)) = some (r1, r2, r3, r4, r5, r6) := H
        have A46 := AZ.mk A460
        clear A460
        by_cases c47 : x6_3.length < 5864062014805
        rotate_left
        ·rw [if_neg c47] at H
         exact absurd H (by simp)
        rw [if_pos c47] at H
        have LMc47 := AZ.mk c47
        clear c47
        obtain ⟨y376, hy376⟩ : ∃ y_ : List (List Int), y_ = (x6_3 ++ [t373]) := ⟨_, rfl⟩
        replace H : (spec_l02Copy.l2 k3 x5_2 y376 (wrap64 (x7_3 + 1)) a0_0 a0_1 l0_2 l0_3 l0_4 l0_5 a0_0 a0_1 y353 x357003_1 x357004_2) = some (r1, r2, r3, r4, r5, r6) := by first | (rw [hy376]; with_reducible exact H) | (have H2_ := (Option.bind_some _ _).symm.trans H; rw [hy376]; with_reducible exact H2_) | (have H2_ := (Option.bind_some _ _).symm.trans H; with_reducible exact H2_) | with_reducible exact H | (rw [hy376]; exact H) | exact H
        have Ny376 := AZ.mk hy376
        clear hy376
        have H' := AZ.mk H
        clear H
        have hnb48 := NB0_349.out
        have hnc48 := NB349_0.out
        have hnb49 := NB0_356.out
        have hnc49 := NB356_0.out
        obtain ⟨hcz50_0, hcz50_1, hcz50_2, hcz50_3, hcz50_4, hcz50_5⟩ := c6 BK0.out
        obtain ⟨hfz50_0, hfz50_1, hfz50_2, hfz50_3, hfz50_4, hfz50_5⟩ := f6 BK0.out
        have p370 : 0 ≤ (x5_2 : Int) := oT (by first | (with_reducible assumption) | assumption)
        have q370 : x5_2 < (l0_4.length : Int) := oT (by first | (with_reducible assumption) | assumption)
        obtain ⟨ad370, A370_0, c370_0, e370, hx370_0, hl370_0, hi370_0⟩ := at_L5 HR0_4.out x5_2 p370 q370
        cases e370
        replace hx370_0 := (HB.out.cell (World.block_lt_of_cell? w _ hx370_0)).trans hx370_0
        have HR370_0 := AZ.mk hi370_0
        have HC370_0 := AZ.mk hl370_0
        clear hi370_0 hl370_0
        replace p370 := eq_true p370
        replace q370 := eq_true q370
        have p371 : 0 ≤ (x5_2 : Int) := oT (by first | (with_reducible assumption) | assumption)
        have q371 : x5_2 < (l0_4.length : Int) := oT (by first | (with_reducible assumption) | assumption)
        obtain ⟨ad371, A371_0, c371_0, e371, hx371_0, hl371_0, hi371_0⟩ := at_L5 HR0_4.out x5_2 p371 q371
        obtain rfl : ad370 = ad371 := (by injection e371)
        replace hx371_0 := (HB.out.cell (World.block_lt_of_cell? w _ hx371_0)).trans hx371_0
        have HR371_0 := AZ.mk hi371_0
        have HC371_0 := AZ.mk hl371_0
        clear hi371_0 hl371_0
        replace p371 := eq_true p371
        replace q371 := eq_true q371
        have ea_ := Option.some.inj (hx370_0.symm.trans hx371_0)
        injection ea_ with ea_ en_ ec_
        subst ea_
        subst ec_
        clear en_
        have p372 : 0 ≤ (x7_3 : Int) := oT (by first | (with_reducible assumption) | assumption)
        have q372 : x7_3 < ((rd_L5 l0_4 x5_2).length : Int) := oT (by first | (with_reducible assumption) | assumption)
        obtain ⟨ad372, A372_0, c372_0, e372, hx372_0, hl372_0, hi372_0⟩ := at_L4 HR371_0.out x7_3 p372 q372
        cases e372
        replace hx372_0 := (HB.out.cell (World.block_lt_of_cell? w _ hx372_0)).trans hx372_0
        have HR372_0 := AZ.mk hi372_0
        have HC372_0 := AZ.mk hl372_0
        clear hi372_0 hl372_0
        replace p372 := eq_true p372
        replace q372 := eq_true q372
        go_wp2_with (first | ((with_reducible refine gate_callee (f := 94) rfl ?_); refine goesL_ (some 80) rfl rfl Try.func94 (by kernel_rfl) rfl #[.slice A372_0 (rd_L4 (rd_L5 l0_4 x5_2) x7_3).length c372_0] rfl (by (try simp only [List.map_toArray, List.map_cons, List.map_nil]); first | done | rfl | (simp only [List.length_drop, List.length_take]; rfl)) ?_; (with_reducible refine (spec_l00Own.calls _ _ (rd_L4 (rd_L5 l0_4 x5_2) x7_3) t373 _ ?side1 ?side2 A46.out).mono ?_); (case side1 => repeat (first | exact (Kd.C_below HR372_0.out HB.out) | (with_reducible refine Kd.C_alloc ?_ _) | (with_reducible refine Kd.C_drewN ?_ _) | (with_reducible refine Kd.C_drew ?_))); (case side2 => exact HC372_0.out); rintro e w51 ⟨v374, rfl, ho0, hb⟩; refine ⟨_, rfl, ?_⟩; have n0_ := AZ.mk (Kd.S_elder' (by (with_reducible repeat (first | apply Kd.S_alloc | apply Kd.S_drewN | apply Kd.S_drew)); exact HO_6.out) (Kd.R_base ho0) hb); have n1_ := AZ.mk (Kd.R_below (by (with_reducible repeat (first | apply Kd.R_alloc | apply Kd.R_drewN | apply Kd.R_drew)); exact HO_357002.out) hb); have n2_ := AZ.mk (Kd.S_below (by (with_reducible repeat (first | apply Kd.S_alloc | apply Kd.S_drewN | apply Kd.S_drew)); exact HO_357003.out) hb); have n3_ := AZ.mk (Kd.R_elder' (by (with_reducible repeat (first | apply Kd.R_alloc | apply Kd.R_drewN | apply Kd.R_drew)); exact HO_357004.out) (Kd.R_base ho0) hb); have n4_ := AZ.mk (Kd.R_lower ho0 (pZ (by repeat (first | (with_reducible first | exact HB.out | apply pA | apply pN | apply pD | refine pS ?_ GE0.out | refine pS ?_ GE349.out | refine pS ?_ GE356.out) | exact HB.out)))); have n5_ := AZ.mk (bb_ (g := g0_) (o := .cells #[.int .i64 a0_0, .int .i64 a0_1, .slice A0_2 l0_2.length c0_2, .slice A0_3 l0_3.length c0_3, .slice (some ad370) l0_4.length c0_4, .slice A0_5 l0_5.length c0_5] 27 (0, 0)) (by (with_reducible repeat (first | refine bn_ ?_ _ | refine bd_ ?_ | refine ba_ ?_ _)); exact BK0.out) hb); have n6_ := AZ.mk (bb_ (g := gb349) (o := .cells #[.int .i64 0, .int .i64 0, .slice none 0 0, .slice none 0 0, .slice none 0 0, .slice none 0 0] 27 (0, 0)) (by (with_reducible repeat (first | refine bn_ ?_ _ | refine bd_ ?_ | refine ba_ ?_ _)); exact BK349.out) hb); have n7_ := AZ.mk (bb_ (g := gb356) (o := .cells #[.int .i64 a0_0, .int .i64 a0_1, .slice Ao11 y353.length co11, u357003, u357004, .slice none 0 0] 27 (0, 0)) (by (with_reducible repeat (first | refine bn_ ?_ _ | refine bd_ ?_ | refine ba_ ?_ _)); exact BK356.out) hb); have n8_ := AZ.mk (pT (by repeat (first | (with_reducible first | exact HB.out | apply pA | apply pN | apply pD | refine pS ?_ GE0.out | refine pS ?_ GE349.out | refine pS ?_ GE356.out) | exact HB.out)) hb); clear HO_6; clear HO_357002; clear HO_357003; clear HO_357004; clear BK0; clear BK349; clear BK356; clear HB; have HO_6 := n0_; have HO_357002 := n1_; have HO_357003 := n2_; have HO_357004 := n3_; have HO375 := n4_; have BK0 := n5_; have BK349 := n6_; have BK356 := n7_; have HB := n8_; clear n0_ n1_ n2_ n3_ n4_ n5_ n6_ n7_ n8_; (try clear hb); (try clear hb2); (try clear hk); (try clear hi); (try clear ho0); obtain ⟨Ao53, co53, eo53⟩ := Kd.R_slice HO375.out; subst eo53) | ((with_reducible refine gate_builtin (b := .append) (xs := #[.tmp 69, .tmp 81]) rfl ?_); at_builtin; refine Kd.S_append (Kd.slice 2 (Kd.int .i64)) (w0 := w) w.heap.size rfl (.tmp 69) (.tmp 81) 25 49 (.slice none 0 0) 24 rfl Try.underlying25 info49 rfl (by decide) (by omega) u6 x6_3 t373 [.slice Ao53 t373.length co53] (fun _ => True) (fun k_ => some k_ = (.slice Ao53 t373.length co53 : Value).ownBlock) rfl rfl ?aP (fun k_ hk_ => ((Kd.R_mono (ok' := fun k_ => ((fun _ => True)) k_ ∧ some k_ ≠ (u6 : Value).ownBlock) (Kd.R_apart' (HO375.out) (Kd.S_typed HO_6.out) (by decide)) (fun k_ hk => ⟨trivial, hk.2⟩))).1 k_ hk_.symm) ?aF ?aO ?aB ?aS ?aL ?_; (case aP => exact Kd.M_row (Kd.R_mono (Kd.R_tight rfl (Kd.R_mono (ok' := fun k_ => ((fun _ => True)) k_ ∧ some k_ ≠ (u6 : Value).ownBlock) (Kd.R_apart' (HO375.out) (Kd.S_typed HO_6.out) (by decide)) (fun k_ hk => ⟨trivial, hk.2⟩))) (fun _ h_ => h_))); (case aB => exact (by repeat (first | (with_reducible first | exact HB.out | apply pA | apply pN | apply pD | refine pS ?_ GE0.out | refine pS ?_ GE349.out | refine pS ?_ GE356.out) | exact HB.out))); (case aF => exact (fun _ _ => trivial)); (case aO => exact (by (with_reducible repeat (first | apply Kd.S_alloc | apply Kd.S_drewN | apply Kd.S_drew)); exact Kd.S_mono HO_6.out (fun k_ hk => ⟨trivial, fun e_ => hk.2 e_⟩))); (case aS => exact (pZ (by repeat (first | (with_reducible first | exact HB.out | apply pA | apply pN | apply pD | refine pS ?_ GE0.out | refine pS ?_ GE349.out | refine pS ?_ GE356.out) | exact HB.out)))); (case aL => have := LMc47.out; omega); intro v377 w52 ho hb hg hat; rw [← Ny376.out] at ho; have n0_ := AZ.mk (Kd.R_over' (by (with_reducible repeat (first | apply Kd.R_alloc | apply Kd.R_drewN | apply Kd.R_drew)); exact HO_357002.out) (Kd.S_typed (by (with_reducible repeat (first | apply Kd.S_alloc | apply Kd.S_drewN | apply Kd.S_drew)); exact HO_6.out)) (by decide) hg); have n1_ := AZ.mk (Kd.S_over' (by (with_reducible repeat (first | apply Kd.S_alloc | apply Kd.S_drewN | apply Kd.S_drew)); exact HO_357003.out) (Kd.S_typed (by (with_reducible repeat (first | apply Kd.S_alloc | apply Kd.S_drewN | apply Kd.S_drew)); exact HO_6.out)) (by decide) hg); have n2_ := AZ.mk (Kd.R_after (ok := (fun k_ => some k_ ≠ (.slice Ao53 t373.length co53 : Value).ownBlock)) (by (with_reducible repeat (first | apply Kd.R_alloc | apply Kd.R_drewN | apply Kd.R_drew)); exact Kd.R_mono HO_357004.out (fun _ hk => ⟨hk.2, hk.1⟩)) hg hat); have n3_ := AZ.mk (blk_grown (g := g0_) (o := .cells #[.int .i64 a0_0, .int .i64 a0_1, .slice A0_2 l0_2.length c0_2, .slice A0_3 l0_3.length c0_3, .slice (some ad370) l0_4.length c0_4, .slice A0_5 l0_5.length c0_5] 27 (0, 0)) (by (with_reducible repeat (first | refine bn_ ?_ _ | refine bd_ ?_ | refine ba_ ?_ _)); exact BK0.out) hg (Kd.S_ne HO_6.out BK0.out (by decide))); have n4_ := AZ.mk (blk_grown (g := gb349) (o := .cells #[.int .i64 0, .int .i64 0, .slice none 0 0, .slice none 0 0, .slice none 0 0, .slice none 0 0] 27 (0, 0)) (by (with_reducible repeat (first | refine bn_ ?_ _ | refine bd_ ?_ | refine ba_ ?_ _)); exact BK349.out) hg (Kd.S_ne HO_6.out BK349.out (by decide))); have n5_ := AZ.mk (blk_grown (g := gb356) (o := .cells #[.int .i64 a0_0, .int .i64 a0_1, .slice Ao11 y353.length co11, u357003, u357004, .slice none 0 0] 27 (0, 0)) (by (with_reducible repeat (first | refine bn_ ?_ _ | refine bd_ ?_ | refine ba_ ?_ _)); exact BK356.out) hg (Kd.S_ne HO_6.out BK356.out (by decide))); have n6_ := AZ.mk (hb); have n7_ := AZ.mk (ho); clear HO_357002; clear HO_357003; clear HO_357004; clear BK0; clear BK349; clear BK356; clear HB; clear HO_6; clear HO375; have HO_357002 := n0_; have HO_357003 := n1_; have HO_357004 := n2_; have BK0 := n3_; have BK349 := n4_; have BK356 := n5_; have HB := n6_; have HO378 := n7_; clear n0_ n1_ n2_ n3_ n4_ n5_ n6_ n7_; clear ho hb hg hat))
        go_roundg k3
        case measure => have := HK1.out; have := HK2.out; have := HK3.out; omega
        case rel => exact ⟨(y376), (wrap64 (x7_3 + 1)), (by first | rfl | (simp; done) | (simp [*]; done)), H', ⟨by have := HK1.out; have := HK2.out; have := HK3.out; omega⟩, ⟨by (with_reducible repeat (first | apply Kd.S_alloc | apply Kd.S_drewN | apply Kd.S_drew)); exact HO378.out⟩, ⟨by (with_reducible repeat (first | apply Kd.R_alloc | apply Kd.R_drewN | apply Kd.R_drew)); exact HO_357002.out⟩, ⟨by (with_reducible repeat (first | apply Kd.S_alloc | apply Kd.S_drewN | apply Kd.S_drew)); exact HO_357003.out⟩, ⟨by (with_reducible repeat (first | apply Kd.R_alloc | apply Kd.R_drewN | apply Kd.R_drew)); exact Kd.R_mono HO_357004.out (fun _ hk => hk.2)⟩, ⟨by (with_reducible repeat (first | refine bn_ ?_ _ | refine bd_ ?_ | refine ba_ ?_ _)); exact BK0.out⟩, ⟨by (with_reducible repeat (first | refine bn_ ?_ _ | refine bd_ ?_ | refine ba_ ?_ _)); exact BK349.out⟩, ⟨by (with_reducible repeat (first | refine bn_ ?_ _ | refine bd_ ?_ | refine ba_ ?_ _)); exact BK356.out⟩, ⟨by repeat (first | (with_reducible first | exact HB.out | apply pA | apply pN | apply pD | refine pS ?_ GE0.out | refine pS ?_ GE349.out | refine pS ?_ GE356.out) | exact HB.out)⟩⟩
     rw [if_neg c36] at H
     have c36b0 : decide (x5_2 < (l0_4.length : Int)) = false := decide_eq_false c36
     clear c36
     have H' := AZ.mk H
     clear H
     have hnb64 := NB0_349.out
     have hnc64 := NB349_0.out
     have hnb65 := NB0_356.out
     have hnc65 := NB356_0.out
     obtain ⟨hcz66_0, hcz66_1, hcz66_2, hcz66_3, hcz66_4, hcz66_5⟩ := c6 BK0.out
     obtain ⟨hfz66_0, hfz66_1, hfz66_2, hfz66_3, hfz66_4, hfz66_5⟩ := f6 BK0.out
     go_wp2
     go_loopg [8] k2 (fun kq v8 w' => ∃ (x8_3 : Int) (x357005_3 : List (List Int)) (u357005 : Value), v8 = .int .i64 x8_3 ∧ AZ (spec_l02Copy.l3 kq x8_3 a0_0 a0_1 l0_2 l0_3 l0_4 l0_5 a0_0 a0_1 y353 x357003_1 x357004_2 x357005_3 = some (r1, r2, r3, r4, r5, r6)) ∧ AZ (kq ≤ k2) ∧ AZ (Kd.R Kd.bool 4 w' w.heap.size (fun _ => True) (.slice Ao11 y353.length co11) y353) ∧ AZ (Kd.S (Kd.slice 47 k47) 48 w' w.heap.size (fun _ => True) u357003 x357003_1) ∧ AZ (Kd.R (Kd.slice 49 (Kd.slice 2 (Kd.int .i64))) 25 w' w.heap.size (fun k_ => some k_ ≠ (u357005 : Value).ownBlock) u357004 x357004_2) ∧ AZ (Kd.S (Kd.slice 2 (Kd.int .i64)) 49 w' w.heap.size (fun _ => True) u357005 x357005_3) ∧ AZ (w'.heap[g0_]? = some (.cells #[.int .i64 a0_0, .int .i64 a0_1, (.slice A0_2 l0_2.length c0_2), (.slice A0_3 l0_3.length c0_3), (.slice A0_4 l0_4.length c0_4), (.slice A0_5 l0_5.length c0_5)] 27 (0, 0))) ∧ AZ (w'.heap[gb349]? = some (.cells #[.int .i64 0, .int .i64 0, (.slice none 0 0), (.slice none 0 0), (.slice none 0 0), (.slice none 0 0)] 27 (0, 0))) ∧ AZ (w'.heap[gb356]? = some (.cells #[.int .i64 a0_0, .int .i64 a0_1, (.slice Ao11 y353.length co11), u357003, u357004, u357005] 27 (0, 0))) ∧ AZ (Below w.heap.size w w'))
     case atStart => exact ⟨(0), (([] : List (List Int))), (.slice none 0 0), (by first | rfl | (simp; done) | (simp [*]; done)), H', ⟨Nat.le_refl _⟩, ⟨by (with_reducible repeat (first | apply Kd.R_alloc | apply Kd.R_drewN | apply Kd.R_drew)); exact HO_357002.out⟩, ⟨by (with_reducible repeat (first | apply Kd.S_alloc | apply Kd.S_drewN | apply Kd.S_drew)); exact HO_357003.out⟩, ⟨by (with_reducible repeat (first | apply Kd.R_alloc | apply Kd.R_drewN | apply Kd.R_drew)); exact Kd.R_mono HO_357004.out (fun _ hk => (by simp [Value.ownBlock]))⟩, ⟨by first | exact Kd.S_nil _ _ _ _ _ | exact Kd.N_nil _ _ _ _ _ | exact Kd.V_nil _ _ _ _ _ | exact Kd.Q_nil _ _ _ _ _ | exact Kd.R_nil _ _ _ _ _⟩, ⟨by (with_reducible repeat (first | refine bn_ ?_ _ | refine bd_ ?_ | refine ba_ ?_ _)); exact BK0.out⟩, ⟨by (with_reducible repeat (first | refine bn_ ?_ _ | refine bd_ ?_ | refine ba_ ?_ _)); exact BK349.out⟩, ⟨by (with_reducible repeat (first | refine bn_ ?_ _ | refine bd_ ?_ | refine ba_ ?_ _)); exact BK356.out⟩, ⟨by repeat (first | (with_reducible first | exact HB.out | apply pA | apply pN | apply pD | refine pS ?_ GE0.out | refine pS ?_ GE349.out | refine pS ?_ GE356.out) | exact HB.out)⟩⟩
     case round =>
      clear H'
      try clear c1
      try clear c2
      try clear p2
      try clear c3
      try clear p3
      try clear q3
      try clear hx3
      try clear c4
      try clear c5
      try clear c6
      try clear p6
      try clear c7
      try clear c9
      try clear c18
      try clear c18b0
      try clear c19
      try clear c19b0
      try clear c20
      try clear c21
      try clear c22
      try clear c23
      try clear c33
      try clear c34
      try clear c36
      try clear c36b0
      try clear p36
      try clear q36
      try clear hx36
      try clear c37
      try clear p37
      try clear q37
      try clear hx37
      try clear c38
      try clear c42
      try clear c42b0
      try clear c43
      try clear c43b0
      try clear c44
      try clear c44b0
      try clear c45
      try clear c45b0
      try clear c47
      try clear c48
      try clear c49
      try clear c54
      try clear c55
      try clear c56
      try clear c58
      try clear c64
      try clear p64
      try clear c65
      try clear hcz24_0
      try clear hcz24_1
      try clear hcz24_2
      try clear hcz24_3
      try clear hcz24_4
      try clear hcz24_5
      try clear hcz35_0
      try clear hcz35_1
      try clear hcz35_2
      try clear hcz35_3
      try clear hcz35_4
      try clear hcz35_5
      try clear hcz39_0
      try clear hcz39_1
      try clear hcz39_2
      try clear hcz39_3
      try clear hcz39_4
      try clear hcz39_5
      try clear hcz50_0
      try clear hcz50_1
      try clear hcz50_2
      try clear hcz50_3
      try clear hcz50_4
      try clear hcz50_5
      try clear hcz57_0
      try clear hcz57_1
      try clear hcz57_2
      try clear hcz57_3
      try clear hcz57_4
      try clear hcz57_5
      try clear hcz59_0
      try clear hcz59_1
      try clear hcz59_2
      try clear hcz59_3
      try clear hcz59_4
      try clear hcz59_5
      try clear hcz63_0
      try clear hcz63_1
      try clear hcz63_2
      try clear hcz63_3
      try clear hcz63_4
      try clear hcz63_5
      try clear hcz66_0
      try clear hcz66_1
      try clear hcz66_2
      try clear hcz66_3
      try clear hcz66_4
      try clear hcz66_5
      try clear hfz24_0
      try clear hfz24_1
      try clear hfz24_2
      try clear hfz24_3
      try clear hfz24_4
      try clear hfz24_5
      try clear hfz35_0
      try clear hfz35_1
      try clear hfz35_2
      try clear hfz35_3
      try clear hfz35_4
      try clear hfz35_5
      try clear hfz39_0
      try clear hfz39_1
      try clear hfz39_2
      try clear hfz39_3
      try clear hfz39_4
      try clear hfz39_5
      try clear hfz50_0
      try clear hfz50_1
      try clear hfz50_2
      try clear hfz50_3
      try clear hfz50_4
      try clear hfz50_5
      try clear hfz57_0
      try clear hfz57_1
      try clear hfz57_2
      try clear hfz57_3
      try clear hfz57_4
      try clear hfz57_5
      try clear hfz59_0
      try clear hfz59_1
      try clear hfz59_2
      try clear hfz59_3
      try clear hfz59_4
      try clear hfz59_5
      try clear hfz63_0
      try clear hfz63_1
      try clear hfz63_2
      try clear hfz63_3
      try clear hfz63_4
      try clear hfz63_5
      try clear hfz66_0
      try clear hfz66_1
      try clear hfz66_2
      try clear hfz66_3
      try clear hfz66_4
      try clear hfz66_5
      try clear hx360_0
      try clear hx370_0
      try clear hx371_0
      try clear hx372_0
      try clear p2
      try clear p3
      try clear p36
      try clear p360
      try clear p370
      try clear p371
      try clear p372
      try clear p6
      try clear q3
      try clear q36
      try clear q360
      try clear q370
      try clear q371
      try clear q372
      obtain ⟨x8_3, x357005_3, u357005, rfl, HA, HK3, HO_357002, HO_357003, HO_357004, HO_357005, BK0, BK349, BK356, HB⟩ := hrel
      cases gk with
      | zero => exact absurd HA.out (by simp [spec_l02Copy.l3])
      | succ k3 =>
       have H := HA.out
       clear HA
       simp only [spec_l02Copy.l3] at H
       by_cases c67 : x8_3 < (l0_5.length : Int)
       rotate_left
       ·rw [if_neg c67] at H
        have c67b0 : decide (x8_3 < (l0_5.length : Int)) = false := decide_eq_false c67
        clear c67
        simp only [Option.some.injEq, Prod.mk.injEq] at H
        obtain ⟨rfl, rfl, rfl, rfl, rfl, rfl⟩ := H
        have hnb80 := NB0_349.out
        have hnc80 := NB349_0.out
        have hnb81 := NB0_356.out
        have hnc81 := NB356_0.out
        obtain ⟨hcz82_0, hcz82_1, hcz82_2, hcz82_3, hcz82_4, hcz82_5⟩ := c6 BK0.out
        obtain ⟨hfz82_0, hfz82_1, hfz82_2, hfz82_3, hfz82_4, hfz82_5⟩ := f6 BK0.out
        have hnb83 := NB356_349.out
        have hnc83 := NB349_356.out
        obtain ⟨hcz84_0, hcz84_1, hcz84_2, hcz84_3, hcz84_4, hcz84_5⟩ := c6 BK356.out
        obtain ⟨hfz84_0, hfz84_1, hfz84_2, hfz84_3, hfz84_4, hfz84_5⟩ := f6 BK356.out
        obtain ⟨hcz85_0, hcz85_1, hcz85_2, hcz85_3, hcz85_4, hcz85_5⟩ := c6 BK349.out
        obtain ⟨hfz85_0, hfz85_1, hfz85_2, hfz85_3, hfz85_4, hfz85_5⟩ := f6 BK349.out
        obtain ⟨Ao86, co86, eo86⟩ := Kd.S_slice HO_357003.out
        subst eo86
        obtain ⟨Ao87, co87, eo87⟩ := Kd.R_slice HO_357004.out
        subst eo87
        obtain ⟨Ao88, co88, eo88⟩ := Kd.S_slice HO_357005.out
        subst eo88
        go_wp2
        refine bodyPost_ret (results_cell_row rfl _ _ gb349 27 #[.int .i64 a0_0, .int .i64 a0_1, .slice Ao11 y353.length co11, .slice Ao86 x357003_1.length co86, .slice Ao87 x357004_2.length co87, .slice Ao88 x357005_3.length co88] (0, 0) _ rfl (by (with_reducible repeat (first | refine bn_ ?_ _ | refine bd_ ?_ | refine ba_ ?_ _)); refine blk_put (cs := #[.int .i64 a0_0, .int .i64 a0_1, .slice Ao11 y353.length co11, .slice Ao86 x357003_1.length co86, .slice Ao87 x357004_2.length co87, .slice none 0 0]) ?_ 5 _ rfl; (with_reducible repeat (first | refine bn_ ?_ _ | refine bd_ ?_ | refine ba_ ?_ _)); refine blk_put (cs := #[.int .i64 a0_0, .int .i64 a0_1, .slice Ao11 y353.length co11, .slice Ao86 x357003_1.length co86, .slice none 0 0, .slice none 0 0]) ?_ 4 _ rfl; (with_reducible repeat (first | refine bn_ ?_ _ | refine bd_ ?_ | refine ba_ ?_ _)); refine blk_put (cs := #[.int .i64 a0_0, .int .i64 a0_1, .slice Ao11 y353.length co11, .slice none 0 0, .slice none 0 0, .slice none 0 0]) ?_ 3 _ rfl; (with_reducible repeat (first | refine bn_ ?_ _ | refine bd_ ?_ | refine ba_ ?_ _)); refine blk_put (cs := #[.int .i64 a0_0, .int .i64 a0_1, .slice none 0 0, .slice none 0 0, .slice none 0 0, .slice none 0 0]) ?_ 2 _ rfl; (with_reducible repeat (first | refine bn_ ?_ _ | refine bd_ ?_ | refine ba_ ?_ _)); refine blk_put (cs := #[.int .i64 a0_0, .int .i64 0, .slice none 0 0, .slice none 0 0, .slice none 0 0, .slice none 0 0]) ?_ 1 _ rfl; (with_reducible repeat (first | refine bn_ ?_ _ | refine bd_ ?_ | refine ba_ ?_ _)); refine blk_put (cs := #[.int .i64 0, .int .i64 0, .slice none 0 0, .slice none 0 0, .slice none 0 0, .slice none 0 0]) ?_ 0 _ rfl; (with_reducible repeat (first | refine bn_ ?_ _ | refine bd_ ?_ | refine ba_ ?_ _)); exact BK349.out) Try.underlying27 rfl (by kernel_rfl)) rfl ?_
        exact ⟨_, _, _, _, by first | rfl | (simp [errW_none, errW_some] <;> rfl) | (simp [*, errW_none, errW_some] <;> rfl), by (with_reducible repeat (first | apply Kd.R_alloc | apply Kd.R_drewN | apply Kd.R_drew)); exact Kd.R_mono (Kd.R_far (p := ⟨gb349, 5, none⟩) (Kd.R_far (p := ⟨gb349, 4, none⟩) (Kd.R_far (p := ⟨gb349, 3, none⟩) (Kd.R_far (p := ⟨gb349, 2, none⟩) (Kd.R_far (p := ⟨gb349, 1, none⟩) (Kd.R_far (p := ⟨gb349, 0, none⟩) (Kd.R_types HO_357002.out BK349.out (by decide)) (fun _ hk => hk.2) (.int .i64 a0_0)) (fun _ hk => hk.2) (.int .i64 a0_1)) (fun _ hk => hk.2) (.slice Ao11 y353.length co11)) (fun _ hk => hk.2) (.slice Ao86 x357003_1.length co86)) (fun _ hk => hk.2) (.slice Ao87 x357004_2.length co87)) (fun _ hk => hk.2) (.slice Ao88 x357005_3.length co88)) (fun _ hk => trivial), by (with_reducible repeat (first | apply Kd.S_alloc | apply Kd.S_drewN | apply Kd.S_drew)); exact Kd.S_mono (Kd.S_far (p := ⟨gb349, 5, none⟩) (Kd.S_far (p := ⟨gb349, 4, none⟩) (Kd.S_far (p := ⟨gb349, 3, none⟩) (Kd.S_far (p := ⟨gb349, 2, none⟩) (Kd.S_far (p := ⟨gb349, 1, none⟩) (Kd.S_far (p := ⟨gb349, 0, none⟩) (Kd.S_types HO_357003.out BK349.out (by decide)) (fun _ hk => hk.2) (.int .i64 a0_0)) (fun _ hk => hk.2) (.int .i64 a0_1)) (fun _ hk => hk.2) (.slice Ao11 y353.length co11)) (fun _ hk => hk.2) (.slice Ao86 x357003_1.length co86)) (fun _ hk => hk.2) (.slice Ao87 x357004_2.length co87)) (fun _ hk => hk.2) (.slice Ao88 x357005_3.length co88)) (fun _ hk => trivial), by (with_reducible repeat (first | apply Kd.R_alloc | apply Kd.R_drewN | apply Kd.R_drew)); exact Kd.R_mono (Kd.R_far (p := ⟨gb349, 5, none⟩) (Kd.R_far (p := ⟨gb349, 4, none⟩) (Kd.R_far (p := ⟨gb349, 3, none⟩) (Kd.R_far (p := ⟨gb349, 2, none⟩) (Kd.R_far (p := ⟨gb349, 1, none⟩) (Kd.R_far (p := ⟨gb349, 0, none⟩) (Kd.R_types HO_357004.out BK349.out (by decide)) (fun _ hk => hk.2) (.int .i64 a0_0)) (fun _ hk => hk.2) (.int .i64 a0_1)) (fun _ hk => hk.2) (.slice Ao11 y353.length co11)) (fun _ hk => hk.2) (.slice Ao86 x357003_1.length co86)) (fun _ hk => hk.2) (.slice Ao87 x357004_2.length co87)) (fun _ hk => hk.2) (.slice Ao88 x357005_3.length co88)) (fun _ hk => hk.1), by (with_reducible repeat (first | apply Kd.S_alloc | apply Kd.S_drewN | apply Kd.S_drew)); exact Kd.S_mono (Kd.S_far (p := ⟨gb349, 5, none⟩) (Kd.S_far (p := ⟨gb349, 4, none⟩) (Kd.S_far (p := ⟨gb349, 3, none⟩) (Kd.S_far (p := ⟨gb349, 2, none⟩) (Kd.S_far (p := ⟨gb349, 1, none⟩) (Kd.S_far (p := ⟨gb349, 0, none⟩) (Kd.S_types HO_357005.out BK349.out (by decide)) (fun _ hk => hk.2) (.int .i64 a0_0)) (fun _ hk => hk.2) (.int .i64 a0_1)) (fun _ hk => hk.2) (.slice Ao11 y353.length co11)) (fun _ hk => hk.2) (.slice Ao86 x357003_1.length co86)) (fun _ hk => hk.2) (.slice Ao87 x357004_2.length co87)) (fun _ hk => hk.2) (.slice Ao88 x357005_3.length co88)) (fun _ hk => trivial), by repeat (first | (with_reducible first | exact HB.out | apply pA | apply pN | apply pD | refine pS ?_ GE0.out | refine pS ?_ GE349.out | refine pS ?_ GE356.out) | exact HB.out)⟩
       rw [if_pos c67] at H
       have c67b0 : decide (x8_3 < (l0_5.length : Int)) = true := decide_eq_true c67
       clear c67
       by_cases c68 : 0 ≤ x8_3
       rotate_left
       ·rw [if_neg c68] at H
        exact absurd H (by simp)
       rw [if_pos c68] at H
       have c68b0 : decide (0 ≤ x8_3) = true := decide_eq_true c68
       clear c68
       replace H := Option.bind_eq_some_iff.mp H
       obtain ⟨t383, A690, H⟩ := H
       replace H : (if x357005_3.length < 5864062014805 then (spec_l02Copy.l3 k3 (wrap64 (x8_3 + 1)) a0_0 a0_1 l0_2 l0_3 l0_4 l0_5 a0_0 a0_1 y353 x357003_1 x357004_2 (x357005_3 ++ [t383])) else (none)) = some (r1, r2, r3, r4, r5, r6) := H
       have A69 := AZ.mk A690
       clear A690
       by_cases c70 : x357005_3.length < 5864062014805
       rotate_left
       ·rw [if_neg c70] at H
        exact absurd H (by simp)
       rw [if_pos c70] at H
       have LMc70 := AZ.mk c70
       clear c70
       obtain ⟨y386, hy386⟩ : ∃ y_ : List (List Int), y_ = (x357005_3 ++ [t383]) := ⟨_, rfl⟩
       replace H : (spec_l02Copy.l3 k3 (wrap64 (x8_3 + 1)) a0_0 a0_1 l0_2 l0_3 l0_4 l0_5 a0_0 a0_1 y353 x357003_1 x357004_2 y386) = some (r1, r2, r3, r4, r5, r6) := by first | (rw [hy386]; with_reducible exact H) | (have H2_ := (Option.bind_some _ _).symm.trans H; rw [hy386]; with_reducible exact H2_) | (have H2_ := (Option.bind_some _ _).symm.trans H; with_reducible exact H2_) | with_reducible exact H | (rw [hy386]; exact H) | exact H
       have Ny386 := AZ.mk hy386
       clear hy386
       have H' := AZ.mk H
       clear H
       have hnb71 := NB0_349.out
       have hnc71 := NB349_0.out
       have hnb72 := NB0_356.out
       have hnc72 := NB356_0.out
       obtain ⟨hcz73_0, hcz73_1, hcz73_2, hcz73_3, hcz73_4, hcz73_5⟩ := c6 BK0.out
       obtain ⟨hfz73_0, hfz73_1, hfz73_2, hfz73_3, hfz73_4, hfz73_5⟩ := f6 BK0.out
       try go_wp2
       have n0_ := AZ.mk (Kd.R_drew HO_357002.out)
       have n1_ := AZ.mk (Kd.S_drew HO_357003.out)
       have n2_ := AZ.mk (Kd.R_drew HO_357004.out)
       have n3_ := AZ.mk (Kd.S_drew HO_357005.out)
       have n4_ := AZ.mk (bd_ BK0.out)
       have n5_ := AZ.mk (bd_ BK349.out)
       have n6_ := AZ.mk (bd_ BK356.out)
       have n7_ := AZ.mk (pD HB.out)
       clear HO_357002
       clear HO_357003
       clear HO_357004
       clear HO_357005
       clear BK0
       clear BK349
       clear BK356
       clear HB
       have HO_357002 := n0_
       have HO_357003 := n1_
       have HO_357004 := n2_
       have HO_357005 := n3_
       have BK0 := n4_
       have BK349 := n5_
       have BK356 := n6_
       have HB := n7_
       clear n0_ n1_ n2_ n3_ n4_ n5_ n6_ n7_
       have p382 : 0 ≤ (x8_3 : Int) := oT (by first | (with_reducible assumption) | assumption)
       have q382 : x8_3 < (l0_5.length : Int) := oT (by first | (with_reducible assumption) | assumption)
       obtain ⟨ad382, A382_0, c382_0, e382, hx382_0, hl382_0, hi382_0⟩ := at_L4 HR0_5.out x8_3 p382 q382
       have hw382_0 := hx382_0
       cases e382
       replace hx382_0 := (HB.out.cell (World.block_lt_of_cell? w _ hx382_0)).trans hx382_0
       have HR382_0 := AZ.mk hi382_0
       have HC382_0 := AZ.mk hl382_0
       clear hi382_0 hl382_0
       replace p382 := eq_true p382
       replace q382 := eq_true q382
       refine start_ (n := 14) (S := fun w' => w'.cell? ⟨gb356, 0, none⟩ = some (.int .i64 a0_0) ∧ w'.cell? ⟨gb356, 1, none⟩ = some (.int .i64 a0_1) ∧ w'.cell? ⟨gb356, 2, none⟩ = some (.slice Ao11 y353.length co11) ∧ w'.cell? ⟨gb356, 3, none⟩ = some (u357003) ∧ w'.cell? ⟨gb356, 4, none⟩ = some (u357004) ∧ w'.cell? ⟨gb356, 5, none⟩ = some (u357005) ∧ w'.cell? ⟨g0_, 0, none⟩ = some (.int .i64 a0_0) ∧ w'.cell? ⟨g0_, 1, none⟩ = some (.int .i64 a0_1) ∧ w'.cell? ⟨g0_, 2, none⟩ = some (.slice A0_2 l0_2.length c0_2) ∧ w'.cell? ⟨g0_, 3, none⟩ = some (.slice A0_3 l0_3.length c0_3) ∧ w'.cell? ⟨g0_, 4, none⟩ = some (.slice A0_4 l0_4.length c0_4) ∧ w'.cell? ⟨g0_, 5, none⟩ = some (.slice (some ad382) l0_5.length c0_5) ∧ w'.cell? (ad382.add (x8_3).toNat) = some (.slice A382_0 (rd_L4 l0_5 x8_3).length c382_0)) (ds := [13]) (bz 14 0) (by kernel_rfl) rfl rfl ⟨(bc BK356.out 0).trans rfl, (bc BK356.out 1).trans rfl, (bc BK356.out 2).trans rfl, (bc BK356.out 3).trans rfl, (bc BK356.out 4).trans rfl, (bc BK356.out 5).trans rfl, (bc BK0.out 0).trans rfl, (bc BK0.out 1).trans rfl, (bc BK0.out 2).trans rfl, (bc BK0.out 3).trans rfl, (bc BK0.out 4).trans rfl, (bc BK0.out 5).trans rfl, ((HB.out.cell (World.block_lt_of_cell? w _ hw382_0)).trans hw382_0)⟩ (fun hHeld => ?_); refine with_tabW spec_l02Copy.tab18 spec_l02Copy.bits18 (fun HT_ HW_ => ?_)
       generalize wr.drew = w74 at HO_357002 HO_357003 HO_357004 HO_357005 BK0 BK349 BK356 HB HR382_0 hx382_0 hHeld ⊢
       iterate 9 (first | (refine pz_ HT_ spec_l02Copy.cz2 rfl rfl rfl (v := ?_) (a' := ?_) (by kernel_rfl) (fun _ _ _ h => h) (Or.inl ⟨by rfl, ?_⟩) ?_ ?_; rotate_left; (intro w'; go_simp; with_reducible rfl); rotate_left; (simp only [Act.put, sA, sB, sC, i64_w, i32_w]; rfl)) | (refine tz_ HT_ HW_ spec_l02Copy.cz2 rfl rfl rfl (v := ?_) (a' := ?_) (by kernel_rfl) (fun _ _ _ h => h) (Or.inl ⟨by rfl, ?_⟩) hHeld ?_ ?_; rotate_left; (rintro w' ⟨s0, s1, s2, s3, s4, s5, s6, s7, s8, s9, s10, s11, s12⟩; go_simp; with_reducible rfl); rotate_left; (simp only [Act.put, sA, sB, sC, i64_w, i32_w]; rfl)))
       refine one_ (i := 9) (N := some 107) (bz 14 1023) rfl rfl (one_of HT_.out (by kernel_rfl)) (by decide) (fun K hK => ?_)
       refine goes_ Try.func94 (by kernel_rfl) rfl #[.slice A382_0 (rd_L4 l0_5 x8_3).length c382_0] (by rfl) rfl rfl (by (try simp only [List.map_toArray, List.map_cons, List.map_nil]); first | done | rfl | (simp only [List.length_drop, List.length_take]; rfl)) ?_
       with_reducible refine (spec_l00Own.calls _ _ (rd_L4 l0_5 x8_3) t383 _ ?side1 ?side2 A69.out).mono ?_
       (case side1 => repeat (first | exact (Kd.C_below HR382_0.out HB.out) | (with_reducible refine Kd.C_alloc ?_ _) | (with_reducible refine Kd.C_drewN ?_ _) | (with_reducible refine Kd.C_drew ?_)))
       (case side2 => exact HC382_0.out)
       rintro e w75 ⟨v384, rfl, ho0, hb⟩
       refine ⟨_, rfl, ?_⟩
       have n0_ := AZ.mk (Kd.R_below (by (with_reducible repeat (first | apply Kd.R_alloc | apply Kd.R_drewN | apply Kd.R_drew)); exact HO_357002.out) hb)
       have n1_ := AZ.mk (Kd.S_below (by (with_reducible repeat (first | apply Kd.S_alloc | apply Kd.S_drewN | apply Kd.S_drew)); exact HO_357003.out) hb)
       have n2_ := AZ.mk (Kd.R_elder' (by (with_reducible repeat (first | apply Kd.R_alloc | apply Kd.R_drewN | apply Kd.R_drew)); exact HO_357004.out) (Kd.R_base ho0) hb)
       have n3_ := AZ.mk (Kd.S_elder' (by (with_reducible repeat (first | apply Kd.S_alloc | apply Kd.S_drewN | apply Kd.S_drew)); exact HO_357005.out) (Kd.R_base ho0) hb)
       have n4_ := AZ.mk (Kd.R_lower ho0 (pZ (by repeat (first | (with_reducible first | exact HB.out | apply pA | apply pN | apply pD | refine pS ?_ GE0.out | refine pS ?_ GE349.out | refine pS ?_ GE356.out) | exact HB.out))))
       have n5_ := AZ.mk (bb_ (g := g0_) (o := .cells #[.int .i64 a0_0, .int .i64 a0_1, .slice A0_2 l0_2.length c0_2, .slice A0_3 l0_3.length c0_3, .slice A0_4 l0_4.length c0_4, .slice (some ad382) l0_5.length c0_5] 27 (0, 0)) (by (with_reducible repeat (first | refine bn_ ?_ _ | refine bd_ ?_ | refine ba_ ?_ _)); exact BK0.out) hb)
       have n6_ := AZ.mk (bb_ (g := gb349) (o := .cells #[.int .i64 0, .int .i64 0, .slice none 0 0, .slice none 0 0, .slice none 0 0, .slice none 0 0] 27 (0, 0)) (by (with_reducible repeat (first | refine bn_ ?_ _ | refine bd_ ?_ | refine ba_ ?_ _)); exact BK349.out) hb)
       have n7_ := AZ.mk (bb_ (g := gb356) (o := .cells #[.int .i64 a0_0, .int .i64 a0_1, .slice Ao11 y353.length co11, u357003, u357004, u357005] 27 (0, 0)) (by (with_reducible repeat (first | refine bn_ ?_ _ | refine bd_ ?_ | refine ba_ ?_ _)); exact BK356.out) hb)
       have n8_ := AZ.mk (pT (by repeat (first | (with_reducible first | exact HB.out | apply pA | apply pN | apply pD | refine pS ?_ GE0.out | refine pS ?_ GE349.out | refine pS ?_ GE356.out) | exact HB.out)) hb)
       clear HO_357002
       clear HO_357003
       clear HO_357004
       clear HO_357005
       clear BK0
       clear BK349
       clear BK356
       clear HB
       have HO_357002 := n0_
       have HO_357003 := n1_
       have HO_357004 := n2_
       have HO_357005 := n3_
       have HO385 := n4_
       have BK0 := n5_
       have BK349 := n6_
       have BK356 := n7_
       have HB := n8_
       clear n0_ n1_ n2_ n3_ n4_ n5_ n6_ n7_ n8_
       (try clear hb)
       (try clear hb2)
       (try clear hk)
       (try clear hi)
       (try clear ho0)
       obtain ⟨Ao77, co77, eo77⟩ := Kd.R_slice HO385.out
       (first | subst eo77 | (injection eo77 with f1_ f2_ f3_; have f4_ := f1_.symm; have f5_ := f3_.symm; clear f1_ f2_ f3_; subst f4_; subst f5_))
       refine hK.out _ _ ⟨(bc BK356.out 0).trans rfl, (bc BK356.out 1).trans rfl, (bc BK356.out 2).trans rfl, (bc BK356.out 3).trans rfl, (bc BK356.out 4).trans rfl, (bc BK356.out 5).trans rfl, (bc BK0.out 0).trans rfl, (bc BK0.out 1).trans rfl, (bc BK0.out 2).trans rfl, (bc BK0.out 3).trans rfl, (bc BK0.out 4).trans rfl, (bc BK0.out 5).trans rfl, ((HB.out.cell (World.block_lt_of_cell? w _ hw382_0)).trans hw382_0)⟩ (fun hHeld => ?_)
       clear hK K
       refine norm_ (a' := ?_) ?_ ?_
       rotate_left
       ·show Act.put _ (some 107) _ = _
        simp only [Act.put, sA, sB, sC, i64_w, i32_w]
        rfl
       refine one_ (i := 10) (N := some 108) (bz 14 2047) rfl rfl (one_of HT_.out (by kernel_rfl)) (by decide) (fun K hK => ?_)
       refine value_ (w1 := ?_) (v := ?_) (by rfl) rfl ?_ ?_
       rotate_left 2
       ·go_simp
        constructor
        ·rfl
        ·rfl
       refine hK.out _ _ ⟨(bc (ba_ BK356.out _) 0).trans rfl, (bc (ba_ BK356.out _) 1).trans rfl, (bc (ba_ BK356.out _) 2).trans rfl, (bc (ba_ BK356.out _) 3).trans rfl, (bc (ba_ BK356.out _) 4).trans rfl, (bc (ba_ BK356.out _) 5).trans rfl, (bc (ba_ BK0.out _) 0).trans rfl, (bc (ba_ BK0.out _) 1).trans rfl, (bc (ba_ BK0.out _) 2).trans rfl, (bc (ba_ BK0.out _) 3).trans rfl, (bc (ba_ BK0.out _) 4).trans rfl, (bc (ba_ BK0.out _) 5).trans rfl, (World.cell?_alloc_lt _ _ _ (World.block_lt_of_cell? _ _ (((HB.out.cell (World.block_lt_of_cell? w _ hw382_0)).trans hw382_0)))).trans (((HB.out.cell (World.block_lt_of_cell? w _ hw382_0)).trans hw382_0))⟩ (fun hHeld => ?_)
       clear hK K
       refine norm_ (a' := ?_) ?_ ?_
       rotate_left
       ·show Act.put _ (some 108) _ = _
        simp only [Act.put, sA, sB, sC, i64_w, i32_w]
        rfl
       refine one_ (i := 11) (N := some 109) (bz 14 4095) rfl rfl (one_of HT_.out (by kernel_rfl)) (by decide) (fun K hK => ?_)
       refine Kd.S_append_step (Kd.slice 2 (Kd.int .i64)) (w0 := w) w.heap.size (by rfl) (.tmp 99) (.tmp 108) 25 49 (.slice none 0 0) 24 rfl Try.underlying25 info49 rfl (by decide) (by omega) u357005 x357005_3 t383 [.slice Ao77 t383.length co77] (fun _ => True) (fun k_ => some k_ = (.slice Ao77 t383.length co77 : Value).ownBlock) rfl rfl ?aP (fun k_ hk_ => ((Kd.R_mono (ok' := fun k_ => ((fun _ => True)) k_ ∧ some k_ ≠ (u357005 : Value).ownBlock) (Kd.R_apart' (HO385.out) (Kd.S_typed HO_357005.out) (by decide)) (fun k_ hk => ⟨trivial, hk.2⟩))).1 k_ hk_.symm) ?aF ?aO ?aB ?aS ?aL ?_
       (case aP => exact Kd.M_row (Kd.R_mono (Kd.R_tight rfl (Kd.R_mono (ok' := fun k_ => ((fun _ => True)) k_ ∧ some k_ ≠ (u357005 : Value).ownBlock) (Kd.R_apart' (HO385.out) (Kd.S_typed HO_357005.out) (by decide)) (fun k_ hk => ⟨trivial, hk.2⟩))) (fun _ h_ => h_)))
       (case aB => exact (by repeat (first | (with_reducible first | exact HB.out | apply pA | apply pN | apply pD | refine pS ?_ GE0.out | refine pS ?_ GE349.out | refine pS ?_ GE356.out) | exact HB.out)))
       (case aF => exact (fun _ _ => trivial))
       (case aO => exact (by (with_reducible repeat (first | apply Kd.S_alloc | apply Kd.S_drewN | apply Kd.S_drew)); exact Kd.S_mono HO_357005.out (fun k_ hk => ⟨trivial, fun e_ => hk.2 e_⟩)))
       (case aS => exact (pZ (by repeat (first | (with_reducible first | exact HB.out | apply pA | apply pN | apply pD | refine pS ?_ GE0.out | refine pS ?_ GE349.out | refine pS ?_ GE356.out) | exact HB.out))))
       (case aL => have := LMc70.out; omega)
       intro v387 w76 ho hb hg hat
       rw [← Ny386.out] at ho
       have n0_ := AZ.mk (Kd.R_over' (by (with_reducible repeat (first | apply Kd.R_alloc | apply Kd.R_drewN | apply Kd.R_drew)); exact HO_357002.out) (Kd.S_typed (by (with_reducible repeat (first | apply Kd.S_alloc | apply Kd.S_drewN | apply Kd.S_drew)); exact HO_357005.out)) (by decide) hg)
       have n1_ := AZ.mk (Kd.S_over' (by (with_reducible repeat (first | apply Kd.S_alloc | apply Kd.S_drewN | apply Kd.S_drew)); exact HO_357003.out) (Kd.S_typed (by (with_reducible repeat (first | apply Kd.S_alloc | apply Kd.S_drewN | apply Kd.S_drew)); exact HO_357005.out)) (by decide) hg)
       have n2_ := AZ.mk (Kd.R_after (ok := (fun k_ => some k_ ≠ (.slice Ao77 t383.length co77 : Value).ownBlock)) (by (with_reducible repeat (first | apply Kd.R_alloc | apply Kd.R_drewN | apply Kd.R_drew)); exact Kd.R_mono HO_357004.out (fun _ hk => ⟨hk.2, hk.1⟩)) hg hat)
       have n3_ := AZ.mk (blk_grown (g := g0_) (o := .cells #[.int .i64 a0_0, .int .i64 a0_1, .slice A0_2 l0_2.length c0_2, .slice A0_3 l0_3.length c0_3, .slice A0_4 l0_4.length c0_4, .slice (some ad382) l0_5.length c0_5] 27 (0, 0)) (by (with_reducible repeat (first | refine bn_ ?_ _ | refine bd_ ?_ | refine ba_ ?_ _)); exact BK0.out) hg (Kd.S_ne HO_357005.out BK0.out (by decide)))
       have n4_ := AZ.mk (blk_grown (g := gb349) (o := .cells #[.int .i64 0, .int .i64 0, .slice none 0 0, .slice none 0 0, .slice none 0 0, .slice none 0 0] 27 (0, 0)) (by (with_reducible repeat (first | refine bn_ ?_ _ | refine bd_ ?_ | refine ba_ ?_ _)); exact BK349.out) hg (Kd.S_ne HO_357005.out BK349.out (by decide)))
       have n5_ := AZ.mk (blk_grown (g := gb356) (o := .cells #[.int .i64 a0_0, .int .i64 a0_1, .slice Ao11 y353.length co11, u357003, u357004, u357005] 27 (0, 0)) (by (with_reducible repeat (first | refine bn_ ?_ _ | refine bd_ ?_ | refine ba_ ?_ _)); exact BK356.out) hg (Kd.S_ne HO_357005.out BK356.out (by decide)))
       have n6_ := AZ.mk (hb)
       have n7_ := AZ.mk (ho)
       clear HO_357002
       clear HO_357003
       clear HO_357004
       clear BK0
       clear BK349
       clear BK356
       clear HB
       clear HO_357005
       clear HO385
       have HO_357002 := n0_
       have HO_357003 := n1_
       have HO_357004 := n2_
       have BK0 := n3_
       have BK349 := n4_
       have BK356 := n5_
       have HB := n6_
       have HO388 := n7_
       clear n0_ n1_ n2_ n3_ n4_ n5_ n6_ n7_
       clear ho hb hg hat
       obtain ⟨Ao78, co78, eo78⟩ := Kd.S_slice HO388.out
       (first | subst eo78 | (injection eo78 with f1_ f2_ f3_; have f4_ := f1_.symm; have f5_ := f3_.symm; clear f1_ f2_ f3_; subst f4_; subst f5_))
       refine hK.out _ _ ⟨(bc BK356.out 0).trans rfl, (bc BK356.out 1).trans rfl, (bc BK356.out 2).trans rfl, (bc BK356.out 3).trans rfl, (bc BK356.out 4).trans rfl, (bc BK356.out 5).trans rfl, (bc BK0.out 0).trans rfl, (bc BK0.out 1).trans rfl, (bc BK0.out 2).trans rfl, (bc BK0.out 3).trans rfl, (bc BK0.out 4).trans rfl, (bc BK0.out 5).trans rfl, ((HB.out.cell (World.block_lt_of_cell? w _ hw382_0)).trans hw382_0)⟩ (fun hHeld => ?_)
       clear hK K
       refine norm_ (a' := ?_) ?_ ?_
       rotate_left
       ·show Act.put _ (some 109) _ = _
        simp only [Act.put, sA, sB, sC, i64_w, i32_w]
        rfl
       refine pure_ (i := 12) (N := some 110) (v := ?_) (a' := ?_) (bz 14 8191) rfl rfl (any_of HT_.out (by kernel_rfl)) (fun _ _ _ h => h) (Or.inl ⟨by rfl, ?_⟩) ?_ ?_
       rotate_left
       ·intro w'
        go_simp
        with_reducible rfl
       rotate_left
       ·simp only [Act.put, sA, sB, sC, i64_w, i32_w]
        rfl
       refine last_ (i := 13) (N := none) (bz 14 16383) rfl rfl (one_of HT_.out (by kernel_rfl)) (by decide) (fun K hK => ?_)
       have hs79 : w76.cell? ⟨gb356, 5, none⟩ = some (u357005) := (bc BK356.out 5).trans rfl
       have hfs79 := bf BK356.out 5
       have hns79_0 := NB0_356.out
       have hns79_1 := NB349_356.out
       have hms79_0 := NB356_0.out
       have hms79_1 := NB356_349.out
       refine skip_ (w1 := ?_) (by rfl) rfl ?_ ?_
       rotate_left
       ·go_simp
        rfl
       refine hK.out _ _ ?_
       clear hK K
       refine done_ (done_of HT_.out (by kernel_rfl)) ?_
       try go_wp2
       go_roundg k3
       case measure => have := HK1.out; have := HK2.out; have := HK3.out; omega
       case rel => exact ⟨(wrap64 (x8_3 + 1)), (y386), (.slice Ao78 y386.length co78), (by first | rfl | (simp; done) | (simp [*]; done)), H', ⟨by have := HK1.out; have := HK2.out; have := HK3.out; omega⟩, ⟨by (with_reducible repeat (first | apply Kd.R_alloc | apply Kd.R_drewN | apply Kd.R_drew)); exact Kd.R_mono (Kd.R_far (p := ⟨gb356, 5, none⟩) (Kd.R_types HO_357002.out BK356.out (by decide)) (fun _ hk => hk.2) (.slice Ao78 y386.length co78)) (fun _ hk => trivial)⟩, ⟨by (with_reducible repeat (first | apply Kd.S_alloc | apply Kd.S_drewN | apply Kd.S_drew)); exact Kd.S_mono (Kd.S_far (p := ⟨gb356, 5, none⟩) (Kd.S_types HO_357003.out BK356.out (by decide)) (fun _ hk => hk.2) (.slice Ao78 y386.length co78)) (fun _ hk => trivial)⟩, ⟨by (with_reducible repeat (first | apply Kd.R_alloc | apply Kd.R_drewN | apply Kd.R_drew)); exact Kd.R_mono (Kd.R_far (p := ⟨gb356, 5, none⟩) (Kd.R_types HO_357004.out BK356.out (by decide)) (fun _ hk => hk.2) (.slice Ao78 y386.length co78)) (fun _ hk => hk.1.2)⟩, ⟨by (with_reducible repeat (first | apply Kd.S_alloc | apply Kd.S_drewN | apply Kd.S_drew)); exact Kd.S_mono (Kd.S_far (p := ⟨gb356, 5, none⟩) (Kd.S_types HO388.out BK356.out (by decide)) (fun _ hk => hk.2) (.slice Ao78 y386.length co78)) (fun _ hk => trivial)⟩, ⟨by (with_reducible repeat (first | refine bn_ ?_ _ | refine bd_ ?_ | refine ba_ ?_ _)); refine blk_far ?_ NB0_356.out _; (with_reducible repeat (first | refine bn_ ?_ _ | refine bd_ ?_ | refine ba_ ?_ _)); exact BK0.out⟩, ⟨by (with_reducible repeat (first | refine bn_ ?_ _ | refine bd_ ?_ | refine ba_ ?_ _)); refine blk_far ?_ NB349_356.out _; (with_reducible repeat (first | refine bn_ ?_ _ | refine bd_ ?_ | refine ba_ ?_ _)); exact BK349.out⟩, ⟨by (with_reducible repeat (first | refine bn_ ?_ _ | refine bd_ ?_ | refine ba_ ?_ _)); refine blk_put (cs := #[.int .i64 a0_0, .int .i64 a0_1, .slice Ao11 y353.length co11, u357003, u357004, u357005]) ?_ 5 _ rfl; (with_reducible repeat (first | refine bn_ ?_ _ | refine bd_ ?_ | refine ba_ ?_ _)); exact BK356.out⟩, ⟨by repeat (first | (with_reducible first | exact HB.out | apply pA | apply pN | apply pD | refine pS ?_ GE0.out | refine pS ?_ GE349.out | refine pS ?_ GE356.out) | exact HB.out)⟩⟩
end Go.Proofs.Ytepkfigcnnfoaaa.P
namespace Go.Proofs.Ytepkfigcnnfoaaa.P
open Go.RowKit Go.Proofs.YtepkfigcnnfoaaaW.PrintWords Go.Proofs.YtepkfigcnnfoaaaW.PrintLast Go.Proofs.YtepkfigcnnfoaaaW.PrintMore
attribute [local go_sem] max2_int min2_int max_two min_two max_three min_three max_four min_four
set_option linter.unusedVariables false
set_option linter.unusedSimpArgs false
def spec_OppositeChecker.l0 : Nat → Int → Int → Int → List Bool → List (List (S47)) → List (List (List Int)) → List (List Int) → Option (Int × Int × List Bool × (List (List (S47))) × (List (List (List Int))) × (List (List Int)) × Int)
 | 0, _, _, _, _, _, _, _ => none
 | k + 1, x5, x407000, x407001, x407002, x407003, x407004, x407005 => if x5 < (x407002.length : Int) then (if 0 ≤ x5 then (spec_OppositeChecker.l0 k (wrap64 (x5 + 1)) x407000 x407001 (x407002.set (x5 : Int).toNat (!(rdOf false x407002 x5))) x407003 x407004 x407005) else (none)) else (some (x407000, x407001, x407002, x407003, x407004, x407005, 0))
def spec_OppositeChecker.f (k : Nat) (a0_0 : Int) (a0_1 : Int) (l0_2 : List Bool) (l0_3 : List (List (S47))) (l0_4 : List (List (List Int))) (l0_5 : List (List Int)) : Option (Int × Int × List Bool × (List (List (S47))) × (List (List (List Int))) × (List (List Int)) × Int) := (spec_l02Ok.f k a0_0 a0_1 l0_2 l0_3 l0_4 l0_5).bind fun t391 => (if t391 = true then ((spec_l02Copy.f k a0_0 a0_1 l0_2 l0_3 l0_4 l0_5).bind fun bt392 => (spec_OppositeChecker.l0 k 0 bt392.1 bt392.2.1 bt392.2.2.1 bt392.2.2.2.1 bt392.2.2.2.2.1 bt392.2.2.2.2.2)) else (some (0, 0, ([] : List Bool), ([] : List (List (S47))), ([] : List (List (List Int))), ([] : List (List Int)), 1)))
def spec_OppositeChecker.T7 : Bool × List (List Nat × List Nat) := (true, [([], []), ([0], [0]), ([], []), ([], []), ([3], [3]), ([], []), ([4, 5], [4, 5]), ([6], [6]), ([7], [7]), ([1, 2, 0, 1, 2, 3, 4, 5, 6, 7, 8], [1, 2]), ([9, 8, 0, 1, 2, 3, 4, 5, 6, 7, 8], [8, 9])])
def spec_OppositeChecker.B7 : List Nat := [0, 1, 0, 0, 8, 0, 56, 120, 248, 511, 1023]
theorem spec_OppositeChecker.tab7 : rtab .any (opsOf Try.f22 7) = spec_OppositeChecker.T7 := by kernel_rfl
theorem spec_OppositeChecker.bits7 : waitsOk spec_OppositeChecker.T7.2 spec_OppositeChecker.B7 = true := by kernel_rfl
def spec_OppositeChecker.cz0 : List Nat := [0, 2, 3, 5, 401, 404, 6, 407, 8, 9]
set_option maxHeartbeats 8000000 in
set_option maxRecDepth 100000 in
theorem spec_OppositeChecker.calls (k : Nat) (a0_0 : Int) (a0_1 : Int) (A0_2 : Option Addr) (c0_2 : Nat) (l0_2 : List Bool) (A0_3 : Option Addr) (c0_3 : Nat) (l0_3 : List (List (S47))) (A0_4 : Option Addr) (c0_4 : Nat) (l0_4 : List (List (List Int))) (A0_5 : Option Addr) (c0_5 : Nat) (l0_5 : List (List Int)) (r1 : Int) (r2 : Int) (r3 : List Bool) (r4 : List (List (S47))) (r5 : List (List (List Int))) (r6 : List (List Int)) (r7 : Int) (w : World) (hr0_2 : Kd.C Kd.bool w A0_2 l0_2.length l0_2) (hc0_2 : l0_2.length ≤ c0_2) (hr0_3 : Kd.C (Kd.slice 47 k47) w A0_3 l0_3.length l0_3) (hc0_3 : l0_3.length ≤ c0_3) (hr0_4 : Kd.C (Kd.slice 49 (Kd.slice 2 (Kd.int .i64))) w A0_4 l0_4.length l0_4) (hc0_4 : l0_4.length ≤ c0_4) (hr0_5 : Kd.C (Kd.slice 2 (Kd.int .i64)) w A0_5 l0_5.length l0_5) (hc0_5 : l0_5.length ≤ c0_5) (h : spec_OppositeChecker.f k a0_0 a0_1 l0_2 l0_3 l0_4 l0_5 = some (r1, r2, r3, r4, r5, r6, r7)) :
  Calls Try.prog 22 #[.agg #[.int .i64 a0_0, .int .i64 a0_1, .slice A0_2 l0_2.length c0_2, .slice A0_3 l0_3.length c0_3, .slice A0_4 l0_4.length c0_4, .slice A0_5 l0_5.length c0_5]] w fun e w' => ∃ v2_ v3_ v4_ v5_ : Value, e = .returned (.tuple #[.agg #[.int .i64 r1, .int .i64 r2, v2_, v3_, v4_, v5_], .int .i64 r7]) ∧ Kd.R Kd.bool 4 w' w.heap.size (fun _ => True) v2_ r3 ∧ Kd.S (Kd.slice 47 k47) 48 w' w.heap.size (fun _ => True) v3_ r4 ∧ Kd.R (Kd.slice 49 (Kd.slice 2 (Kd.int .i64))) 25 w' w.heap.size (fun k_ => some k_ ≠ (v5_ : Value).ownBlock) v4_ r5 ∧ Kd.S (Kd.slice 2 (Kd.int .i64)) 49 w' w.heap.size (fun _ => True) v5_ r6 ∧ Below w.heap.size w w' := by
 have hu27 := Try.underlying27
 have HR0_2 := AZ.mk hr0_2
 have HC0_2 := AZ.mk hc0_2
 clear hr0_2 hc0_2
 have HR0_3 := AZ.mk hr0_3
 have HC0_3 := AZ.mk hc0_3
 clear hr0_3 hc0_3
 have HR0_4 := AZ.mk hr0_4
 have HC0_4 := AZ.mk hc0_4
 clear hr0_4 hc0_4
 have HR0_5 := AZ.mk hr0_5
 have HC0_5 := AZ.mk hc0_5
 clear hr0_5 hc0_5
 have HB := AZ.mk (Below.refl w.heap.size w)
 have H : ((spec_l02Ok.f k a0_0 a0_1 l0_2 l0_3 l0_4 l0_5).bind fun t391 => (if t391 = true then ((spec_l02Copy.f k a0_0 a0_1 l0_2 l0_3 l0_4 l0_5).bind fun bt392 => (spec_OppositeChecker.l0 k 0 bt392.1 bt392.2.1 bt392.2.2.1 bt392.2.2.2.1 bt392.2.2.2.2.1 bt392.2.2.2.2.2)) else (some (0, 0, ([] : List Bool), ([] : List (List (S47))), ([] : List (List (List Int))), ([] : List (List Int)), 1)))) = some (r1, r2, r3, r4, r5, r6, r7) := h
 clear h
 replace H := Option.bind_eq_some_iff.mp H
 obtain ⟨t391, A20, H⟩ := H
 replace H : (if t391 = true then ((spec_l02Copy.f k a0_0 a0_1 l0_2 l0_3 l0_4 l0_5).bind fun bt392 => (spec_OppositeChecker.l0 k 0 bt392.1 bt392.2.1 bt392.2.2.1 bt392.2.2.2.1 bt392.2.2.2.2.1 bt392.2.2.2.2.2)) else (some (0, 0, ([] : List Bool), ([] : List (List (S47))), ([] : List (List (List Int))), ([] : List (List Int)), 1))) = some (r1, r2, r3, r4, r5, r6, r7) := H
 have A2 := AZ.mk A20
 clear A20
 by_cases c3 : t391 = true
 rotate_left
 ·replace c3 := Bool.eq_false_iff.mpr c3
  subst c3
  have H1 : (some (0, 0, ([] : List Bool), ([] : List (List (S47))), ([] : List (List (List Int))), ([] : List (List Int)), 1)) = some (r1, r2, r3, r4, r5, r6, r7) := by rw [if_neg (show ¬ (false = true) by decide)] at H; exact H
  clear H
  have H := H1
  clear H1
  simp only [Option.some.injEq, Prod.mk.injEq] at H
  obtain ⟨rfl, rfl, rfl, rfl, rfl, rfl, rfl⟩ := H
  go_enter Try.func22, Try.ntmps22
  go_wp2_with (first | ((with_reducible refine gate_dst (N := 1) rfl ?_); refine box_event ?hg (N := 1) ?hd (cs := #[.int .i64 a0_0, .int .i64 a0_1, .slice A0_2 l0_2.length c0_2, .slice A0_3 l0_3.length c0_3, .slice A0_4 l0_4.length c0_4, .slice A0_5 l0_5.length c0_5]) (t := 27) ?hr ?_; (case hd => rfl); (case hg => rfl); (case hr => first | (go_simp; done) | (go_simp; rfl)); intro gb389 hg w32 hbox hb; have n0_ := AZ.mk (pT (by repeat (first | (with_reducible first | exact HB.out | apply pA | apply pN | apply pD) | exact HB.out)) hb); have n1_ := AZ.mk (hbox); have n2_ := AZ.mk ((by rw [hg]; exact (pZ (by repeat (first | (with_reducible first | exact HB.out | apply pA | apply pN | apply pD) | exact HB.out))) : w.heap.size ≤ gb389)); have n3_ := AZ.mk ((by rw [hg]; exact (pZ (by repeat (first | (with_reducible first | exact HB.out | apply pA | apply pN | apply pD) | exact HB.out))) : w.heap.size ≤ gb389)); clear HB; have HB := n0_; have BK389 := n1_; have GW389 := n2_; have GE389 := n3_; clear n0_ n1_ n2_ n3_; clear hb hbox hg) | ((with_reducible refine gate_dst (N := 2) rfl ?_); refine box_event ?hg (N := 2) ?hd (cs := #[.int .i64 0, .int .i64 0, .slice none 0 0, .slice none 0 0, .slice none 0 0, .slice none 0 0]) (t := 27) ?hr ?_; (case hd => rfl); (case hg => rfl); (case hr => first | (go_simp; done) | (go_simp; rfl)); intro gb390 hg w33 hbox hb; have n0_ := AZ.mk (bb_ (g := gb389) (o := .cells #[.int .i64 a0_0, .int .i64 a0_1, .slice A0_2 l0_2.length c0_2, .slice A0_3 l0_3.length c0_3, .slice A0_4 l0_4.length c0_4, .slice A0_5 l0_5.length c0_5] 27 (0, 0)) (by (with_reducible repeat (first | refine bn_ ?_ _ | refine bd_ ?_ | refine ba_ ?_ _)); exact BK389.out) hb); have n1_ := AZ.mk (pT (by repeat (first | (with_reducible first | exact HB.out | apply pA | apply pN | apply pD | refine pS ?_ GE389.out) | exact HB.out)) hb); have n2_ := AZ.mk (hbox); have n3_ := AZ.mk ((by rw [hg]; exact (pZ (by repeat (first | (with_reducible first | exact HB.out | apply pA | apply pN | apply pD | refine pS ?_ GE389.out) | exact HB.out))) : w.heap.size ≤ gb390)); have n4_ := AZ.mk ((by rw [hg]; exact (pZ (by repeat (first | (with_reducible first | exact HB.out | apply pA | apply pN | apply pD | refine pS ?_ GE389.out) | exact HB.out))) : w.heap.size ≤ gb390)); have n5_ := AZ.mk ((by rw [hg]; exact Nat.ne_of_lt (blk_lt (g := gb389) (o := .cells #[.int .i64 a0_0, .int .i64 a0_1, .slice A0_2 l0_2.length c0_2, .slice A0_3 l0_3.length c0_3, .slice A0_4 l0_4.length c0_4, .slice A0_5 l0_5.length c0_5] 27 (0, 0)) (by (with_reducible repeat (first | refine bn_ ?_ _ | refine bd_ ?_ | refine ba_ ?_ _)); exact BK389.out)) : gb389 ≠ gb390)); have n6_ := AZ.mk ((by rw [hg]; exact Nat.ne_of_gt (blk_lt (g := gb389) (o := .cells #[.int .i64 a0_0, .int .i64 a0_1, .slice A0_2 l0_2.length c0_2, .slice A0_3 l0_3.length c0_3, .slice A0_4 l0_4.length c0_4, .slice A0_5 l0_5.length c0_5] 27 (0, 0)) (by (with_reducible repeat (first | refine bn_ ?_ _ | refine bd_ ?_ | refine ba_ ?_ _)); exact BK389.out)) : gb390 ≠ gb389)); clear BK389; clear HB; have BK389 := n0_; have HB := n1_; have BK390 := n2_; have GW390 := n3_; have GE390 := n4_; have NB389_390 := n5_; have NB390_389 := n6_; clear n0_ n1_ n2_ n3_ n4_ n5_ n6_; clear hb hbox hg) | ((with_reducible refine gate_callee (f := 70) rfl ?_); refine goesL_ (some 6) rfl rfl Try.func70 (by kernel_rfl) rfl #[.pointer (some ⟨gb389, 0, none⟩)] rfl (by (try simp only [List.map_toArray, List.map_cons, List.map_nil]); first | done | rfl | (simp only [List.length_drop, List.length_take]; rfl)) ?_; (with_reducible refine (spec_l02Ok.calls k gb389 a0_0 a0_1 A0_2 c0_2 l0_2 A0_3 c0_3 l0_3 A0_4 c0_4 l0_4 A0_5 c0_5 l0_5 false _ ?side1 ?side2 ?side3 ?side4 ?side5 ?side6 ?side7 ?side8 ?side9 A2.out).mono ?_); (case side1 => repeat (first | exact (Kd.C_below HR0_2.out HB.out) | (with_reducible refine Kd.C_alloc ?_ _) | (with_reducible refine Kd.C_drewN ?_ _) | (with_reducible refine Kd.C_drew ?_))); (case side2 => exact HC0_2.out); (case side3 => repeat (first | exact (Kd.C_below HR0_3.out HB.out) | (with_reducible refine Kd.C_alloc ?_ _) | (with_reducible refine Kd.C_drewN ?_ _) | (with_reducible refine Kd.C_drew ?_))); (case side4 => exact HC0_3.out); (case side5 => repeat (first | exact (Kd.C_below HR0_4.out HB.out) | (with_reducible refine Kd.C_alloc ?_ _) | (with_reducible refine Kd.C_drewN ?_ _) | (with_reducible refine Kd.C_drew ?_))); (case side6 => exact HC0_4.out); (case side7 => repeat (first | exact (Kd.C_below HR0_5.out HB.out) | (with_reducible refine Kd.C_alloc ?_ _) | (with_reducible refine Kd.C_drewN ?_ _) | (with_reducible refine Kd.C_drew ?_))); (case side8 => exact HC0_5.out); (case side9 => exact (by (with_reducible repeat (first | refine bn_ ?_ _ | refine bd_ ?_ | refine ba_ ?_ _)); exact BK389.out)); rintro e w34 ⟨rfl, hb⟩; refine ⟨_, rfl, ?_⟩; have n0_ := AZ.mk (bb_ (g := gb389) (o := .cells #[.int .i64 a0_0, .int .i64 a0_1, .slice A0_2 l0_2.length c0_2, .slice A0_3 l0_3.length c0_3, .slice A0_4 l0_4.length c0_4, .slice A0_5 l0_5.length c0_5] 27 (0, 0)) (by (with_reducible repeat (first | refine bn_ ?_ _ | refine bd_ ?_ | refine ba_ ?_ _)); exact BK389.out) hb); have n1_ := AZ.mk (bb_ (g := gb390) (o := .cells #[.int .i64 0, .int .i64 0, .slice none 0 0, .slice none 0 0, .slice none 0 0, .slice none 0 0] 27 (0, 0)) (by (with_reducible repeat (first | refine bn_ ?_ _ | refine bd_ ?_ | refine ba_ ?_ _)); exact BK390.out) hb); have n2_ := AZ.mk (pT (by repeat (first | (with_reducible first | exact HB.out | apply pA | apply pN | apply pD | refine pS ?_ GE389.out | refine pS ?_ GE390.out) | exact HB.out)) hb); clear BK389; clear BK390; clear HB; have BK389 := n0_; have BK390 := n1_; have HB := n2_; clear n0_ n1_ n2_; (try clear hb); (try clear hb2); (try clear hk); (try clear hi); have hnb35 := NB390_389.out; have hnc35 := NB389_390.out; obtain ⟨hcz36_0, hcz36_1, hcz36_2, hcz36_3, hcz36_4, hcz36_5⟩ := c6 BK390.out; obtain ⟨hfz36_0, hfz36_1, hfz36_2, hfz36_3, hfz36_4, hfz36_5⟩ := f6 BK390.out))
  refine bodyPost_ret (results_ct rfl _ _ gb390 27 #[.int .i64 0, .int .i64 0, .slice none 0 0, .slice none 0 0, .slice none 0 0, .slice none 0 0] (0, 0) _ rfl (by (with_reducible repeat (first | refine bn_ ?_ _ | refine bd_ ?_ | refine ba_ ?_ _)); refine blk_put (cs := #[.int .i64 0, .int .i64 0, .slice none 0 0, .slice none 0 0, .slice none 0 0, .slice none 0 0]) ?_ 5 _ rfl; (with_reducible repeat (first | refine bn_ ?_ _ | refine bd_ ?_ | refine ba_ ?_ _)); refine blk_put (cs := #[.int .i64 0, .int .i64 0, .slice none 0 0, .slice none 0 0, .slice none 0 0, .slice none 0 0]) ?_ 4 _ rfl; (with_reducible repeat (first | refine bn_ ?_ _ | refine bd_ ?_ | refine ba_ ?_ _)); refine blk_put (cs := #[.int .i64 0, .int .i64 0, .slice none 0 0, .slice none 0 0, .slice none 0 0, .slice none 0 0]) ?_ 3 _ rfl; (with_reducible repeat (first | refine bn_ ?_ _ | refine bd_ ?_ | refine ba_ ?_ _)); refine blk_put (cs := #[.int .i64 0, .int .i64 0, .slice none 0 0, .slice none 0 0, .slice none 0 0, .slice none 0 0]) ?_ 2 _ rfl; (with_reducible repeat (first | refine bn_ ?_ _ | refine bd_ ?_ | refine ba_ ?_ _)); refine blk_put (cs := #[.int .i64 0, .int .i64 0, .slice none 0 0, .slice none 0 0, .slice none 0 0, .slice none 0 0]) ?_ 1 _ rfl; (with_reducible repeat (first | refine bn_ ?_ _ | refine bd_ ?_ | refine ba_ ?_ _)); refine blk_put (cs := #[.int .i64 0, .int .i64 0, .slice none 0 0, .slice none 0 0, .slice none 0 0, .slice none 0 0]) ?_ 0 _ rfl; (with_reducible repeat (first | refine bn_ ?_ _ | refine bd_ ?_ | refine ba_ ?_ _)); exact BK390.out) Try.underlying27 rfl (by kernel_rfl)) rfl ?_
  exact ⟨_, _, _, _, by first | rfl | (simp [errW_none, errW_some] <;> rfl) | (simp [*, errW_none, errW_some] <;> rfl), by first | exact Kd.R_nil _ _ _ _ _ | exact Kd.N_nil _ _ _ _ _ | exact Kd.V_nil _ _ _ _ _ | exact Kd.Q_nil _ _ _ _ _ | exact Kd.S_nil _ _ _ _ _, by first | exact Kd.S_nil _ _ _ _ _ | exact Kd.N_nil _ _ _ _ _ | exact Kd.V_nil _ _ _ _ _ | exact Kd.Q_nil _ _ _ _ _ | exact Kd.R_nil _ _ _ _ _, by first | exact Kd.R_nil _ _ _ _ _ | exact Kd.N_nil _ _ _ _ _ | exact Kd.V_nil _ _ _ _ _ | exact Kd.Q_nil _ _ _ _ _ | exact Kd.S_nil _ _ _ _ _, by first | exact Kd.S_nil _ _ _ _ _ | exact Kd.N_nil _ _ _ _ _ | exact Kd.V_nil _ _ _ _ _ | exact Kd.Q_nil _ _ _ _ _ | exact Kd.R_nil _ _ _ _ _, by repeat (first | (with_reducible first | exact HB.out | apply pA | apply pN | apply pD | refine pS ?_ GE389.out | refine pS ?_ GE390.out) | exact HB.out)⟩
 subst c3
 have H1 : ((spec_l02Copy.f k a0_0 a0_1 l0_2 l0_3 l0_4 l0_5).bind fun bt392 => (spec_OppositeChecker.l0 k 0 bt392.1 bt392.2.1 bt392.2.2.1 bt392.2.2.2.1 bt392.2.2.2.2.1 bt392.2.2.2.2.2)) = some (r1, r2, r3, r4, r5, r6, r7) := by rw [if_pos rfl] at H; exact H
 clear H
 have H := H1
 clear H1
 replace H := Option.bind_eq_some_iff.mp H
 obtain ⟨⟨t392, t393, t394, t397, t400, t403⟩, A40, H⟩ := H
 replace H : (spec_OppositeChecker.l0 k 0 t392 t393 t394 t397 t400 t403) = some (r1, r2, r3, r4, r5, r6, r7) := H
 have A4 := AZ.mk A40
 clear A40
 have H' := AZ.mk H
 clear H
 go_enter Try.func22, Try.ntmps22
 go_wp2_with (first | ((with_reducible refine gate_dst (N := 1) rfl ?_); refine box_event ?hg (N := 1) ?hd (cs := #[.int .i64 a0_0, .int .i64 a0_1, .slice A0_2 l0_2.length c0_2, .slice A0_3 l0_3.length c0_3, .slice A0_4 l0_4.length c0_4, .slice A0_5 l0_5.length c0_5]) (t := 27) ?hr ?_; (case hd => rfl); (case hg => rfl); (case hr => first | (go_simp; done) | (go_simp; rfl)); intro gb389 hg w5 hbox hb; have n0_ := AZ.mk (pT (by repeat (first | (with_reducible first | exact HB.out | apply pA | apply pN | apply pD) | exact HB.out)) hb); have n1_ := AZ.mk (hbox); have n2_ := AZ.mk ((by rw [hg]; exact (pZ (by repeat (first | (with_reducible first | exact HB.out | apply pA | apply pN | apply pD) | exact HB.out))) : w.heap.size ≤ gb389)); have n3_ := AZ.mk ((by rw [hg]; exact (pZ (by repeat (first | (with_reducible first | exact HB.out | apply pA | apply pN | apply pD) | exact HB.out))) : w.heap.size ≤ gb389)); clear HB; have HB := n0_; have BK389 := n1_; have GW389 := n2_; have GE389 := n3_; clear n0_ n1_ n2_ n3_; clear hb hbox hg) | ((with_reducible refine gate_dst (N := 2) rfl ?_); refine box_event ?hg (N := 2) ?hd (cs := #[.int .i64 0, .int .i64 0, .slice none 0 0, .slice none 0 0, .slice none 0 0, .slice none 0 0]) (t := 27) ?hr ?_; (case hd => rfl); (case hg => rfl); (case hr => first | (go_simp; done) | (go_simp; rfl)); intro gb390 hg w6 hbox hb; have n0_ := AZ.mk (bb_ (g := gb389) (o := .cells #[.int .i64 a0_0, .int .i64 a0_1, .slice A0_2 l0_2.length c0_2, .slice A0_3 l0_3.length c0_3, .slice A0_4 l0_4.length c0_4, .slice A0_5 l0_5.length c0_5] 27 (0, 0)) (by (with_reducible repeat (first | refine bn_ ?_ _ | refine bd_ ?_ | refine ba_ ?_ _)); exact BK389.out) hb); have n1_ := AZ.mk (pT (by repeat (first | (with_reducible first | exact HB.out | apply pA | apply pN | apply pD | refine pS ?_ GE389.out) | exact HB.out)) hb); have n2_ := AZ.mk (hbox); have n3_ := AZ.mk ((by rw [hg]; exact (pZ (by repeat (first | (with_reducible first | exact HB.out | apply pA | apply pN | apply pD | refine pS ?_ GE389.out) | exact HB.out))) : w.heap.size ≤ gb390)); have n4_ := AZ.mk ((by rw [hg]; exact (pZ (by repeat (first | (with_reducible first | exact HB.out | apply pA | apply pN | apply pD | refine pS ?_ GE389.out) | exact HB.out))) : w.heap.size ≤ gb390)); have n5_ := AZ.mk ((by rw [hg]; exact Nat.ne_of_lt (blk_lt (g := gb389) (o := .cells #[.int .i64 a0_0, .int .i64 a0_1, .slice A0_2 l0_2.length c0_2, .slice A0_3 l0_3.length c0_3, .slice A0_4 l0_4.length c0_4, .slice A0_5 l0_5.length c0_5] 27 (0, 0)) (by (with_reducible repeat (first | refine bn_ ?_ _ | refine bd_ ?_ | refine ba_ ?_ _)); exact BK389.out)) : gb389 ≠ gb390)); have n6_ := AZ.mk ((by rw [hg]; exact Nat.ne_of_gt (blk_lt (g := gb389) (o := .cells #[.int .i64 a0_0, .int .i64 a0_1, .slice A0_2 l0_2.length c0_2, .slice A0_3 l0_3.length c0_3, .slice A0_4 l0_4.length c0_4, .slice A0_5 l0_5.length c0_5] 27 (0, 0)) (by (with_reducible repeat (first | refine bn_ ?_ _ | refine bd_ ?_ | refine ba_ ?_ _)); exact BK389.out)) : gb390 ≠ gb389)); clear BK389; clear HB; have BK389 := n0_; have HB := n1_; have BK390 := n2_; have GW390 := n3_; have GE390 := n4_; have NB389_390 := n5_; have NB390_389 := n6_; clear n0_ n1_ n2_ n3_ n4_ n5_ n6_; clear hb hbox hg) | ((with_reducible refine gate_callee (f := 70) rfl ?_); refine goesL_ (some 6) rfl rfl Try.func70 (by kernel_rfl) rfl #[.pointer (some ⟨gb389, 0, none⟩)] rfl (by (try simp only [List.map_toArray, List.map_cons, List.map_nil]); first | done | rfl | (simp only [List.length_drop, List.length_take]; rfl)) ?_; (with_reducible refine (spec_l02Ok.calls k gb389 a0_0 a0_1 A0_2 c0_2 l0_2 A0_3 c0_3 l0_3 A0_4 c0_4 l0_4 A0_5 c0_5 l0_5 true _ ?side1 ?side2 ?side3 ?side4 ?side5 ?side6 ?side7 ?side8 ?side9 A2.out).mono ?_); (case side1 => repeat (first | exact (Kd.C_below HR0_2.out HB.out) | (with_reducible refine Kd.C_alloc ?_ _) | (with_reducible refine Kd.C_drewN ?_ _) | (with_reducible refine Kd.C_drew ?_))); (case side2 => exact HC0_2.out); (case side3 => repeat (first | exact (Kd.C_below HR0_3.out HB.out) | (with_reducible refine Kd.C_alloc ?_ _) | (with_reducible refine Kd.C_drewN ?_ _) | (with_reducible refine Kd.C_drew ?_))); (case side4 => exact HC0_3.out); (case side5 => repeat (first | exact (Kd.C_below HR0_4.out HB.out) | (with_reducible refine Kd.C_alloc ?_ _) | (with_reducible refine Kd.C_drewN ?_ _) | (with_reducible refine Kd.C_drew ?_))); (case side6 => exact HC0_4.out); (case side7 => repeat (first | exact (Kd.C_below HR0_5.out HB.out) | (with_reducible refine Kd.C_alloc ?_ _) | (with_reducible refine Kd.C_drewN ?_ _) | (with_reducible refine Kd.C_drew ?_))); (case side8 => exact HC0_5.out); (case side9 => exact (by (with_reducible repeat (first | refine bn_ ?_ _ | refine bd_ ?_ | refine ba_ ?_ _)); exact BK389.out)); rintro e w7 ⟨rfl, hb⟩; refine ⟨_, rfl, ?_⟩; have n0_ := AZ.mk (bb_ (g := gb389) (o := .cells #[.int .i64 a0_0, .int .i64 a0_1, .slice A0_2 l0_2.length c0_2, .slice A0_3 l0_3.length c0_3, .slice A0_4 l0_4.length c0_4, .slice A0_5 l0_5.length c0_5] 27 (0, 0)) (by (with_reducible repeat (first | refine bn_ ?_ _ | refine bd_ ?_ | refine ba_ ?_ _)); exact BK389.out) hb); have n1_ := AZ.mk (bb_ (g := gb390) (o := .cells #[.int .i64 0, .int .i64 0, .slice none 0 0, .slice none 0 0, .slice none 0 0, .slice none 0 0] 27 (0, 0)) (by (with_reducible repeat (first | refine bn_ ?_ _ | refine bd_ ?_ | refine ba_ ?_ _)); exact BK390.out) hb); have n2_ := AZ.mk (pT (by repeat (first | (with_reducible first | exact HB.out | apply pA | apply pN | apply pD | refine pS ?_ GE389.out | refine pS ?_ GE390.out) | exact HB.out)) hb); clear BK389; clear BK390; clear HB; have BK389 := n0_; have BK390 := n1_; have HB := n2_; clear n0_ n1_ n2_; (try clear hb); (try clear hb2); (try clear hk); (try clear hi)) | ((with_reducible refine gate_callee (f := 71) rfl ?_); refine goesL_ (some 9) rfl rfl Try.func71 (by kernel_rfl) rfl #[.pointer (some ⟨gb389, 0, none⟩)] rfl (by (try simp only [List.map_toArray, List.map_cons, List.map_nil]); first | done | rfl | (simp only [List.length_drop, List.length_take]; rfl)) ?_; (with_reducible refine (spec_l02Copy.calls k gb389 a0_0 a0_1 A0_2 c0_2 l0_2 A0_3 c0_3 l0_3 A0_4 c0_4 l0_4 A0_5 c0_5 l0_5 t392 t393 t394 t397 t400 t403 _ ?side1 ?side2 ?side3 ?side4 ?side5 ?side6 ?side7 ?side8 ?side9 A4.out).mono ?_); (case side1 => repeat (first | exact (Kd.C_below HR0_2.out HB.out) | (with_reducible refine Kd.C_alloc ?_ _) | (with_reducible refine Kd.C_drewN ?_ _) | (with_reducible refine Kd.C_drew ?_))); (case side2 => exact HC0_2.out); (case side3 => repeat (first | exact (Kd.C_below HR0_3.out HB.out) | (with_reducible refine Kd.C_alloc ?_ _) | (with_reducible refine Kd.C_drewN ?_ _) | (with_reducible refine Kd.C_drew ?_))); (case side4 => exact HC0_3.out); (case side5 => repeat (first | exact (Kd.C_below HR0_4.out HB.out) | (with_reducible refine Kd.C_alloc ?_ _) | (with_reducible refine Kd.C_drewN ?_ _) | (with_reducible refine Kd.C_drew ?_))); (case side6 => exact HC0_4.out); (case side7 => repeat (first | exact (Kd.C_below HR0_5.out HB.out) | (with_reducible refine Kd.C_alloc ?_ _) | (with_reducible refine Kd.C_drewN ?_ _) | (with_reducible refine Kd.C_drew ?_))); (case side8 => exact HC0_5.out); (case side9 => exact (by (with_reducible repeat (first | refine bn_ ?_ _ | refine bd_ ?_ | refine ba_ ?_ _)); exact BK389.out)); rintro e w8 ⟨v395, v398, v401, v404, rfl, ho0, ho1, ho2, ho3, hb⟩; refine ⟨_, rfl, ?_⟩; have n0_ := AZ.mk (Kd.R_lower ho0 (pZ (by repeat (first | (with_reducible first | exact HB.out | apply pA | apply pN | apply pD | refine pS ?_ GE389.out | refine pS ?_ GE390.out) | exact HB.out)))); have n1_ := AZ.mk (Kd.S_lower ho1 (pZ (by repeat (first | (with_reducible first | exact HB.out | apply pA | apply pN | apply pD | refine pS ?_ GE389.out | refine pS ?_ GE390.out) | exact HB.out)))); have n2_ := AZ.mk (Kd.R_lower ho2 (pZ (by repeat (first | (with_reducible first | exact HB.out | apply pA | apply pN | apply pD | refine pS ?_ GE389.out | refine pS ?_ GE390.out) | exact HB.out)))); have n3_ := AZ.mk (Kd.S_lower ho3 (pZ (by repeat (first | (with_reducible first | exact HB.out | apply pA | apply pN | apply pD | refine pS ?_ GE389.out | refine pS ?_ GE390.out) | exact HB.out)))); have n4_ := AZ.mk (bb_ (g := gb389) (o := .cells #[.int .i64 a0_0, .int .i64 a0_1, .slice A0_2 l0_2.length c0_2, .slice A0_3 l0_3.length c0_3, .slice A0_4 l0_4.length c0_4, .slice A0_5 l0_5.length c0_5] 27 (0, 0)) (by (with_reducible repeat (first | refine bn_ ?_ _ | refine bd_ ?_ | refine ba_ ?_ _)); exact BK389.out) hb); have n5_ := AZ.mk (bb_ (g := gb390) (o := .cells #[.int .i64 0, .int .i64 0, .slice none 0 0, .slice none 0 0, .slice none 0 0, .slice none 0 0] 27 (0, 0)) (by (with_reducible repeat (first | refine bn_ ?_ _ | refine bd_ ?_ | refine ba_ ?_ _)); exact BK390.out) hb); have n6_ := AZ.mk (pT (by repeat (first | (with_reducible first | exact HB.out | apply pA | apply pN | apply pD | refine pS ?_ GE389.out | refine pS ?_ GE390.out) | exact HB.out)) hb); clear BK389; clear BK390; clear HB; have HO396 := n0_; have HO399 := n1_; have HO402 := n2_; have HO405 := n3_; have BK389 := n4_; have BK390 := n5_; have HB := n6_; clear n0_ n1_ n2_ n3_ n4_ n5_ n6_; (try clear hb); (try clear hb2); (try clear hk); (try clear hi); (try clear ho0); (try clear ho1); (try clear ho2); (try clear ho3)) | ((with_reducible refine gate_dst (N := 4) rfl ?_); refine box_event ?hg (N := 4) ?hd (cs := #[.int .i64 0, .int .i64 0, .slice none 0 0, .slice none 0 0, .slice none 0 0, .slice none 0 0]) (t := 27) ?hr ?_; (case hd => rfl); (case hg => rfl); (case hr => first | (go_simp; done) | (go_simp; rfl)); intro gb406 hg w9 hbox hb; have n0_ := AZ.mk (Kd.R_below (by (with_reducible repeat (first | apply Kd.R_alloc | apply Kd.R_drewN | apply Kd.R_drew)); exact HO396.out) hb); have n1_ := AZ.mk (Kd.S_below (by (with_reducible repeat (first | apply Kd.S_alloc | apply Kd.S_drewN | apply Kd.S_drew)); exact HO399.out) hb); have n2_ := AZ.mk (Kd.R_below (by (with_reducible repeat (first | apply Kd.R_alloc | apply Kd.R_drewN | apply Kd.R_drew)); exact HO402.out) hb); have n3_ := AZ.mk (Kd.S_below (by (with_reducible repeat (first | apply Kd.S_alloc | apply Kd.S_drewN | apply Kd.S_drew)); exact HO405.out) hb); have n4_ := AZ.mk (bb_ (g := gb389) (o := .cells #[.int .i64 a0_0, .int .i64 a0_1, .slice A0_2 l0_2.length c0_2, .slice A0_3 l0_3.length c0_3, .slice A0_4 l0_4.length c0_4, .slice A0_5 l0_5.length c0_5] 27 (0, 0)) (by (with_reducible repeat (first | refine bn_ ?_ _ | refine bd_ ?_ | refine ba_ ?_ _)); exact BK389.out) hb); have n5_ := AZ.mk (bb_ (g := gb390) (o := .cells #[.int .i64 0, .int .i64 0, .slice none 0 0, .slice none 0 0, .slice none 0 0, .slice none 0 0] 27 (0, 0)) (by (with_reducible repeat (first | refine bn_ ?_ _ | refine bd_ ?_ | refine ba_ ?_ _)); exact BK390.out) hb); have n6_ := AZ.mk (pT (by repeat (first | (with_reducible first | exact HB.out | apply pA | apply pN | apply pD | refine pS ?_ GE389.out | refine pS ?_ GE390.out) | exact HB.out)) hb); have n7_ := AZ.mk (hbox); have n8_ := AZ.mk ((by rw [hg]; exact (pZ (by repeat (first | (with_reducible first | exact HB.out | apply pA | apply pN | apply pD | refine pS ?_ GE389.out | refine pS ?_ GE390.out) | exact HB.out))) : w.heap.size ≤ gb406)); have n9_ := AZ.mk ((by rw [hg]; exact (pZ (by repeat (first | (with_reducible first | exact HB.out | apply pA | apply pN | apply pD | refine pS ?_ GE389.out | refine pS ?_ GE390.out) | exact HB.out))) : w.heap.size ≤ gb406)); have n10_ := AZ.mk ((by rw [hg]; exact Nat.ne_of_lt (blk_lt (g := gb389) (o := .cells #[.int .i64 a0_0, .int .i64 a0_1, .slice A0_2 l0_2.length c0_2, .slice A0_3 l0_3.length c0_3, .slice A0_4 l0_4.length c0_4, .slice A0_5 l0_5.length c0_5] 27 (0, 0)) (by (with_reducible repeat (first | refine bn_ ?_ _ | refine bd_ ?_ | refine ba_ ?_ _)); exact BK389.out)) : gb389 ≠ gb406)); have n11_ := AZ.mk ((by rw [hg]; exact Nat.ne_of_gt (blk_lt (g := gb389) (o := .cells #[.int .i64 a0_0, .int .i64 a0_1, .slice A0_2 l0_2.length c0_2, .slice A0_3 l0_3.length c0_3, .slice A0_4 l0_4.length c0_4, .slice A0_5 l0_5.length c0_5] 27 (0, 0)) (by (with_reducible repeat (first | refine bn_ ?_ _ | refine bd_ ?_ | refine ba_ ?_ _)); exact BK389.out)) : gb406 ≠ gb389)); have n12_ := AZ.mk ((by rw [hg]; exact Nat.ne_of_lt (blk_lt (g := gb390) (o := .cells #[.int .i64 0, .int .i64 0, .slice none 0 0, .slice none 0 0, .slice none 0 0, .slice none 0 0] 27 (0, 0)) (by (with_reducible repeat (first | refine bn_ ?_ _ | refine bd_ ?_ | refine ba_ ?_ _)); exact BK390.out)) : gb390 ≠ gb406)); have n13_ := AZ.mk ((by rw [hg]; exact Nat.ne_of_gt (blk_lt (g := gb390) (o := .cells #[.int .i64 0, .int .i64 0, .slice none 0 0, .slice none 0 0, .slice none 0 0, .slice none 0 0] 27 (0, 0)) (by (with_reducible repeat (first | refine bn_ ?_ _ | refine bd_ ?_ | refine ba_ ?_ _)); exact BK390.out)) : gb406 ≠ gb390)); clear HO396; clear HO399; clear HO402; clear HO405; clear BK389; clear BK390; clear HB; have HO396 := n0_; have HO399 := n1_; have HO402 := n2_; have HO405 := n3_; have BK389 := n4_; have BK390 := n5_; have HB := n6_; have BK406 := n7_; have GW406 := n8_; have GE406 := n9_; have NB389_406 := n10_; have NB406_389 := n11_; have NB390_406 := n12_; have NB406_390 := n13_; clear n0_ n1_ n2_ n3_ n4_ n5_ n6_ n7_ n8_ n9_ n10_ n11_ n12_ n13_; clear hb hbox hg; have hnb10 := NB406_389.out; have hnc10 := NB389_406.out; have hnb11 := NB406_390.out; have hnc11 := NB390_406.out; obtain ⟨hcz12_0, hcz12_1, hcz12_2, hcz12_3, hcz12_4, hcz12_5⟩ := c6 BK406.out; obtain ⟨hfz12_0, hfz12_1, hfz12_2, hfz12_3, hfz12_4, hfz12_5⟩ := f6 BK406.out; obtain ⟨Ao13, co13, eo13⟩ := Kd.R_slice HO396.out; subst eo13; obtain ⟨Ao14, co14, eo14⟩ := Kd.S_slice HO399.out; subst eo14; obtain ⟨Ao15, co15, eo15⟩ := Kd.R_slice HO402.out; subst eo15; obtain ⟨Ao16, co16, eo16⟩ := Kd.S_slice HO405.out; subst eo16))
 go_loopg [5] k (fun kq v5 w' => ∃ (x5_1 : Int) (x407002_1 : List Bool) (u407002 : Value), v5 = .int .i64 x5_1 ∧ AZ (spec_OppositeChecker.l0 kq x5_1 t392 t393 x407002_1 t397 t400 t403 = some (r1, r2, r3, r4, r5, r6, r7)) ∧ AZ (kq ≤ k) ∧ AZ (Kd.R Kd.bool 4 w' w.heap.size (fun _ => True) u407002 x407002_1) ∧ AZ (Kd.S (Kd.slice 47 k47) 48 w' w.heap.size (fun _ => True) (.slice Ao14 t397.length co14) t397) ∧ AZ (Kd.R (Kd.slice 49 (Kd.slice 2 (Kd.int .i64))) 25 w' w.heap.size (fun k_ => some k_ ≠ ((.slice Ao16 t403.length co16) : Value).ownBlock) (.slice Ao15 t400.length co15) t400) ∧ AZ (Kd.S (Kd.slice 2 (Kd.int .i64)) 49 w' w.heap.size (fun _ => True) (.slice Ao16 t403.length co16) t403) ∧ AZ (w'.heap[gb389]? = some (.cells #[.int .i64 a0_0, .int .i64 a0_1, (.slice A0_2 l0_2.length c0_2), (.slice A0_3 l0_3.length c0_3), (.slice A0_4 l0_4.length c0_4), (.slice A0_5 l0_5.length c0_5)] 27 (0, 0))) ∧ AZ (w'.heap[gb390]? = some (.cells #[.int .i64 0, .int .i64 0, (.slice none 0 0), (.slice none 0 0), (.slice none 0 0), (.slice none 0 0)] 27 (0, 0))) ∧ AZ (w'.heap[gb406]? = some (.cells #[.int .i64 t392, .int .i64 t393, u407002, (.slice Ao14 t397.length co14), (.slice Ao15 t400.length co15), (.slice Ao16 t403.length co16)] 27 (0, 0))) ∧ AZ (Below w.heap.size w w'))
 case atStart => exact ⟨(0), (t394), (.slice Ao13 t394.length co13), (by first | rfl | (simp; done) | (simp [*]; done)), H', ⟨Nat.le_refl _⟩, ⟨by (with_reducible repeat (first | apply Kd.R_alloc | apply Kd.R_drewN | apply Kd.R_drew)); exact Kd.R_mono (Kd.R_far (p := ⟨gb406, 5, none⟩) (Kd.R_far (p := ⟨gb406, 4, none⟩) (Kd.R_far (p := ⟨gb406, 3, none⟩) (Kd.R_far (p := ⟨gb406, 2, none⟩) (Kd.R_far (p := ⟨gb406, 1, none⟩) (Kd.R_far (p := ⟨gb406, 0, none⟩) (Kd.R_types HO396.out BK406.out (by decide)) (fun _ hk => hk.2) (.int .i64 t392)) (fun _ hk => hk.2) (.int .i64 t393)) (fun _ hk => hk.2) (.slice Ao13 t394.length co13)) (fun _ hk => hk.2) (.slice Ao14 t397.length co14)) (fun _ hk => hk.2) (.slice Ao15 t400.length co15)) (fun _ hk => hk.2) (.slice Ao16 t403.length co16)) (fun _ hk => trivial)⟩, ⟨by (with_reducible repeat (first | apply Kd.S_alloc | apply Kd.S_drewN | apply Kd.S_drew)); exact Kd.S_mono (Kd.S_far (p := ⟨gb406, 5, none⟩) (Kd.S_far (p := ⟨gb406, 4, none⟩) (Kd.S_far (p := ⟨gb406, 3, none⟩) (Kd.S_far (p := ⟨gb406, 2, none⟩) (Kd.S_far (p := ⟨gb406, 1, none⟩) (Kd.S_far (p := ⟨gb406, 0, none⟩) (Kd.S_types HO399.out BK406.out (by decide)) (fun _ hk => hk.2) (.int .i64 t392)) (fun _ hk => hk.2) (.int .i64 t393)) (fun _ hk => hk.2) (.slice Ao13 t394.length co13)) (fun _ hk => hk.2) (.slice Ao14 t397.length co14)) (fun _ hk => hk.2) (.slice Ao15 t400.length co15)) (fun _ hk => hk.2) (.slice Ao16 t403.length co16)) (fun _ hk => trivial)⟩, ⟨by (with_reducible repeat (first | apply Kd.R_alloc | apply Kd.R_drewN | apply Kd.R_drew)); exact Kd.R_mono (Kd.R_far (p := ⟨gb406, 5, none⟩) (Kd.R_far (p := ⟨gb406, 4, none⟩) (Kd.R_far (p := ⟨gb406, 3, none⟩) (Kd.R_far (p := ⟨gb406, 2, none⟩) (Kd.R_far (p := ⟨gb406, 1, none⟩) (Kd.R_far (p := ⟨gb406, 0, none⟩) (Kd.R_types HO402.out BK406.out (by decide)) (fun _ hk => hk.2) (.int .i64 t392)) (fun _ hk => hk.2) (.int .i64 t393)) (fun _ hk => hk.2) (.slice Ao13 t394.length co13)) (fun _ hk => hk.2) (.slice Ao14 t397.length co14)) (fun _ hk => hk.2) (.slice Ao15 t400.length co15)) (fun _ hk => hk.2) (.slice Ao16 t403.length co16)) (fun _ hk => hk.1)⟩, ⟨by (with_reducible repeat (first | apply Kd.S_alloc | apply Kd.S_drewN | apply Kd.S_drew)); exact Kd.S_mono (Kd.S_far (p := ⟨gb406, 5, none⟩) (Kd.S_far (p := ⟨gb406, 4, none⟩) (Kd.S_far (p := ⟨gb406, 3, none⟩) (Kd.S_far (p := ⟨gb406, 2, none⟩) (Kd.S_far (p := ⟨gb406, 1, none⟩) (Kd.S_far (p := ⟨gb406, 0, none⟩) (Kd.S_types HO405.out BK406.out (by decide)) (fun _ hk => hk.2) (.int .i64 t392)) (fun _ hk => hk.2) (.int .i64 t393)) (fun _ hk => hk.2) (.slice Ao13 t394.length co13)) (fun _ hk => hk.2) (.slice Ao14 t397.length co14)) (fun _ hk => hk.2) (.slice Ao15 t400.length co15)) (fun _ hk => hk.2) (.slice Ao16 t403.length co16)) (fun _ hk => trivial)⟩, ⟨by (with_reducible repeat (first | refine bn_ ?_ _ | refine bd_ ?_ | refine ba_ ?_ _)); refine blk_far ?_ NB389_406.out _; (with_reducible repeat (first | refine bn_ ?_ _ | refine bd_ ?_ | refine ba_ ?_ _)); refine blk_far ?_ NB389_406.out _; (with_reducible repeat (first | refine bn_ ?_ _ | refine bd_ ?_ | refine ba_ ?_ _)); refine blk_far ?_ NB389_406.out _; (with_reducible repeat (first | refine bn_ ?_ _ | refine bd_ ?_ | refine ba_ ?_ _)); refine blk_far ?_ NB389_406.out _; (with_reducible repeat (first | refine bn_ ?_ _ | refine bd_ ?_ | refine ba_ ?_ _)); refine blk_far ?_ NB389_406.out _; (with_reducible repeat (first | refine bn_ ?_ _ | refine bd_ ?_ | refine ba_ ?_ _)); refine blk_far ?_ NB389_406.out _; (with_reducible repeat (first | refine bn_ ?_ _ | refine bd_ ?_ | refine ba_ ?_ _)); exact BK389.out⟩, ⟨by (with_reducible repeat (first | refine bn_ ?_ _ | refine bd_ ?_ | refine ba_ ?_ _)); refine blk_far ?_ NB390_406.out _; (with_reducible repeat (first | refine bn_ ?_ _ | refine bd_ ?_ | refine ba_ ?_ _)); refine blk_far ?_ NB390_406.out _; (with_reducible repeat (first | refine bn_ ?_ _ | refine bd_ ?_ | refine ba_ ?_ _)); refine blk_far ?_ NB390_406.out _; (with_reducible repeat (first | refine bn_ ?_ _ | refine bd_ ?_ | refine ba_ ?_ _)); refine blk_far ?_ NB390_406.out _; (with_reducible repeat (first | refine bn_ ?_ _ | refine bd_ ?_ | refine ba_ ?_ _)); refine blk_far ?_ NB390_406.out _; (with_reducible repeat (first | refine bn_ ?_ _ | refine bd_ ?_ | refine ba_ ?_ _)); refine blk_far ?_ NB390_406.out _; (with_reducible repeat (first | refine bn_ ?_ _ | refine bd_ ?_ | refine ba_ ?_ _)); exact BK390.out⟩, ⟨by (with_reducible repeat (first | refine bn_ ?_ _ | refine bd_ ?_ | refine ba_ ?_ _)); refine blk_put (cs := #[.int .i64 t392, .int .i64 t393, .slice Ao13 t394.length co13, .slice Ao14 t397.length co14, .slice Ao15 t400.length co15, .slice none 0 0]) ?_ 5 _ rfl; (with_reducible repeat (first | refine bn_ ?_ _ | refine bd_ ?_ | refine ba_ ?_ _)); refine blk_put (cs := #[.int .i64 t392, .int .i64 t393, .slice Ao13 t394.length co13, .slice Ao14 t397.length co14, .slice none 0 0, .slice none 0 0]) ?_ 4 _ rfl; (with_reducible repeat (first | refine bn_ ?_ _ | refine bd_ ?_ | refine ba_ ?_ _)); refine blk_put (cs := #[.int .i64 t392, .int .i64 t393, .slice Ao13 t394.length co13, .slice none 0 0, .slice none 0 0, .slice none 0 0]) ?_ 3 _ rfl; (with_reducible repeat (first | refine bn_ ?_ _ | refine bd_ ?_ | refine ba_ ?_ _)); refine blk_put (cs := #[.int .i64 t392, .int .i64 t393, .slice none 0 0, .slice none 0 0, .slice none 0 0, .slice none 0 0]) ?_ 2 _ rfl; (with_reducible repeat (first | refine bn_ ?_ _ | refine bd_ ?_ | refine ba_ ?_ _)); refine blk_put (cs := #[.int .i64 t392, .int .i64 0, .slice none 0 0, .slice none 0 0, .slice none 0 0, .slice none 0 0]) ?_ 1 _ rfl; (with_reducible repeat (first | refine bn_ ?_ _ | refine bd_ ?_ | refine ba_ ?_ _)); refine blk_put (cs := #[.int .i64 0, .int .i64 0, .slice none 0 0, .slice none 0 0, .slice none 0 0, .slice none 0 0]) ?_ 0 _ rfl; (with_reducible repeat (first | refine bn_ ?_ _ | refine bd_ ?_ | refine ba_ ?_ _)); exact BK406.out⟩, ⟨by repeat (first | (with_reducible first | exact HB.out | apply pA | apply pN | apply pD | refine pS ?_ GE389.out | refine pS ?_ GE390.out | refine pS ?_ GE406.out) | exact HB.out)⟩⟩
 case round =>
  clear H'
  try clear c1
  try clear c2
  try clear p2
  try clear c3
  try clear c7
  try clear c10
  try clear c11
  try clear hcz12_0
  try clear hcz12_1
  try clear hcz12_2
  try clear hcz12_3
  try clear hcz12_4
  try clear hcz12_5
  try clear hfz12_0
  try clear hfz12_1
  try clear hfz12_2
  try clear hfz12_3
  try clear hfz12_4
  try clear hfz12_5
  obtain ⟨x5_1, x407002_1, u407002, rfl, HA, HK1, HO_407002, HO_407003, HO_407004, HO_407005, BK389, BK390, BK406, HB⟩ := hrel
  cases gk with
  | zero => exact absurd HA.out (by simp [spec_OppositeChecker.l0])
  | succ k1 =>
   have H := HA.out
   clear HA
   simp only [spec_OppositeChecker.l0] at H
   by_cases c17 : x5_1 < (x407002_1.length : Int)
   rotate_left
   ·rw [if_neg c17] at H
    have c17b0 : decide (x5_1 < (x407002_1.length : Int)) = false := decide_eq_false c17
    clear c17
    simp only [Option.some.injEq, Prod.mk.injEq] at H
    obtain ⟨rfl, rfl, rfl, rfl, rfl, rfl, rfl⟩ := H
    have hnb26 := NB406_389.out
    have hnc26 := NB389_406.out
    have hnb27 := NB406_390.out
    have hnc27 := NB390_406.out
    obtain ⟨hcz28_0, hcz28_1, hcz28_2, hcz28_3, hcz28_4, hcz28_5⟩ := c6 BK406.out
    obtain ⟨hfz28_0, hfz28_1, hfz28_2, hfz28_3, hfz28_4, hfz28_5⟩ := f6 BK406.out
    obtain ⟨Ao29, co29, eo29⟩ := Kd.R_slice HO_407002.out
    subst eo29
    have hnb30 := NB390_389.out
    have hnc30 := NB389_390.out
    obtain ⟨hcz31_0, hcz31_1, hcz31_2, hcz31_3, hcz31_4, hcz31_5⟩ := c6 BK390.out
    obtain ⟨hfz31_0, hfz31_1, hfz31_2, hfz31_3, hfz31_4, hfz31_5⟩ := f6 BK390.out
    go_wp2
    refine bodyPost_ret (results_ct rfl _ _ gb390 27 #[.int .i64 t392, .int .i64 t393, .slice Ao29 x407002_1.length co29, .slice Ao14 t397.length co14, .slice Ao15 t400.length co15, .slice Ao16 t403.length co16] (0, 0) _ rfl (by (with_reducible repeat (first | refine bn_ ?_ _ | refine bd_ ?_ | refine ba_ ?_ _)); refine blk_put (cs := #[.int .i64 t392, .int .i64 t393, .slice Ao29 x407002_1.length co29, .slice Ao14 t397.length co14, .slice Ao15 t400.length co15, .slice none 0 0]) ?_ 5 _ rfl; (with_reducible repeat (first | refine bn_ ?_ _ | refine bd_ ?_ | refine ba_ ?_ _)); refine blk_put (cs := #[.int .i64 t392, .int .i64 t393, .slice Ao29 x407002_1.length co29, .slice Ao14 t397.length co14, .slice none 0 0, .slice none 0 0]) ?_ 4 _ rfl; (with_reducible repeat (first | refine bn_ ?_ _ | refine bd_ ?_ | refine ba_ ?_ _)); refine blk_put (cs := #[.int .i64 t392, .int .i64 t393, .slice Ao29 x407002_1.length co29, .slice none 0 0, .slice none 0 0, .slice none 0 0]) ?_ 3 _ rfl; (with_reducible repeat (first | refine bn_ ?_ _ | refine bd_ ?_ | refine ba_ ?_ _)); refine blk_put (cs := #[.int .i64 t392, .int .i64 t393, .slice none 0 0, .slice none 0 0, .slice none 0 0, .slice none 0 0]) ?_ 2 _ rfl; (with_reducible repeat (first | refine bn_ ?_ _ | refine bd_ ?_ | refine ba_ ?_ _)); refine blk_put (cs := #[.int .i64 t392, .int .i64 0, .slice none 0 0, .slice none 0 0, .slice none 0 0, .slice none 0 0]) ?_ 1 _ rfl; (with_reducible repeat (first | refine bn_ ?_ _ | refine bd_ ?_ | refine ba_ ?_ _)); refine blk_put (cs := #[.int .i64 0, .int .i64 0, .slice none 0 0, .slice none 0 0, .slice none 0 0, .slice none 0 0]) ?_ 0 _ rfl; (with_reducible repeat (first | refine bn_ ?_ _ | refine bd_ ?_ | refine ba_ ?_ _)); exact BK390.out) Try.underlying27 rfl (by kernel_rfl)) rfl ?_
    exact ⟨_, _, _, _, by first | rfl | (simp [errW_none, errW_some] <;> rfl) | (simp [*, errW_none, errW_some] <;> rfl), by (with_reducible repeat (first | apply Kd.R_alloc | apply Kd.R_drewN | apply Kd.R_drew)); exact Kd.R_mono (Kd.R_far (p := ⟨gb390, 5, none⟩) (Kd.R_far (p := ⟨gb390, 4, none⟩) (Kd.R_far (p := ⟨gb390, 3, none⟩) (Kd.R_far (p := ⟨gb390, 2, none⟩) (Kd.R_far (p := ⟨gb390, 1, none⟩) (Kd.R_far (p := ⟨gb390, 0, none⟩) (Kd.R_types HO_407002.out BK390.out (by decide)) (fun _ hk => hk.2) (.int .i64 t392)) (fun _ hk => hk.2) (.int .i64 t393)) (fun _ hk => hk.2) (.slice Ao29 x407002_1.length co29)) (fun _ hk => hk.2) (.slice Ao14 t397.length co14)) (fun _ hk => hk.2) (.slice Ao15 t400.length co15)) (fun _ hk => hk.2) (.slice Ao16 t403.length co16)) (fun _ hk => trivial), by (with_reducible repeat (first | apply Kd.S_alloc | apply Kd.S_drewN | apply Kd.S_drew)); exact Kd.S_mono (Kd.S_far (p := ⟨gb390, 5, none⟩) (Kd.S_far (p := ⟨gb390, 4, none⟩) (Kd.S_far (p := ⟨gb390, 3, none⟩) (Kd.S_far (p := ⟨gb390, 2, none⟩) (Kd.S_far (p := ⟨gb390, 1, none⟩) (Kd.S_far (p := ⟨gb390, 0, none⟩) (Kd.S_types HO_407003.out BK390.out (by decide)) (fun _ hk => hk.2) (.int .i64 t392)) (fun _ hk => hk.2) (.int .i64 t393)) (fun _ hk => hk.2) (.slice Ao29 x407002_1.length co29)) (fun _ hk => hk.2) (.slice Ao14 t397.length co14)) (fun _ hk => hk.2) (.slice Ao15 t400.length co15)) (fun _ hk => hk.2) (.slice Ao16 t403.length co16)) (fun _ hk => trivial), by (with_reducible repeat (first | apply Kd.R_alloc | apply Kd.R_drewN | apply Kd.R_drew)); exact Kd.R_mono (Kd.R_far (p := ⟨gb390, 5, none⟩) (Kd.R_far (p := ⟨gb390, 4, none⟩) (Kd.R_far (p := ⟨gb390, 3, none⟩) (Kd.R_far (p := ⟨gb390, 2, none⟩) (Kd.R_far (p := ⟨gb390, 1, none⟩) (Kd.R_far (p := ⟨gb390, 0, none⟩) (Kd.R_types HO_407004.out BK390.out (by decide)) (fun _ hk => hk.2) (.int .i64 t392)) (fun _ hk => hk.2) (.int .i64 t393)) (fun _ hk => hk.2) (.slice Ao29 x407002_1.length co29)) (fun _ hk => hk.2) (.slice Ao14 t397.length co14)) (fun _ hk => hk.2) (.slice Ao15 t400.length co15)) (fun _ hk => hk.2) (.slice Ao16 t403.length co16)) (fun _ hk => hk.1), by (with_reducible repeat (first | apply Kd.S_alloc | apply Kd.S_drewN | apply Kd.S_drew)); exact Kd.S_mono (Kd.S_far (p := ⟨gb390, 5, none⟩) (Kd.S_far (p := ⟨gb390, 4, none⟩) (Kd.S_far (p := ⟨gb390, 3, none⟩) (Kd.S_far (p := ⟨gb390, 2, none⟩) (Kd.S_far (p := ⟨gb390, 1, none⟩) (Kd.S_far (p := ⟨gb390, 0, none⟩) (Kd.S_types HO_407005.out BK390.out (by decide)) (fun _ hk => hk.2) (.int .i64 t392)) (fun _ hk => hk.2) (.int .i64 t393)) (fun _ hk => hk.2) (.slice Ao29 x407002_1.length co29)) (fun _ hk => hk.2) (.slice Ao14 t397.length co14)) (fun _ hk => hk.2) (.slice Ao15 t400.length co15)) (fun _ hk => hk.2) (.slice Ao16 t403.length co16)) (fun _ hk => trivial), by repeat (first | (with_reducible first | exact HB.out | apply pA | apply pN | apply pD | refine pS ?_ GE389.out | refine pS ?_ GE390.out | refine pS ?_ GE406.out) | exact HB.out)⟩
   rw [if_pos c17] at H
   have c17b0 : decide (x5_1 < (x407002_1.length : Int)) = true := decide_eq_true c17
   clear c17
   by_cases c18 : 0 ≤ x5_1
   rotate_left
   ·rw [if_neg c18] at H
    exact absurd H (by simp)
   rw [if_pos c18] at H
   have c18b0 : decide (0 ≤ x5_1) = true := decide_eq_true c18
   clear c18
   obtain ⟨y408, hy408⟩ : ∃ y_ : List Bool, y_ = (x407002_1.set (x5_1 : Int).toNat (!(rdOf false x407002_1 x5_1))) := ⟨_, rfl⟩
   replace H : (spec_OppositeChecker.l0 k1 (wrap64 (x5_1 + 1)) t392 t393 y408 t397 t400 t403) = some (r1, r2, r3, r4, r5, r6, r7) := by first | (rw [hy408]; with_reducible exact H) | (have H2_ := (Option.bind_some _ _).symm.trans H; rw [hy408]; with_reducible exact H2_) | (have H2_ := (Option.bind_some _ _).symm.trans H; with_reducible exact H2_) | with_reducible exact H | (rw [hy408]; exact H) | exact H
   have Ny408 := AZ.mk hy408
   clear hy408
   have H' := AZ.mk H
   clear H
   have hnb20 := NB406_389.out
   have hnc20 := NB389_406.out
   have hnb21 := NB406_390.out
   have hnc21 := NB390_406.out
   obtain ⟨hcz22_0, hcz22_1, hcz22_2, hcz22_3, hcz22_4, hcz22_5⟩ := c6 BK406.out
   obtain ⟨hfz22_0, hfz22_1, hfz22_2, hfz22_3, hfz22_4, hfz22_5⟩ := f6 BK406.out
   obtain ⟨Ao23, co23, eo23⟩ := Kd.R_slice HO_407002.out
   subst eo23
   try go_wp2
   have n0_ := AZ.mk (Kd.R_drew HO_407002.out)
   have n1_ := AZ.mk (Kd.S_drew HO_407003.out)
   have n2_ := AZ.mk (Kd.R_drew HO_407004.out)
   have n3_ := AZ.mk (Kd.S_drew HO_407005.out)
   have n4_ := AZ.mk (bd_ BK389.out)
   have n5_ := AZ.mk (bd_ BK390.out)
   have n6_ := AZ.mk (bd_ BK406.out)
   have n7_ := AZ.mk (pD HB.out)
   clear HO_407002
   clear HO_407003
   clear HO_407004
   clear HO_407005
   clear BK389
   clear BK390
   clear BK406
   clear HB
   have HO_407002 := n0_
   have HO_407003 := n1_
   have HO_407004 := n2_
   have HO_407005 := n3_
   have BK389 := n4_
   have BK390 := n5_
   have BK406 := n6_
   have HB := n7_
   clear n0_ n1_ n2_ n3_ n4_ n5_ n6_ n7_
   have p407 : 0 ≤ (x5_1 : Int) := oT (by first | (with_reducible assumption) | assumption)
   have q407 : x5_1 < (x407002_1.length : Int) := oT (by first | (with_reducible assumption) | assumption)
   obtain ⟨ad407, e407, hx407_0⟩ := Kd.at_bool (Kd.R_reads' HO_407002.out).2.2 x5_1 p407 q407
   cases e407
   replace p407 := eq_true p407
   replace q407 := eq_true q407
   have p19 : 0 ≤ (x5_1 : Int) := oT (by first | (with_reducible assumption) | assumption)
   have q19 : (x5_1 : Int) < ((x407002_1.length : Int) : Int) := oT (by first | (with_reducible assumption) | assumption)
   obtain ⟨go19, co19, eo19, gb19, gl19, cl19, HG19⟩ := Kd.R_form HO_407002.out (by omega)
   (first | cases eo19 | (injection eo19 with ea_ en_ ec_; (first | subst ea_ | (injection ea_ with ea_; subst ea_)); subst ec_; clear en_))
   have GB19 := AZ.mk gb19
   have GG19 := AZ.mk HG19
   clear gb19 gl19 HG19
   (first | simp only [add_plain] at hx407_0 | skip)
   obtain ⟨hx19_0, hf19_0⟩ := Kd.R_celln false HO_407002.out (x5_1 : Int) p19 q19
   replace p19 := eq_true p19
   replace q19 := eq_true q19
   have HP25 := Kd.R_putn HO_407002.out (x5_1 : Int) (!(rdOf false x407002_1 x5_1))
   rw [← Ny408.out] at HP25
   have HQ25 := AZ.mk HP25
   clear HP25
   refine start_ (n := 11) (S := fun w' => w'.cell? ⟨gb406, 0, none⟩ = some (.int .i64 t392) ∧ w'.cell? ⟨gb406, 1, none⟩ = some (.int .i64 t393) ∧ w'.cell? ⟨gb406, 2, none⟩ = some (.slice (some ⟨go19, 0, none⟩) x407002_1.length co23) ∧ w'.cell? ⟨gb406, 3, none⟩ = some (.slice Ao14 t397.length co14) ∧ w'.cell? ⟨gb406, 4, none⟩ = some (.slice Ao15 t400.length co15) ∧ w'.cell? ⟨gb406, 5, none⟩ = some (.slice Ao16 t403.length co16) ∧ w'.cell? ⟨go19, (x5_1).toNat, none⟩ = some (.bool (rdOf false x407002_1 x5_1))) (ds := [10]) (bz 11 0) (by kernel_rfl) rfl rfl ⟨(bc BK406.out 0).trans rfl, (bc BK406.out 1).trans rfl, (bc BK406.out 2).trans rfl, (bc BK406.out 3).trans rfl, (bc BK406.out 4).trans rfl, (bc BK406.out 5).trans rfl, hx407_0⟩ (fun hHeld => ?_); refine with_tabW spec_OppositeChecker.tab7 spec_OppositeChecker.bits7 (fun HT_ HW_ => ?_)
   generalize wr.drew = w24 at HO_407002 HO_407003 HO_407004 HO_407005 BK389 BK390 BK406 HB GG19 HQ25 hf19_0 hx19_0 hx407_0 hHeld ⊢
   iterate 10 (first | (refine pz_ HT_ spec_OppositeChecker.cz0 rfl rfl rfl (v := ?_) (a' := ?_) (by kernel_rfl) (fun _ _ _ h => h) (Or.inl ⟨by rfl, ?_⟩) ?_ ?_; rotate_left; (intro w'; go_simp; with_reducible rfl); rotate_left; (simp only [Act.put, sA, sB, sC, i64_w, i32_w]; rfl)) | (refine tz_ HT_ HW_ spec_OppositeChecker.cz0 rfl rfl rfl (v := ?_) (a' := ?_) (by kernel_rfl) (fun _ _ _ h => h) (Or.inl ⟨by rfl, ?_⟩) hHeld ?_ ?_; rotate_left; (rintro w' ⟨s0, s1, s2, s3, s4, s5, s6⟩; go_simp; with_reducible rfl); rotate_left; (simp only [Act.put, sA, sB, sC, i64_w, i32_w]; rfl)))
   refine last_ (i := 10) (N := none) (bz 11 2047) rfl rfl (one_of HT_.out (by kernel_rfl)) (by decide) (fun K hK => ?_)
   refine skip_ (w1 := ?_) (by rfl) rfl ?_ ?_
   rotate_left
   ·go_simp
    rfl
   refine hK.out _ _ ?_
   clear hK K
   refine done_ (done_of HT_.out (by kernel_rfl)) ?_
   try go_wp2
   go_roundg k1
   case measure => have := HK1.out; omega
   case rel => exact ⟨(wrap64 (x5_1 + 1)), (y408), (.slice (some ⟨go19, 0, none⟩) x407002_1.length co23), (by first | rfl | (simp; done) | (simp [*]; done)), H', ⟨by have := HK1.out; omega⟩, ⟨by (with_reducible repeat (first | apply Kd.R_alloc | apply Kd.R_drewN | apply Kd.R_drew)); exact HQ25.out⟩, ⟨by (with_reducible repeat (first | apply Kd.S_alloc | apply Kd.S_drewN | apply Kd.S_drew)); exact Kd.S_mono (Kd.S_far (p := ⟨go19, (x5_1 : Int).toNat, none⟩) (Kd.S_types HO_407003.out GG19.out (by decide)) (fun _ hk => hk.2) (.bool (!(rdOf false x407002_1 x5_1)))) (fun _ hk => trivial)⟩, ⟨by (with_reducible repeat (first | apply Kd.R_alloc | apply Kd.R_drewN | apply Kd.R_drew)); exact Kd.R_mono (Kd.R_far (p := ⟨go19, (x5_1 : Int).toNat, none⟩) (Kd.R_types HO_407004.out GG19.out (by decide)) (fun _ hk => hk.2) (.bool (!(rdOf false x407002_1 x5_1)))) (fun _ hk => hk.1)⟩, ⟨by (with_reducible repeat (first | apply Kd.S_alloc | apply Kd.S_drewN | apply Kd.S_drew)); exact Kd.S_mono (Kd.S_far (p := ⟨go19, (x5_1 : Int).toNat, none⟩) (Kd.S_types HO_407005.out GG19.out (by decide)) (fun _ hk => hk.2) (.bool (!(rdOf false x407002_1 x5_1)))) (fun _ hk => trivial)⟩, ⟨by (with_reducible repeat (first | refine bn_ ?_ _ | refine bd_ ?_ | refine ba_ ?_ _)); refine blk_far ?_ (by have h_ := Kd.R_ne HO_407002.out BK389.out (by decide); intro e_; exact h_ (by rw [e_]; rfl)) _; (with_reducible repeat (first | refine bn_ ?_ _ | refine bd_ ?_ | refine ba_ ?_ _)); exact BK389.out⟩, ⟨by (with_reducible repeat (first | refine bn_ ?_ _ | refine bd_ ?_ | refine ba_ ?_ _)); refine blk_far ?_ (by have h_ := Kd.R_ne HO_407002.out BK390.out (by decide); intro e_; exact h_ (by rw [e_]; rfl)) _; (with_reducible repeat (first | refine bn_ ?_ _ | refine bd_ ?_ | refine ba_ ?_ _)); exact BK390.out⟩, ⟨by (with_reducible repeat (first | refine bn_ ?_ _ | refine bd_ ?_ | refine ba_ ?_ _)); refine blk_far ?_ (by have h_ := Kd.R_ne HO_407002.out BK406.out (by decide); intro e_; exact h_ (by rw [e_]; rfl)) _; (with_reducible repeat (first | refine bn_ ?_ _ | refine bd_ ?_ | refine ba_ ?_ _)); exact BK406.out⟩, ⟨by repeat (first | (with_reducible first | exact HB.out | apply pA | apply pN | apply pD | refine pS ?_ GB19.out | refine pS ?_ GE389.out | refine pS ?_ GE390.out | refine pS ?_ GE406.out) | exact HB.out)⟩⟩
end Go.Proofs.Ytepkfigcnnfoaaa.P
namespace Go.Proofs.Ytepkfigcnnfoaaa.Th

def g (l : List Int) (j : Nat) : Int := l.getD j 0

end Go.Proofs.Ytepkfigcnnfoaaa.Th
namespace Go.Proofs.Ytepkfigcnnfoaaa.Br
open Go.RowKit Go.Proofs.Ytepkfigcnnfoaaa.P Go.Proofs.YtepkfigcnnfoaaaW.PrintWords Go.Proofs.YtepkfigcnnfoaaaW.PrintLast Go.Proofs.YtepkfigcnnfoaaaW.PrintMore Go.Proofs.Ytepkfigcnnfoaaa.Th
set_option linter.unusedVariables false
set_option linter.unusedSimpArgs false
theorem Ev.succ {α : Type} {g : Nat → Option α} {r : α} (h : Ev (fun k => g (k + 1)) r) : Ev g r := by
  obtain ⟨K, hK⟩ := h
  refine ⟨K + 1, fun k hk => ?_⟩
  obtain ⟨m, rfl⟩ : ∃ m, k = m + 1 := ⟨k - 1, by omega⟩
  exact hK m (by omega)
theorem Ev.done {α : Type} {r s : α} (h : r = s) : Ev (fun _ : Nat => some r) s := h ▸ Ev.now r
theorem w64 {x : Int} (h0 : -9223372036854775808 ≤ x) (h1 : x ≤ 9223372036854775807) : wrap64 x = x := by unfold wrap64; omega

end Go.Proofs.Ytepkfigcnnfoaaa.Br
namespace Go.Proofs.Ytepkfigcnnfoaaa.Br
open Go.RowKit Go.Proofs.Ytepkfigcnnfoaaa.P Go.Proofs.YtepkfigcnnfoaaaW.PrintWords Go.Proofs.YtepkfigcnnfoaaaW.PrintLast Go.Proofs.YtepkfigcnnfoaaaW.PrintMore Go.Proofs.Ytepkfigcnnfoaaa.Th
set_option linter.unusedVariables false
set_option linter.unusedSimpArgs false
theorem down {P : Nat → Prop} (n : Nat) (h0 : P n) (h1 : ∀ i, i < n → P (i + 1) → P i) : ∀ i, i ≤ n → P i := by
  have key : ∀ d i, i + d = n → P i := by
    intro d
    induction d with
    | zero => intro i hi; obtain rfl : i = n := by omega
              exact h0
    | succ d ih => intro i hi; exact h1 i (by omega) (ih (i + 1) (by omega))
  intro i hi
  exact key (n - i) i (by omega)
theorem up1 (i : Nat) (h : i < 9223372036854775807) : wrap64 ((i : Int) + 1) = ((i + 1 : Nat) : Int) := by
  rw [w64 (by omega) (by omega)]; rfl
theorem ilt {i n : Nat} (h : i < n) : (i : Int) < (n : Int) := by omega
theorem inlt {n : Nat} : ¬ ((n : Int) < (n : Int)) := by omega
theorem i0 (i : Nat) : 0 ≤ (i : Int) := by omega
theorem getD_mem {α : Type} (l : List α) (i : Nat) (d : α) (h : i < l.length) : l.getD i d ∈ l := by
  rw [List.getD_eq_getElem?_getD, List.getElem?_eq_getElem h]
  exact List.getElem_mem h
theorem take1 (a : Int) (n : Nat) (h0 : 0 ≤ a) (h1 : a ≤ 1048576) (hn : n ≤ 9223372036854775807) : wrap64 (a - (n : Int)) = a - (n : Int) := w64 (by omega) (by omega)

/-! ### loops, plainly -/
def allN (n : Nat) (e : Nat → Bool) : Bool := (List.range n).all e
def eqv {α : Type} (e : α → α → Bool) (d : α) (x y : List α) : Bool := decide (x.length = y.length) && allN x.length (fun i => e (x.getD i d) (y.getD i d))
theorem allN_true {n : Nat} {e : Nat → Bool} (h : ∀ i, i < n → e i = true) : allN n e = true := by
  unfold allN
  rw [List.all_eq_true]
  intro i hi
  exact h i (List.mem_range.1 hi)
theorem eqv_self {α : Type} (e : α → α → Bool) (d : α) (x : List α) (h : ∀ a ∈ x, e a a = true) : eqv e d x x = true := by
  unfold eqv
  rw [decide_eq_true rfl, Bool.true_and]
  exact allN_true (fun i hi => h _ (getD_mem x i d hi))
def allFromN (n : Nat) (e : Nat → Bool) : Nat → Bool
  | i => (List.range n).all fun j => decide (j < i) || e j
theorem allFromN_zero (n : Nat) (e : Nat → Bool) : allFromN n e 0 = allN n e := by
  unfold allFromN allN
  simp
theorem allFromN_end (n : Nat) (e : Nat → Bool) : allFromN n e n = true := by
  unfold allFromN
  rw [List.all_eq_true]
  intro j hj
  simp [List.mem_range.1 hj]
theorem allFromN_step (n : Nat) (e : Nat → Bool) (i : Nat) (hi : i < n) : allFromN n e i = (e i && allFromN n e (i + 1)) := by
  unfold allFromN
  apply Bool.eq_iff_iff.2
  rw [Bool.and_eq_true, List.all_eq_true, List.all_eq_true]
  constructor
  · intro H
    refine ⟨by simpa using H i (List.mem_range.2 hi), fun j hj => ?_⟩
    have := H j hj
    simp only [Bool.or_eq_true, decide_eq_true_eq] at this ⊢
    rcases this with h1 | h1
    · exact .inl (by omega)
    · exact .inr h1
  · rintro ⟨H0, H⟩ j hj
    have := H j hj
    simp only [Bool.or_eq_true, decide_eq_true_eq] at this ⊢
    by_cases h : j = i
    · subst h; exact .inr H0
    · rcases this with h1 | h1
      · exact .inl (by omega)
      · exact .inr h1
theorem allLoop (n : Nat) (L : Nat → Nat → Option Bool) (e : Nat → Bool) (hend : Ev (L n) true) (hs : ∀ i, i < n → ∀ r, Ev (L (i + 1)) r → Ev (L i) (e i && r)) : Ev (L 0) (allN n e) := by
  rw [← allFromN_zero]
  refine down (P := fun i => Ev (L i) (allFromN n e i)) n ?_ ?_ 0 (by omega)
  · show Ev (L n) (allFromN n e n)
    rw [allFromN_end]; exact hend
  · intro i hi ih
    show Ev (L i) (allFromN n e i)
    rw [allFromN_step n e i hi]
    exact hs i hi _ ih
theorem andEv {g : Nat → Option Bool} {a r : Bool} {f : Nat → Option Bool} (h : Ev g a) (k : Ev f r) : Ev (fun n => (g n).bind fun t => if t = true then f n else some false) (a && r) := by
  refine Ev.bind h ?_
  cases a with
  | true => simp only [if_true, Bool.true_and]; exact k
  | false => simp only [Bool.false_eq_true, if_false, Bool.false_and]; exact Ev.now _
theorem iteEv {a r : Bool} {f : Nat → Option Bool} (k : Ev f r) : Ev (fun n => if a = true then f n else some false) (a && r) := by
  cases a with
  | true => simp only [if_true, Bool.true_and]; exact k
  | false => simp only [Bool.false_eq_true, if_false, Bool.false_and]; exact Ev.now _
theorem notEv {a r : Bool} {f : Nat → Option Bool} (k : Ev f r) : Ev (fun n => if a = true then some false else f n) (!a && r) := by
  cases a with
  | false => simp only [Bool.false_eq_true, if_false, Bool.not_false, Bool.true_and]; exact k
  | true => simp only [if_true, Bool.not_true, Bool.false_and]; exact Ev.now _
theorem eqEv {a b : Int} {r : Bool} {f : Nat → Option Bool} (k : Ev f r) : Ev (fun n => if a = b then f n else some false) (a == b && r) := by
  by_cases h : a = b
  · subst h; simp only [if_true, beq_self_eq_true, Bool.true_and]; exact k
  · simp only [if_neg h, beq_false_of_ne h, Bool.false_and]; exact Ev.now _
theorem lenEv {m n : Nat} {r : Bool} {f : Nat → Option Bool} (k : m = n → Ev f r) : Ev (fun q => if (m : Int) = (n : Int) then f q else some false) (decide (m = n) && r) := by
  by_cases h : m = n
  · simp only [if_pos (show (m : Int) = (n : Int) by omega), decide_eq_true h, Bool.true_and]; exact k h
  · simp only [if_neg (show ¬ (m : Int) = (n : Int) by omega), decide_eq_false h, Bool.false_and]; exact Ev.now _
theorem toLoop {β : Type} (n : Nat) (L : Nat → List β → Nat → Option (List β)) (v : List β) (d : β) (hv : v.length = n) (hend : ∀ o, Ev (L n o) o)
    (hs : ∀ i o, i < n → o.length = n → Ev (L (i + 1) (o.set i (v.getD i d))) v → Ev (L i o) v) : ∀ o, o.length = n → Ev (L 0 o) v := by
  have key : ∀ i, i ≤ n → ∀ o, o.length = n → o.take i = v.take i → Ev (L i o) v := by
    refine down n ?_ ?_
    · intro o ho ht
      have : o = v := by rw [← List.take_length (l := o), ho, ht, List.take_of_length_le (by omega)]
      subst this
      exact hend o
    · intro i hi ih o ho ht
      refine hs i o hi ho (ih _ (by simpa using ho) ?_)
      rw [List.take_add_one, List.take_add_one, List.take_set_of_le (by omega), ht, List.getElem?_set_self (by omega), List.getElem?_eq_getElem (show i < v.length by omega), List.getD_eq_getElem?_getD, List.getElem?_eq_getElem (show i < v.length by omega)]
      rfl
  intro o ho
  exact key 0 (by omega) o ho (by simp)
theorem szLoop {α : Type} (l : List α) (d : α) (ok : α → Prop) (L : Nat → Int → Nat → Option Int) (hend : ∀ a, Ev (L l.length a) a)
    (hs : ∀ i, i < l.length → ∀ a, 0 ≤ a → a ≤ 1048576 → Ev (L i a) (-1) ∨ (ok (l.getD i d) ∧ ∃ b, 0 ≤ b ∧ b ≤ a ∧ ∀ r, Ev (L (i + 1) b) r → Ev (L i a) r)) :
    ∀ a, 0 ≤ a → a ≤ 1048576 → ∃ r, Ev (L 0 a) r ∧ (r < 0 ∨ (0 ≤ r ∧ r ≤ a ∧ ∀ x ∈ l, ok x)) := by
  have key : ∀ i, i ≤ l.length → ∀ a, 0 ≤ a → a ≤ 1048576 → ∃ r, Ev (L i a) r ∧ (r < 0 ∨ (0 ≤ r ∧ r ≤ a ∧ ∀ j, i ≤ j → j < l.length → ok (l.getD j d))) := by
    refine down l.length ?_ ?_
    · intro a h0 h1
      exact ⟨a, hend a, .inr ⟨h0, by omega, fun j _ _ => by omega⟩⟩
    · intro i hi ih a h0 h1
      rcases hs i hi a h0 h1 with h | ⟨ho, b, b0, b1, h⟩
      · exact ⟨-1, h, .inl (by omega)⟩
      · obtain ⟨r, hr, hr2⟩ := ih b b0 (by omega)
        refine ⟨r, h r hr, ?_⟩
        rcases hr2 with h2 | ⟨q0, q1, q2⟩
        · exact .inl h2
        · refine .inr ⟨q0, by omega, fun j hj hj2 => ?_⟩
          by_cases e : j = i
          · subst e; exact ho
          · exact q2 j (by omega) hj2
  intro a h0 h1
  obtain ⟨r, hr, hr2⟩ := key 0 (by omega) a h0 h1
  refine ⟨r, hr, ?_⟩
  rcases hr2 with h2 | ⟨q0, q1, q2⟩
  · exact .inl h2
  · refine .inr ⟨q0, q1, fun x hx => ?_⟩
    obtain ⟨j, hj⟩ := List.getElem?_of_mem hx
    have := q2 j (by omega) (List.getElem?_eq_some_iff.1 hj).1
    rwa [List.getD_eq_getElem?_getD, hj] at this
end Go.Proofs.Ytepkfigcnnfoaaa.Br
namespace Go.Proofs.Ytepkfigcnnfoaaa.Br
open Go.RowKit Go.Proofs.Ytepkfigcnnfoaaa.P Go.Proofs.YtepkfigcnnfoaaaW.PrintWords Go.Proofs.YtepkfigcnnfoaaaW.PrintLast Go.Proofs.YtepkfigcnnfoaaaW.PrintMore Go.Proofs.Ytepkfigcnnfoaaa.Th
set_option linter.unusedVariables false
set_option linter.unusedSimpArgs false
def eint (a b : Int) : Bool := a == b
def ebool (a b : Bool) : Bool := !(a != b)
def epush (x y : S47) : Bool := !(!(x.f0 == y.f0) || !(x.f1 == y.f1))
/-- How long a row is, and those inside. -/
def sm0 {α : Type} (l : List α) : Prop := l.length ≤ 1048576
def sm1 {α : Type} (l : List (List α)) : Prop := l.length ≤ 1048576 ∧ ∀ x ∈ l, sm0 x
def sm2 {α : Type} (l : List (List (List α))) : Prop := l.length ≤ 1048576 ∧ ∀ x ∈ l, sm1 x

theorem laws_eqPush_ev (x y : S47) : laws_eqPush.f x.f0 x.f1 y.f0 y.f1 = some (epush x y) := by
  unfold laws_eqPush.f epush
  by_cases h : x.f0 = y.f0
  · by_cases h2 : x.f1 = y.f1
    · simp [h, h2]
    · simp [h, h2]
  · simp [h]

theorem laws_eqInt64S_ev (x y : List Int) (hx : sm0 x) : Ev (fun k => laws_eqInt64S.f k x y) (eqv eint 0 x y) := by
  have hl : x.length ≤ 1048576 := hx
  unfold laws_eqInt64S.f eqv
  refine lenEv (fun h => allLoop x.length (fun i k => laws_eqInt64S.l0 k x y (i : Int)) _ ?_ ?_)
  · refine Ev.succ ?_
    simp only [laws_eqInt64S.l0, if_neg inlt]
    exact Ev.now _
  · intro i hi r hr
    refine Ev.succ ?_
    simp only [laws_eqInt64S.l0, if_pos (ilt hi), if_pos (i0 i), if_pos (ilt (show i < y.length by omega)), up1 i (by omega)]
    exact eqEv hr

theorem laws_eqBoolS_ev (x y : List Bool) (hx : sm0 x) : Ev (fun k => laws_eqBoolS.f k x y) (eqv ebool false x y) := by
  have hl : x.length ≤ 1048576 := hx
  unfold laws_eqBoolS.f eqv
  refine lenEv (fun h => allLoop x.length (fun i k => laws_eqBoolS.l0 k x y (i : Int)) _ ?_ ?_)
  · refine Ev.succ ?_
    simp only [laws_eqBoolS.l0, if_neg inlt]
    exact Ev.now _
  · intro i hi r hr
    refine Ev.succ ?_
    simp only [laws_eqBoolS.l0, if_pos (ilt hi), if_pos (i0 i), if_pos (ilt (show i < y.length by omega)), up1 i (by omega)]
    exact notEv hr

theorem laws_eqPushS_ev (x y : List S47) (hx : sm0 x) : Ev (fun k => laws_eqPushS.f k x y) (eqv epush z47 x y) := by
  have hl : x.length ≤ 1048576 := hx
  unfold laws_eqPushS.f eqv
  refine lenEv (fun h => allLoop x.length (fun i k => laws_eqPushS.l0 k x y (i : Int)) _ ?_ ?_)
  · refine Ev.succ ?_
    simp only [laws_eqPushS.l0, if_neg inlt]
    exact Ev.now _
  · intro i hi r hr
    refine Ev.succ ?_
    simp only [laws_eqPushS.l0, if_pos (ilt hi), if_pos (i0 i), if_pos (ilt (show i < y.length by omega)), up1 i (by omega)]
    exact andEv ⟨0, fun _ _ => laws_eqPush_ev (x.getD i z47) (y.getD i z47)⟩ hr

theorem laws_eqInt64SS_ev (x y : List (List Int)) (hx : sm1 x) : Ev (fun k => laws_eqInt64SS.f k x y) (eqv (eqv eint 0) ([] : (List Int)) x y) := by
  have hl : x.length ≤ 1048576 := hx.1
  unfold laws_eqInt64SS.f eqv
  refine lenEv (fun h => allLoop x.length (fun i k => laws_eqInt64SS.l0 k x y (i : Int)) _ ?_ ?_)
  · refine Ev.succ ?_
    simp only [laws_eqInt64SS.l0, if_neg inlt]
    exact Ev.now _
  · intro i hi r hr
    refine Ev.succ ?_
    simp only [laws_eqInt64SS.l0, if_pos (ilt hi), if_pos (i0 i), if_pos (ilt (show i < y.length by omega)), up1 i (by omega)]
    exact andEv (laws_eqInt64S_ev _ _ (hx.2 _ (getD_mem x i _ hi))) hr

theorem laws_eqInt64SSS_ev (x y : List (List (List Int))) (hx : sm2 x) : Ev (fun k => laws_eqInt64SSS.f k x y) (eqv (eqv (eqv eint 0) ([] : (List Int))) ([] : (List (List Int))) x y) := by
  have hl : x.length ≤ 1048576 := hx.1
  unfold laws_eqInt64SSS.f eqv
  refine lenEv (fun h => allLoop x.length (fun i k => laws_eqInt64SSS.l0 k x y (i : Int)) _ ?_ ?_)
  · refine Ev.succ ?_
    simp only [laws_eqInt64SSS.l0, if_neg inlt]
    exact Ev.now _
  · intro i hi r hr
    refine Ev.succ ?_
    simp only [laws_eqInt64SSS.l0, if_pos (ilt hi), if_pos (i0 i), if_pos (ilt (show i < y.length by omega)), up1 i (by omega)]
    exact andEv (laws_eqInt64SS_ev _ _ (hx.2 _ (getD_mem x i _ hi))) hr

theorem laws_eqPushSS_ev (x y : List (List S47)) (hx : sm1 x) : Ev (fun k => laws_eqPushSS.f k x y) (eqv (eqv epush z47) ([] : (List S47)) x y) := by
  have hl : x.length ≤ 1048576 := hx.1
  unfold laws_eqPushSS.f eqv
  refine lenEv (fun h => allLoop x.length (fun i k => laws_eqPushSS.l0 k x y (i : Int)) _ ?_ ?_)
  · refine Ev.succ ?_
    simp only [laws_eqPushSS.l0, if_neg inlt]
    exact Ev.now _
  · intro i hi r hr
    refine Ev.succ ?_
    simp only [laws_eqPushSS.l0, if_pos (ilt hi), if_pos (i0 i), if_pos (ilt (show i < y.length by omega)), up1 i (by omega)]
    exact andEv (laws_eqPushS_ev _ _ (hx.2 _ (getD_mem x i _ hi))) hr

end Go.Proofs.Ytepkfigcnnfoaaa.Br
namespace Go.Proofs.Ytepkfigcnnfoaaa.Br
open Go.RowKit Go.Proofs.Ytepkfigcnnfoaaa.P Go.Proofs.YtepkfigcnnfoaaaW.PrintWords Go.Proofs.YtepkfigcnnfoaaaW.PrintLast Go.Proofs.YtepkfigcnnfoaaaW.PrintMore Go.Proofs.Ytepkfigcnnfoaaa.Th
set_option linter.unusedVariables false
set_option linter.unusedSimpArgs false
theorem getD_map {α β : Type} (f : α → β) (l : List α) (i : Nat) (d : α) (d' : β) (h : i < l.length) : (l.map f).getD i d' = f (l.getD i d) := by
  rw [List.getD_eq_getElem?_getD, List.getD_eq_getElem?_getD, List.getElem?_map, List.getElem?_eq_getElem h]
  rfl
theorem laws_toInt64S_ev (l : List Int) (hl : sm0 l) : Ev (fun k => laws_toInt64S.f k l) l := by
  have hl' : l.length ≤ 1048576 := hl
  unfold laws_toInt64S.f
  simp only [if_pos (i0 l.length), Int.toNat_natCast, if_pos (show l.length ≤ 35184372088832 by omega)]
  refine toLoop l.length (fun i o k => laws_toInt64S.l0 k l o i) l 0 rfl ?_ ?_ _ (by simp)
  · intro o
    refine Ev.succ ?_
    simp only [laws_toInt64S.l0, if_neg inlt]
    exact Ev.now _
  · intro i o hi ho h
    refine Ev.succ ?_
    simp only [laws_toInt64S.l0, if_pos (ilt hi), if_pos (i0 i), if_pos (ilt (show i < o.length by omega)), up1 i (by omega), Int.toNat_natCast]
    exact h
theorem laws_toBoolS_ev (l : List Bool) (hl : sm0 l) : Ev (fun k => laws_toBoolS.f k l) l := by
  have hl' : l.length ≤ 1048576 := hl
  unfold laws_toBoolS.f
  simp only [if_pos (i0 l.length), Int.toNat_natCast, if_pos (show l.length ≤ 281474976710656 by omega)]
  refine toLoop l.length (fun i o k => laws_toBoolS.l0 k l o i) l false rfl ?_ ?_ _ (by simp)
  · intro o
    refine Ev.succ ?_
    simp only [laws_toBoolS.l0, if_neg inlt]
    exact Ev.now _
  · intro i o hi ho h
    refine Ev.succ ?_
    simp only [laws_toBoolS.l0, if_pos (ilt hi), if_pos (i0 i), if_pos (ilt (show i < o.length by omega)), up1 i (by omega), Int.toNat_natCast]
    exact h
def cPush (x : S101) : S47 := ⟨x.f0, x.f1⟩
theorem laws_toPushS_ev (l : List S101) (hl : sm0 l) : Ev (fun k => laws_toPushS.f k l) (l.map cPush) := by
  have hl' : l.length ≤ 1048576 := hl
  unfold laws_toPushS.f
  simp only [if_pos (i0 l.length), Int.toNat_natCast, if_pos (show l.length ≤ 17592186044416 by omega)]
  refine toLoop l.length (fun i o k => laws_toPushS.l0 k l o i) (l.map cPush) z47 (by simp) ?_ ?_ _ (by simp)
  · intro o
    refine Ev.succ ?_
    simp only [laws_toPushS.l0, if_neg inlt]
    exact Ev.now _
  · intro i o hi ho h
    refine Ev.succ ?_
    rw [getD_map cPush l i z101 _ hi] at h
    simp only [laws_toPushS.l0, if_pos (ilt hi), if_pos (i0 i), if_pos (ilt (show i < o.length by omega)), up1 i (by omega), Int.toNat_natCast, laws_toPush.f, Option.bind_some]
    exact h
theorem laws_toInt64SS_ev (l : List (List Int)) (hl : sm1 l) : Ev (fun k => laws_toInt64SS.f k l) l := by
  have hl' : l.length ≤ 1048576 := hl.1
  unfold laws_toInt64SS.f
  simp only [if_pos (i0 l.length), Int.toNat_natCast, if_pos (show l.length ≤ 11728124029610 by omega)]
  refine toLoop l.length (fun i o k => laws_toInt64SS.l0 k l o i) l [] rfl ?_ ?_ _ (by simp)
  · intro o
    refine Ev.succ ?_
    simp only [laws_toInt64SS.l0, if_neg inlt]
    exact Ev.now _
  · intro i o hi ho h
    refine Ev.succ ?_
    simp only [laws_toInt64SS.l0, if_pos (ilt hi), if_pos (i0 i), if_pos (ilt (show i < o.length by omega)), up1 i (by omega), Int.toNat_natCast]
    exact Ev.bind (laws_toInt64S_ev (l.getD i []) (hl.2 _ (getD_mem l i _ hi))) h
theorem laws_toInt64SSS_ev (l : List (List (List Int))) (hl : sm2 l) : Ev (fun k => laws_toInt64SSS.f k l) l := by
  have hl' : l.length ≤ 1048576 := hl.1
  unfold laws_toInt64SSS.f
  simp only [if_pos (i0 l.length), Int.toNat_natCast, if_pos (show l.length ≤ 11728124029610 by omega)]
  refine toLoop l.length (fun i o k => laws_toInt64SSS.l0 k l o i) l [] rfl ?_ ?_ _ (by simp)
  · intro o
    refine Ev.succ ?_
    simp only [laws_toInt64SSS.l0, if_neg inlt]
    exact Ev.now _
  · intro i o hi ho h
    refine Ev.succ ?_
    simp only [laws_toInt64SSS.l0, if_pos (ilt hi), if_pos (i0 i), if_pos (ilt (show i < o.length by omega)), up1 i (by omega), Int.toNat_natCast]
    exact Ev.bind (laws_toInt64SS_ev (l.getD i []) (hl.2 _ (getD_mem l i _ hi))) h
theorem laws_toPushSS_ev (l : List (List S101)) (hl : sm1 l) : Ev (fun k => laws_toPushSS.f k l) (l.map (List.map cPush)) := by
  have hl' : l.length ≤ 1048576 := hl.1
  unfold laws_toPushSS.f
  simp only [if_pos (i0 l.length), Int.toNat_natCast, if_pos (show l.length ≤ 11728124029610 by omega)]
  refine toLoop l.length (fun i o k => laws_toPushSS.l0 k l o i) (l.map (List.map cPush)) [] (by simp) ?_ ?_ _ (by simp)
  · intro o
    refine Ev.succ ?_
    simp only [laws_toPushSS.l0, if_neg inlt]
    exact Ev.now _
  · intro i o hi ho h
    refine Ev.succ ?_
    rw [getD_map (List.map cPush) l i [] _ hi] at h
    simp only [laws_toPushSS.l0, if_pos (ilt hi), if_pos (i0 i), if_pos (ilt (show i < o.length by omega)), up1 i (by omega), Int.toNat_natCast]
    exact Ev.bind (laws_toPushS_ev (l.getD i []) (hl.2 _ (getD_mem l i _ hi))) h
theorem eint_self (a : Int) : eint a a = true := by simp [eint]
theorem ebool_self (a : Bool) : ebool a a = true := by simp [ebool]
theorem epush_self (a : S47) : epush a a = true := by simp [epush]
theorem laws_eqChecker_ev (a b : Int) (l2 : List Bool) (l3 : List (List S47)) (l4 : List (List (List Int))) (l5 : List (List Int)) (h2 : sm0 l2) (h3 : sm1 l3) (h4 : sm2 l4) (h5 : sm1 l5) :
    Ev (fun k => laws_eqChecker.f k a b l2 l3 l4 l5 a b l2 l3 l4 l5) true := by
  unfold laws_eqChecker.f
  simp only [if_true]
  have e2 := laws_eqBoolS_ev l2 l2 h2
  rw [eqv_self _ _ _ (fun a _ => ebool_self a)] at e2
  have e3 := laws_eqPushSS_ev l3 l3 h3
  rw [eqv_self _ _ _ (fun a _ => eqv_self _ _ _ (fun a _ => epush_self a))] at e3
  have e4 := laws_eqInt64SSS_ev l4 l4 h4
  rw [eqv_self _ _ _ (fun a _ => eqv_self _ _ _ (fun a _ => eqv_self _ _ _ (fun a _ => eint_self a)))] at e4
  have e5 := laws_eqInt64SS_ev l5 l5 h5
  rw [eqv_self _ _ _ (fun a _ => eqv_self _ _ _ (fun a _ => eint_self a))] at e5
  refine Ev.bind e2 ?_
  simp only [if_true]
  refine Ev.bind e3 ?_
  simp only [if_true]
  refine Ev.bind e4 ?_
  simp only [if_true]
  refine Ev.bind e5 ?_
  simp only [if_true]
  exact Ev.now _
theorem laws_szBoolS_ev (l : List Bool) (a : Int) (h0 : 0 ≤ a) (h1 : a ≤ 1048576) (hl : l.length ≤ 9223372036854775807) : ∃ r, laws_szBoolS.f l a = some r ∧ (r < 0 ∨ (0 ≤ r ∧ r ≤ a ∧ sm0 l)) := by
  unfold laws_szBoolS.f
  rw [take1 a _ h0 h1 hl]
  by_cases h : a - (l.length : Int) < 0
  · exact ⟨-1, by rw [if_pos h], .inl (by omega)⟩
  · exact ⟨_, by rw [if_neg h], .inr ⟨by omega, by omega, by show l.length ≤ 1048576; omega⟩⟩
theorem laws_szPushS_ev (l : List S101) (a : Int) (h0 : 0 ≤ a) (h1 : a ≤ 1048576) (hl : l.length ≤ 9223372036854775807) : ∃ r, laws_szPushS.f l a = some r ∧ (r < 0 ∨ (0 ≤ r ∧ r ≤ a ∧ sm0 l)) := by
  unfold laws_szPushS.f
  rw [take1 a _ h0 h1 hl]
  by_cases h : a - (l.length : Int) < 0
  · exact ⟨-1, by rw [if_pos h], .inl (by omega)⟩
  · exact ⟨_, by rw [if_neg h], .inr ⟨by omega, by omega, by show l.length ≤ 1048576; omega⟩⟩
theorem laws_szInt64S_ev (l : List Int) (a : Int) (h0 : 0 ≤ a) (h1 : a ≤ 1048576) (hl : l.length ≤ 9223372036854775807) : ∃ r, laws_szInt64S.f l a = some r ∧ (r < 0 ∨ (0 ≤ r ∧ r ≤ a ∧ sm0 l)) := by
  unfold laws_szInt64S.f
  rw [take1 a _ h0 h1 hl]
  by_cases h : a - (l.length : Int) < 0
  · exact ⟨-1, by rw [if_pos h], .inl (by omega)⟩
  · exact ⟨_, by rw [if_neg h], .inr ⟨by omega, by omega, by show l.length ≤ 1048576; omega⟩⟩
theorem laws_szPushSS_ev (l : List (List S101)) (a : Int) (h0 : 0 ≤ a) (h1 : a ≤ 1048576) (hl : l.length ≤ 9223372036854775807) (hi : ∀ x ∈ l, x.length ≤ 9223372036854775807) :
    ∃ r, Ev (fun k => laws_szPushSS.f k l a) r ∧ (r < 0 ∨ (0 ≤ r ∧ r ≤ a ∧ sm1 l)) := by
  unfold laws_szPushSS.f
  rw [take1 a _ h0 h1 hl]
  by_cases h : a - (l.length : Int) < 0
  · exact ⟨-1, by simp only [if_pos h]; exact Ev.now _, .inl (by omega)⟩
  · obtain ⟨r, hr, hr2⟩ := szLoop l [] sm0 (fun i c k => laws_szPushSS.l0 k l c i) (fun c => by
        refine Ev.succ ?_
        simp only [laws_szPushSS.l0, if_neg inlt]
        exact Ev.now _) (fun i hi' c c0 c1 => by
        have hm := getD_mem l i [] hi'
        obtain ⟨r, hr, hr2⟩ := laws_szPushS_ev (l.getD i []) c c0 c1 (hi _ hm)
        by_cases hn : r < 0
        · refine .inl (Ev.succ ?_)
          simp only [laws_szPushSS.l0, if_pos (ilt hi'), if_pos (i0 i)]
          exact Ev.bind ⟨0, fun _ _ => hr⟩ (by simp only [if_pos hn]; exact Ev.now _)
        · rcases hr2 with h2 | ⟨q0, q1, q2⟩
          · exact absurd h2 hn
          · refine .inr ⟨q2, r, q0, q1, fun s hs => Ev.succ ?_⟩
            simp only [laws_szPushSS.l0, if_pos (ilt hi'), if_pos (i0 i), up1 i (by omega)]
            exact Ev.bind ⟨0, fun _ _ => hr⟩ (by simp only [if_neg hn]; exact hs)) (a - (l.length : Int)) (by omega) (by omega)
    refine ⟨r, by simp only [if_neg h]; exact hr, ?_⟩
    rcases hr2 with h2 | ⟨q0, q1, q2⟩
    · exact .inl h2
    · exact .inr ⟨q0, by omega, ⟨by omega, q2⟩⟩
theorem laws_szInt64SS_ev (l : List (List Int)) (a : Int) (h0 : 0 ≤ a) (h1 : a ≤ 1048576) (hl : l.length ≤ 9223372036854775807) (hi : ∀ x ∈ l, x.length ≤ 9223372036854775807) :
    ∃ r, Ev (fun k => laws_szInt64SS.f k l a) r ∧ (r < 0 ∨ (0 ≤ r ∧ r ≤ a ∧ sm1 l)) := by
  unfold laws_szInt64SS.f
  rw [take1 a _ h0 h1 hl]
  by_cases h : a - (l.length : Int) < 0
  · exact ⟨-1, by simp only [if_pos h]; exact Ev.now _, .inl (by omega)⟩
  · obtain ⟨r, hr, hr2⟩ := szLoop l [] sm0 (fun i c k => laws_szInt64SS.l0 k l c i) (fun c => by
        refine Ev.succ ?_
        simp only [laws_szInt64SS.l0, if_neg inlt]
        exact Ev.now _) (fun i hi' c c0 c1 => by
        have hm := getD_mem l i [] hi'
        obtain ⟨r, hr, hr2⟩ := laws_szInt64S_ev (l.getD i []) c c0 c1 (hi _ hm)
        by_cases hn : r < 0
        · refine .inl (Ev.succ ?_)
          simp only [laws_szInt64SS.l0, if_pos (ilt hi'), if_pos (i0 i)]
          exact Ev.bind ⟨0, fun _ _ => hr⟩ (by simp only [if_pos hn]; exact Ev.now _)
        · rcases hr2 with h2 | ⟨q0, q1, q2⟩
          · exact absurd h2 hn
          · refine .inr ⟨q2, r, q0, q1, fun s hs => Ev.succ ?_⟩
            simp only [laws_szInt64SS.l0, if_pos (ilt hi'), if_pos (i0 i), up1 i (by omega)]
            exact Ev.bind ⟨0, fun _ _ => hr⟩ (by simp only [if_neg hn]; exact hs)) (a - (l.length : Int)) (by omega) (by omega)
    refine ⟨r, by simp only [if_neg h]; exact hr, ?_⟩
    rcases hr2 with h2 | ⟨q0, q1, q2⟩
    · exact .inl h2
    · exact .inr ⟨q0, by omega, ⟨by omega, q2⟩⟩
theorem laws_szInt64SSS_ev (l : List (List (List Int))) (a : Int) (h0 : 0 ≤ a) (h1 : a ≤ 1048576) (hl : l.length ≤ 9223372036854775807) (hi : ∀ x ∈ l, (x.length ≤ 9223372036854775807 ∧ ∀ y ∈ x, y.length ≤ 9223372036854775807)) :
    ∃ r, Ev (fun k => laws_szInt64SSS.f k l a) r ∧ (r < 0 ∨ (0 ≤ r ∧ r ≤ a ∧ sm2 l)) := by
  unfold laws_szInt64SSS.f
  rw [take1 a _ h0 h1 hl]
  by_cases h : a - (l.length : Int) < 0
  · exact ⟨-1, by simp only [if_pos h]; exact Ev.now _, .inl (by omega)⟩
  · obtain ⟨r, hr, hr2⟩ := szLoop l [] sm1 (fun i c k => laws_szInt64SSS.l0 k l c i) (fun c => by
        refine Ev.succ ?_
        simp only [laws_szInt64SSS.l0, if_neg inlt]
        exact Ev.now _) (fun i hi' c c0 c1 => by
        have hm := getD_mem l i [] hi'
        obtain ⟨r, hr, hr2⟩ := laws_szInt64SS_ev (l.getD i []) c c0 c1 (hi _ hm).1 (hi _ hm).2
        by_cases hn : r < 0
        · refine .inl (Ev.succ ?_)
          simp only [laws_szInt64SSS.l0, if_pos (ilt hi'), if_pos (i0 i)]
          exact Ev.bind hr (by simp only [if_pos hn]; exact Ev.now _)
        · rcases hr2 with h2 | ⟨q0, q1, q2⟩
          · exact absurd h2 hn
          · refine .inr ⟨q2, r, q0, q1, fun s hs => Ev.succ ?_⟩
            simp only [laws_szInt64SSS.l0, if_pos (ilt hi'), if_pos (i0 i), up1 i (by omega)]
            exact Ev.bind hr (by simp only [if_neg hn]; exact hs)) (a - (l.length : Int)) (by omega) (by omega)
    refine ⟨r, by simp only [if_neg h]; exact hr, ?_⟩
    rcases hr2 with h2 | ⟨q0, q1, q2⟩
    · exact .inl h2
    · exact .inr ⟨q0, by omega, ⟨by omega, q2⟩⟩
theorem laws_szChecker_ev (a b : Int) (l2 : List Bool) (l3 : List (List S101)) (l4 : List (List (List Int))) (l5 : List (List Int)) (c : Int) (h0 : 0 ≤ c) (h1 : c ≤ 1048576)
    (h2 : l2.length ≤ 9223372036854775807) (h3 : l3.length ≤ 9223372036854775807 ∧ ∀ x ∈ l3, x.length ≤ 9223372036854775807)
    (h4 : l4.length ≤ 9223372036854775807 ∧ ∀ x ∈ l4, (x.length ≤ 9223372036854775807 ∧ ∀ y ∈ x, y.length ≤ 9223372036854775807)) (h5 : l5.length ≤ 9223372036854775807 ∧ ∀ x ∈ l5, x.length ≤ 9223372036854775807) :
    ∃ r, Ev (fun k => laws_szChecker.f k a b l2 l3 l4 l5 c) r ∧ (r < 0 ∨ (0 ≤ r ∧ r ≤ c ∧ sm0 l2 ∧ sm1 l3 ∧ sm2 l4 ∧ sm1 l5)) := by
  unfold laws_szChecker.f
  obtain ⟨r2, e2, q2⟩ := laws_szBoolS_ev l2 c h0 h1 h2
  by_cases n2 : r2 < 0
  · exact ⟨-1, Ev.bind ⟨0, fun _ _ => e2⟩ (by simp only [if_pos n2]; exact Ev.now _), .inl (by omega)⟩
  obtain ⟨r3, e3, q3⟩ := laws_szPushSS_ev l3 r2 (by omega) (by omega) h3.1 h3.2
  by_cases n3 : r3 < 0
  · exact ⟨-1, Ev.bind ⟨0, fun _ _ => e2⟩ (by simp only [if_neg n2]; exact Ev.bind e3 (by simp only [if_pos n3]; exact Ev.now _)), .inl (by omega)⟩
  obtain ⟨r4, e4, q4⟩ := laws_szInt64SSS_ev l4 r3 (by omega) (by omega) h4.1 h4.2
  by_cases n4 : r4 < 0
  · exact ⟨-1, Ev.bind ⟨0, fun _ _ => e2⟩ (by simp only [if_neg n2]; exact Ev.bind e3 (by simp only [if_neg n3]; exact Ev.bind e4 (by simp only [if_pos n4]; exact Ev.now _))), .inl (by omega)⟩
  obtain ⟨r5, e5, q5⟩ := laws_szInt64SS_ev l5 r4 (by omega) (by omega) h5.1 h5.2
  by_cases n5 : r5 < 0
  · exact ⟨-1, Ev.bind ⟨0, fun _ _ => e2⟩ (by simp only [if_neg n2]; exact Ev.bind e3 (by simp only [if_neg n3]; exact Ev.bind e4 (by simp only [if_neg n4]; exact Ev.bind e5 (by simp only [if_pos n5]; exact Ev.now _)))), .inl (by omega)⟩
  · refine ⟨r5, Ev.bind ⟨0, fun _ _ => e2⟩ (by simp only [if_neg n2]; exact Ev.bind e3 (by simp only [if_neg n3]; exact Ev.bind e4 (by simp only [if_neg n4]; exact Ev.bind e5 (by simp only [if_neg n5]; exact Ev.now _)))), .inr ?_⟩
    rcases q2 with q2 | q2
    · omega
    rcases q3 with q3 | q3
    · omega
    rcases q4 with q4 | q4
    · omega
    rcases q5 with q5 | q5
    · omega
    exact ⟨by omega, by omega, q2.2.2, q3.2.2, q4.2.2, q5.2.2⟩
end Go.Proofs.Ytepkfigcnnfoaaa.Br
namespace Go.Proofs.Ytepkfigcnnfoaaa.Br
open Go.RowKit Go.Proofs.Ytepkfigcnnfoaaa.P Go.Proofs.YtepkfigcnnfoaaaW.PrintWords Go.Proofs.YtepkfigcnnfoaaaW.PrintLast Go.Proofs.YtepkfigcnnfoaaaW.PrintMore Go.Proofs.Ytepkfigcnnfoaaa.Th
set_option linter.unusedVariables false
set_option linter.unusedSimpArgs false
theorem in_eq (a lo hi : Int) : spec_l00In.f a lo hi = some (decide (lo ≤ a ∧ a ≤ hi)) := by
  unfold spec_l00In.f
  by_cases h : a ≥ lo
  · rw [if_pos h]; congr 1; simp; omega
  · rw [if_neg h]; congr 1; simp; omega
theorem within_eq (a lo hi : Int) : impl_within.f a lo hi = some (decide (lo ≤ a ∧ a ≤ hi)) := by
  unfold impl_within.f
  by_cases h : a ≥ lo
  · rw [if_pos h]; congr 1; simp; omega
  · rw [if_neg h]; congr 1; simp; omega

end Go.Proofs.Ytepkfigcnnfoaaa.Br
namespace Go.Proofs.Ytepkfigcnnfoaaa.Br
open Go.RowKit Go.Proofs.Ytepkfigcnnfoaaa.P Go.Proofs.YtepkfigcnnfoaaaW.PrintWords Go.Proofs.YtepkfigcnnfoaaaW.PrintLast Go.Proofs.YtepkfigcnnfoaaaW.PrintMore Go.Proofs.Ytepkfigcnnfoaaa.Th
set_option linter.unusedVariables false
set_option linter.unusedSimpArgs false
set_option linter.unusedSectionVars false
def inR (n x : Int) : Bool := decide (0 ≤ x ∧ x ≤ n - 1)
def lst (n len : Int) (l : List Int) : Bool := decide ((l.length : Int) = len) && allN l.length (fun i => inR n (l.getD i 0))
theorem rd_getD (l : List Int) (i : Nat) : rd l i = l.getD i 0 := by unfold rd; rw [Int.toNat_natCast]
theorem specList_ev (l : List Int) (len n : Int) (hl : l.length ≤ 1048576) (h0 : -1000000 ≤ n) (h1 : n ≤ 1000000) : Ev (fun k => spec_l02List.f k l len n) (lst n len l) := by
  have f1 : wrap64 (n - 1) = n - 1 := w64 (by omega) (by omega)
  unfold spec_l02List.f lst
  by_cases h : (l.length : Int) = len
  · rw [decide_eq_true h, Bool.true_and]
    simp only [if_pos h]
    refine allLoop l.length (fun i k => spec_l02List.l0 k l n (i : Int)) _ ?_ ?_
    · refine Ev.succ ?_
      simp only [spec_l02List.l0, if_neg inlt]
      exact Ev.now _
    · intro i hi r hr
      refine Ev.succ ?_
      simp only [spec_l02List.l0, if_pos (ilt hi), if_pos (i0 i), in_eq, Option.bind_some, f1, rd_getD, up1 i (by clear f1; omega)]
      exact iteEv hr
  · rw [decide_eq_false h, Bool.false_and]
    simp only [if_neg h]
    exact Ev.now _
theorem isState_eq (a b : Int) (l2 : List Bool) (l3 : List (List S47)) (l4 : List (List (List Int))) (l5 : List (List Int)) (x : Int) (h : l2.length ≤ 1048576) : impl_Checker_isState.f a b l2 l3 l4 l5 x = some (inR (l2.length : Int) x) := by
  have f1 : wrap64 ((l2.length : Int) - 1) = (l2.length : Int) - 1 := w64 (by omega) (by omega)
  unfold impl_Checker_isState.f impl_size_bool.f
  simp only [Option.bind_some, within_eq, f1]
  rfl
theorem isMark_eq (a b : Int) (l2 : List Bool) (l3 : List (List S47)) (l4 : List (List (List Int))) (l5 : List (List Int)) (x : Int) (h0 : -1000000 ≤ a) (h1 : a ≤ 1000000) : impl_Checker_isMark.f a b l2 l3 l4 l5 x = some (inR a x) := by
  have f1 : wrap64 (a - 1) = a - 1 := w64 (by omega) (by omega)
  unfold impl_Checker_isMark.f
  simp only [Option.bind_some, within_eq, f1]
  rfl
theorem implList_ev (a b : Int) (l2 : List Bool) (l3 : List (List S47)) (l4 : List (List (List Int))) (l5 : List (List Int)) (l : List Int) (len : Int) (hl : l.length ≤ 1048576) (h : l2.length ≤ 1048576) : Ev (fun k => impl_ValidChecker_1_c.f k l len a b l2 l3 l4 l5) (lst (l2.length : Int) len l) := by
  have loop : ∀ i, i ≤ l.length → ∃ r : Int, Ev (fun k => slices_IndexFunc_Lint64_int64_at_impl_ValidChecker_1_1.l0 k l (l.length : Int) i a b l2 l3 l4 l5) r ∧ (allFromN l.length (fun i => inR (l2.length : Int) (l.getD i 0)) i = !(decide (r ≥ 0))) := by
    refine down l.length ?_ ?_
    · refine ⟨-1, Ev.succ ?_, by rw [allFromN_end]; rfl⟩
      simp only [slices_IndexFunc_Lint64_int64_at_impl_ValidChecker_1_1.l0, if_neg inlt]
      exact Ev.now _
    · intro i hi ih
      obtain ⟨r, hr, he⟩ := ih
      cases e : inR (l2.length : Int) (l.getD i 0)
      · refine ⟨(i : Int), Ev.succ ?_, ?_⟩
        · simp only [slices_IndexFunc_Lint64_int64_at_impl_ValidChecker_1_1.l0, if_pos (ilt hi), if_pos (i0 i), impl_ValidChecker_1_1_c.f, isState_eq a b l2 l3 l4 l5 _ h, Option.bind_some, rd_getD, e, Bool.not_false, if_true]
          exact Ev.now _
        · rw [allFromN_step _ _ i hi, e, Bool.false_and]
          simp
      · refine ⟨r, Ev.succ ?_, ?_⟩
        · simp only [slices_IndexFunc_Lint64_int64_at_impl_ValidChecker_1_1.l0, if_pos (ilt hi), if_pos (i0 i), impl_ValidChecker_1_1_c.f, isState_eq a b l2 l3 l4 l5 _ h, Option.bind_some, rd_getD, e, Bool.not_true, Bool.false_eq_true, if_false, up1 i (by omega)]
          exact hr
        · rw [allFromN_step _ _ i hi, e, Bool.true_and, he]
  unfold impl_ValidChecker_1_c.f impl_size_int64.f lst
  simp only [Option.bind_some]
  by_cases hh : (l.length : Int) = len
  · rw [decide_eq_true hh, Bool.true_and, ← allFromN_zero]
    simp only [if_pos hh]
    obtain ⟨r, hr, he⟩ := loop 0 (by omega)
    rw [he]
    unfold slices_ContainsFunc_Lint64_int64_at_impl_ValidChecker_1_1.f slices_IndexFunc_Lint64_int64_at_impl_ValidChecker_1_1.f
    exact Ev.bind (Ev.bind hr (Ev.now _)) (Ev.now _)
  · rw [decide_eq_false hh, Bool.false_and]
    simp only [if_neg hh]
    exact Ev.now _
def rowC (a b : Int) (l2 : List Bool) (l3 : List (List S47)) (l4 : List (List (List Int))) (l5 : List (List Int)) (i q : Nat) : Bool := inR (l2.length : Int) ((l3.getD i []).getD q z47).f0 && (inR a ((l3.getD i []).getD q z47).f1 && lst (l2.length : Int) (a + 1) ((l4.getD i []).getD q []))
def stC (a b : Int) (l2 : List Bool) (l3 : List (List S47)) (l4 : List (List (List Int))) (l5 : List (List Int)) (i : Nat) : Bool := decide ((l3.getD i []).length = 2) && (decide ((l4.getD i []).length = 2) && (lst (l2.length : Int) 2 (l5.getD i []) && (rowC a b l2 l3 l4 l5 i 0 && rowC a b l2 l3 l4 l5 i 1)))
def okC (a b : Int) (l2 : List Bool) (l3 : List (List S47)) (l4 : List (List (List Int))) (l5 : List (List Int)) : Bool := decide (1 ≤ (l2.length : Int) ∧ (l2.length : Int) ≤ 40) && (decide (1 ≤ a ∧ a ≤ 80) && (inR (l2.length : Int) b && (decide (l3.length = l2.length) && (decide (l4.length = l2.length) && (decide (l5.length = l2.length) && allN l2.length (stC a b l2 l3 l4 l5))))))
section
variable (a b : Int) (l2 : List Bool) (l3 : List (List S47)) (l4 : List (List (List Int))) (l5 : List (List Int)) (hn : l2.length ≤ 40) (ha0 : 1 ≤ a) (ha1 : a ≤ 80) (h4 : sm2 l4) (h5 : sm1 l5) (e3 : l3.length = l2.length) (e4 : l4.length = l2.length) (e5 : l5.length = l2.length)
include hn ha0 ha1 h4 h5 e3 e4 e5
theorem specRow_ev (i q : Nat) (hi : i < l2.length) (hq : q < 2) (g3 : (l3.getD i []).length = 2) (g4 : (l4.getD i []).length = 2) (R : Bool) (hR : Ev (fun k => spec_l02Ok.l1 k (l2.length : Int) i ((q + 1 : Nat) : Int) a b l2 l3 l4 l5) R) :
    Ev (fun k => spec_l02Ok.l1 k (l2.length : Int) i q a b l2 l3 l4 l5) (rowC a b l2 l3 l4 l5 i q && R) := by
  have r3 : rd_L3 l3 (i : Int) = l3.getD i [] := by unfold rd_L3; rw [Int.toNat_natCast]
  have r4 : rd_L5 l4 (i : Int) = l4.getD i [] := by unfold rd_L5; rw [Int.toNat_natCast]
  have r5 : ∀ l : List (List Int), rd_L4 l (q : Int) = l.getD q [] := fun l => by unfold rd_L4; rw [Int.toNat_natCast]
  have r6 : ∀ l : List S47, rd_T47 l (q : Int) = l.getD q z47 := fun l => by unfold rd_T47; rw [Int.toNat_natCast]
  have hsm : ((l4.getD i []).getD q []).length ≤ 1048576 := (h4.2 _ (getD_mem l4 i [] (by omega))).2 _ (getD_mem _ q _ (by omega))
  have c1 : (q : Int) < 2 := by omega
  have c2 : (i : Int) < (l3.length : Int) := by omega
  have c3 : (q : Int) < ((l3.getD i []).length : Int) := by omega
  have c4 : (i : Int) < (l4.length : Int) := by omega
  have c5 : (q : Int) < ((l4.getD i []).length : Int) := by omega
  have hl := specList_ev ((l4.getD i []).getD q []) (a + 1) (l2.length : Int) hsm (by omega) (by omega)
  have u1 := up1 q (by omega)
  have f1 : wrap64 ((l2.length : Int) - 1) = (l2.length : Int) - 1 := by clear u1; exact w64 (by omega) (by omega)
  have f2 : wrap64 (a - 1) = a - 1 := by clear u1 f1; exact w64 (by omega) (by omega)
  have f3 : wrap64 (a + 1) = a + 1 := by clear u1 f1 f2; exact w64 (by omega) (by omega)
  have no : Ev (fun k => spec_l02Ok.j4 k (l2.length : Int) i q true a b l2 l3 l4 l5) false := by
    refine Ev.succ ?_
    simp only [spec_l02Ok.j4, if_true]
    exact Ev.now _
  refine Ev.succ ?_
  simp only [spec_l02Ok.l1, if_pos c1, if_pos (i0 i), if_pos c2, if_pos (i0 q), r3, r4, r5, r6, if_pos c3, in_eq, Option.bind_some, f1, f2, f3, if_pos c4, if_pos c5]
  unfold rowC inR
  by_cases q1 : 0 ≤ ((l3.getD i []).getD q z47).f0 ∧ ((l3.getD i []).getD q z47).f0 ≤ (l2.length : Int) - 1
  · rw [decide_eq_true q1, Bool.true_and]
    simp only [if_true]
    by_cases q2 : 0 ≤ ((l3.getD i []).getD q z47).f1 ∧ ((l3.getD i []).getD q z47).f1 ≤ a - 1
    · rw [decide_eq_true q2, Bool.true_and]
      simp only [if_true]
      refine Ev.bind hl ?_
      cases lst (l2.length : Int) (a + 1) ((l4.getD i []).getD q [])
      · exact no
      · refine Ev.succ ?_
        simp only [spec_l02Ok.j4, Bool.not_true, Bool.false_eq_true, if_false, u1, Bool.true_and]
        exact hR
    · rw [decide_eq_false q2, Bool.false_and, Bool.false_and]
      simp only [Bool.false_eq_true, if_false]
      exact no
  · rw [decide_eq_false q1, Bool.false_and, Bool.false_and]
    simp only [Bool.false_eq_true, if_false]
    exact no
theorem implRow_ev (i q : Nat) (hi : i < l2.length) (hq : q < 2) (g3 : (l3.getD i []).length = 2) (g4 : (l4.getD i []).length = 2) (R : Bool) (hR : Ev (fun k => impl_ValidChecker.l1 k i (l2.length : Int) i ((q + 1 : Nat) : Int) a b l2 l3 l4 l5) R) :
    Ev (fun k => impl_ValidChecker.l1 k i (l2.length : Int) i q a b l2 l3 l4 l5) (rowC a b l2 l3 l4 l5 i q && R) := by
  have r3 : rd_L3 l3 (i : Int) = l3.getD i [] := by unfold rd_L3; rw [Int.toNat_natCast]
  have r4 : rd_L5 l4 (i : Int) = l4.getD i [] := by unfold rd_L5; rw [Int.toNat_natCast]
  have r5 : ∀ l : List (List Int), rd_L4 l (q : Int) = l.getD q [] := fun l => by unfold rd_L4; rw [Int.toNat_natCast]
  have r6 : ∀ l : List S47, rd_T47 l (q : Int) = l.getD q z47 := fun l => by unfold rd_T47; rw [Int.toNat_natCast]
  have hsm : ((l4.getD i []).getD q []).length ≤ 1048576 := (h4.2 _ (getD_mem l4 i [] (by omega))).2 _ (getD_mem _ q _ (by omega))
  have c1 : (q : Int) < 2 := by omega
  have c2 : (i : Int) < (l3.length : Int) := by omega
  have c3 : (q : Int) < ((l3.getD i []).length : Int) := by omega
  have c4 : (i : Int) < (l4.length : Int) := by omega
  have c5 : (q : Int) < ((l4.getD i []).length : Int) := by omega
  have hb : l2.length ≤ 1048576 := by omega
  have hb0 : -1000000 ≤ a := by omega
  have hb1 : a ≤ 1000000 := by omega
  have hl := implList_ev a b l2 l3 l4 l5 ((l4.getD i []).getD q []) (a + 1) hsm hb
  have u1 := up1 q (by omega)
  have f3 : wrap64 (a + 1) = a + 1 := by clear u1; exact w64 (by omega) (by omega)
  refine Ev.succ ?_
  simp only [impl_ValidChecker.l1, if_pos c1, if_pos (i0 i), if_pos c2, if_pos (i0 q), r3, r4, r5, r6, if_pos c3, isState_eq a b l2 l3 l4 l5 _ hb, isMark_eq a b l2 l3 l4 l5 _ hb0 hb1, Option.bind_some, f3, if_pos c4, if_pos c5, u1]
  unfold rowC
  cases inR (l2.length : Int) ((l3.getD i []).getD q z47).f0
  · simp only [Bool.false_eq_true, if_false, Bool.false_and]
    exact Ev.now _
  · simp only [if_true, Bool.true_and]
    cases inR a ((l3.getD i []).getD q z47).f1
    · simp only [Bool.false_eq_true, if_false, Bool.false_and]
      exact Ev.now _
    · simp only [if_true, Bool.true_and]
      exact andEv hl hR
theorem specOk_l0 : ∀ i, i ≤ l2.length → Ev (fun k => spec_l02Ok.l0 k (l2.length : Int) i a b l2 l3 l4 l5) (allFromN l2.length (stC a b l2 l3 l4 l5) i) := by
  refine down l2.length ?_ ?_
  · refine Ev.succ ?_
    rw [allFromN_end]
    simp only [spec_l02Ok.l0, if_neg inlt]
    exact Ev.now _
  · intro i hi ih
    have r3 : rd_L3 l3 (i : Int) = l3.getD i [] := by unfold rd_L3; rw [Int.toNat_natCast]
    have r4 : rd_L5 l4 (i : Int) = l4.getD i [] := by unfold rd_L5; rw [Int.toNat_natCast]
    have r5 : rd_L4 l5 (i : Int) = l5.getD i [] := by unfold rd_L4; rw [Int.toNat_natCast]
    have c1 : (i : Int) < (l3.length : Int) := by omega
    have c2 : (i : Int) < (l4.length : Int) := by omega
    have c3 : (i : Int) < (l5.length : Int) := by omega
    have hsm : (l5.getD i []).length ≤ 1048576 := h5.2 _ (getD_mem l5 i [] (by omega))
    have hl := specList_ev (l5.getD i []) 2 (l2.length : Int) hsm (by omega) (by omega)
    have no : Ev (fun k => spec_l02Ok.j2 k (l2.length : Int) i true a b l2 l3 l4 l5) false := by
      refine Ev.succ ?_
      simp only [spec_l02Ok.j2, if_true]
      exact Ev.now _
    rw [allFromN_step _ _ i hi]
    unfold stC
    refine Ev.succ ?_
    simp only [spec_l02Ok.l0, if_pos (ilt hi), if_pos (i0 i), if_pos c1, if_pos c2, if_pos c3, r3, r4, r5]
    by_cases g3 : (l3.getD i []).length = 2
    · rw [decide_eq_true g3, Bool.true_and]
      simp only [if_pos (show ((l3.getD i []).length : Int) = 2 by omega)]
      by_cases g4 : (l4.getD i []).length = 2
      · rw [decide_eq_true g4, Bool.true_and]
        simp only [if_pos (show ((l4.getD i []).length : Int) = 2 by omega)]
        refine Ev.bind hl ?_
        cases lst (l2.length : Int) 2 (l5.getD i [])
        · exact no
        · refine Ev.succ ?_
          simp only [spec_l02Ok.j2, Bool.not_true, Bool.false_eq_true, if_false, Bool.true_and]
          rw [Bool.and_assoc]
          refine specRow_ev a b l2 l3 l4 l5 hn ha0 ha1 h4 h5 e3 e4 e5 i 0 hi (by decide) g3 g4 _ (specRow_ev a b l2 l3 l4 l5 hn ha0 ha1 h4 h5 e3 e4 e5 i 1 hi (by decide) g3 g4 _ ?_)
          refine Ev.succ ?_
          simp only [spec_l02Ok.l1, show ¬ (((1 + 1 : Nat) : Int) < 2) by decide, if_false, up1 i (by omega)]
          exact ih
      · rw [decide_eq_false g4, Bool.false_and, Bool.false_and]
        simp only [if_neg (show ¬ ((l4.getD i []).length : Int) = 2 by omega)]
        exact no
    · rw [decide_eq_false g3, Bool.false_and, Bool.false_and]
      simp only [if_neg (show ¬ ((l3.getD i []).length : Int) = 2 by omega)]
      exact no
theorem implOk_l0 : ∀ i, i ≤ l2.length → Ev (fun k => impl_ValidChecker.l0 k (l2.length : Int) i a b l2 l3 l4 l5) (allFromN l2.length (stC a b l2 l3 l4 l5) i) := by
  refine down l2.length ?_ ?_
  · refine Ev.succ ?_
    rw [allFromN_end]
    simp only [impl_ValidChecker.l0, if_neg inlt]
    exact Ev.now _
  · intro i hi ih
    have r3 : rd_L3 l3 (i : Int) = l3.getD i [] := by unfold rd_L3; rw [Int.toNat_natCast]
    have r4 : rd_L5 l4 (i : Int) = l4.getD i [] := by unfold rd_L5; rw [Int.toNat_natCast]
    have r5 : rd_L4 l5 (i : Int) = l5.getD i [] := by unfold rd_L4; rw [Int.toNat_natCast]
    have c1 : (i : Int) < (l3.length : Int) := by omega
    have c2 : (i : Int) < (l4.length : Int) := by omega
    have c3 : (i : Int) < (l5.length : Int) := by omega
    have hsm : (l5.getD i []).length ≤ 1048576 := h5.2 _ (getD_mem l5 i [] (by omega))
    have hl := implList_ev a b l2 l3 l4 l5 (l5.getD i []) 2 hsm (by omega)
    have no : Ev (fun k => impl_ValidChecker.j2 k i (l2.length : Int) i true a b l2 l3 l4 l5) false := by
      refine Ev.succ ?_
      simp only [impl_ValidChecker.j2, if_true]
      exact Ev.now _
    rw [allFromN_step _ _ i hi]
    unfold stC
    refine Ev.succ ?_
    simp only [impl_ValidChecker.l0, if_pos (ilt hi), if_pos (i0 i), if_pos c1, if_pos c2, if_pos c3, r3, r4, r5]
    by_cases g3 : (l3.getD i []).length = 2
    · rw [decide_eq_true g3, Bool.true_and]
      simp only [if_pos (show ((l3.getD i []).length : Int) = 2 by omega)]
      by_cases g4 : (l4.getD i []).length = 2
      · rw [decide_eq_true g4, Bool.true_and]
        simp only [if_pos (show ((l4.getD i []).length : Int) = 2 by omega)]
        refine Ev.bind hl ?_
        cases lst (l2.length : Int) 2 (l5.getD i [])
        · exact no
        · refine Ev.succ ?_
          simp only [impl_ValidChecker.j2, Bool.not_true, Bool.false_eq_true, if_false, Bool.true_and]
          rw [Bool.and_assoc]
          refine implRow_ev a b l2 l3 l4 l5 hn ha0 ha1 h4 h5 e3 e4 e5 i 0 hi (by decide) g3 g4 _ (implRow_ev a b l2 l3 l4 l5 hn ha0 ha1 h4 h5 e3 e4 e5 i 1 hi (by decide) g3 g4 _ ?_)
          refine Ev.succ ?_
          simp only [impl_ValidChecker.l1, show ¬ (((1 + 1 : Nat) : Int) < 2) by decide, if_false, up1 i (by omega)]
          exact ih
      · rw [decide_eq_false g4, Bool.false_and, Bool.false_and]
        simp only [if_neg (show ¬ ((l4.getD i []).length : Int) = 2 by omega)]
        exact no
    · rw [decide_eq_false g3, Bool.false_and, Bool.false_and]
      simp only [if_neg (show ¬ ((l3.getD i []).length : Int) = 2 by omega)]
      exact no
end
theorem specOkC_ev (a b : Int) (l2 : List Bool) (l3 : List (List S47)) (l4 : List (List (List Int))) (l5 : List (List Int)) (h4 : sm2 l4) (h5 : sm1 l5) : Ev (fun k => spec_l02Ok.f k a b l2 l3 l4 l5) (okC a b l2 l3 l4 l5) := by
  have no : Ev (fun k => spec_l02Ok.j0 k (l2.length : Int) true a b l2 l3 l4 l5) false := by
    refine Ev.succ ?_
    simp only [spec_l02Ok.j0, if_true]
    exact Ev.now _
  unfold spec_l02Ok.f okC
  simp only [in_eq, Option.bind_some]
  by_cases c1 : 1 ≤ (l2.length : Int) ∧ (l2.length : Int) ≤ 40
  · have f1 : wrap64 ((l2.length : Int) - 1) = (l2.length : Int) - 1 := w64 (by omega) (by omega)
    rw [decide_eq_true c1, Bool.true_and]
    simp only [if_true, f1]
    clear f1
    by_cases c2 : 1 ≤ a ∧ a ≤ 80
    · rw [decide_eq_true c2, Bool.true_and]
      simp only [if_true]
      unfold inR
      by_cases c3 : 0 ≤ b ∧ b ≤ (l2.length : Int) - 1
      · rw [decide_eq_true c3, Bool.true_and]
        simp only [if_true]
        by_cases e3 : l3.length = l2.length
        · rw [decide_eq_true e3, Bool.true_and]
          simp only [if_pos (show (l3.length : Int) = (l2.length : Int) by omega)]
          by_cases e4 : l4.length = l2.length
          · rw [decide_eq_true e4, Bool.true_and]
            simp only [if_pos (show (l4.length : Int) = (l2.length : Int) by omega)]
            by_cases e5 : l5.length = l2.length
            · rw [decide_eq_true e5, Bool.true_and, ← allFromN_zero]
              rw [show ((l5.length : Int) != (l2.length : Int)) = false by simp; omega]
              refine Ev.succ ?_
              simp only [spec_l02Ok.j0, Bool.false_eq_true, if_false]
              exact specOk_l0 a b l2 l3 l4 l5 (by omega) c2.1 c2.2 h4 h5 e3 e4 e5 0 (by omega)
            · rw [decide_eq_false e5, Bool.false_and]
              rw [show ((l5.length : Int) != (l2.length : Int)) = true by simp; omega]
              exact no
          · rw [decide_eq_false e4, Bool.false_and]
            simp only [if_neg (show ¬ (l4.length : Int) = (l2.length : Int) by omega)]
            exact no
        · rw [decide_eq_false e3, Bool.false_and]
          simp only [if_neg (show ¬ (l3.length : Int) = (l2.length : Int) by omega)]
          exact no
      · rw [decide_eq_false c3, Bool.false_and]
        simp only [Bool.false_eq_true, if_false]
        exact no
    · rw [decide_eq_false c2, Bool.false_and]
      simp only [Bool.false_eq_true, if_false]
      exact no
  · rw [decide_eq_false c1, Bool.false_and]
    simp only [Bool.false_eq_true, if_false]
    exact no
theorem implOkC_ev (a b : Int) (l2 : List Bool) (l3 : List (List S47)) (l4 : List (List (List Int))) (l5 : List (List Int)) (h2 : sm0 l2) (h4 : sm2 l4) (h5 : sm1 l5) : Ev (fun k => impl_ValidChecker.f k a b l2 l3 l4 l5) (okC a b l2 l3 l4 l5) := by
  have no : Ev (fun k => impl_ValidChecker.j0 k (l2.length : Int) true a b l2 l3 l4 l5) false := by
    refine Ev.succ ?_
    simp only [impl_ValidChecker.j0, if_true]
    exact Ev.now _
  have hb : l2.length ≤ 1048576 := h2
  unfold impl_ValidChecker.f okC impl_size_bool.f impl_size_Limpl_Push.f impl_size_LLint64.f impl_size_Lint64.f
  simp only [within_eq, Option.bind_some, isState_eq a b l2 l3 l4 l5 _ hb]
  by_cases c1 : 1 ≤ (l2.length : Int) ∧ (l2.length : Int) ≤ 40
  · rw [decide_eq_true c1, Bool.true_and]
    simp only [if_true]
    by_cases c2 : 1 ≤ a ∧ a ≤ 80
    · rw [decide_eq_true c2, Bool.true_and]
      simp only [if_true]
      cases inR (l2.length : Int) b
      · rw [Bool.false_and]
        simp only [Bool.false_eq_true, if_false]
        exact no
      · rw [Bool.true_and]
        simp only [if_true]
        by_cases e3 : l3.length = l2.length
        · rw [decide_eq_true e3, Bool.true_and]
          simp only [if_pos (show (l3.length : Int) = (l2.length : Int) by omega)]
          by_cases e4 : l4.length = l2.length
          · rw [decide_eq_true e4, Bool.true_and]
            simp only [if_pos (show (l4.length : Int) = (l2.length : Int) by omega)]
            by_cases e5 : l5.length = l2.length
            · rw [decide_eq_true e5, Bool.true_and, ← allFromN_zero]
              rw [show ((l5.length : Int) != (l2.length : Int)) = false by simp; omega]
              refine Ev.succ ?_
              simp only [impl_ValidChecker.j0, Bool.false_eq_true, if_false]
              exact implOk_l0 a b l2 l3 l4 l5 (by omega) c2.1 c2.2 h4 h5 e3 e4 e5 0 (by omega)
            · rw [decide_eq_false e5, Bool.false_and]
              rw [show ((l5.length : Int) != (l2.length : Int)) = true by simp; omega]
              exact no
          · rw [decide_eq_false e4, Bool.false_and]
            simp only [if_neg (show ¬ (l4.length : Int) = (l2.length : Int) by omega)]
            exact no
        · rw [decide_eq_false e3, Bool.false_and]
          simp only [if_neg (show ¬ (l3.length : Int) = (l2.length : Int) by omega)]
          exact no
    · rw [decide_eq_false c2, Bool.false_and]
      simp only [Bool.false_eq_true, if_false]
      exact no
  · rw [decide_eq_false c1, Bool.false_and]
    simp only [Bool.false_eq_true, if_false]
    exact no
end Go.Proofs.Ytepkfigcnnfoaaa.Br
namespace Go.Proofs.Ytepkfigcnnfoaaa.Pure
open Go.RowKit Go.Proofs.Ytepkfigcnnfoaaa.P Go.Proofs.YtepkfigcnnfoaaaW.PrintWords Go.Proofs.YtepkfigcnnfoaaaW.PrintLast Go.Proofs.YtepkfigcnnfoaaaW.PrintMore Go.Proofs.Ytepkfigcnnfoaaa.Br Go.Proofs.Ytepkfigcnnfoaaa.Th
set_option linter.unusedVariables false
set_option linter.unusedSimpArgs false

theorem sm1_map {α β : Type} (f : α → β) (l : List (List α)) (h : sm1 l) : sm1 (l.map (List.map f)) := by
  refine ⟨by simpa using h.1, fun x hx => ?_⟩
  obtain ⟨y, hy, rfl⟩ := List.mem_map.1 hx
  have := h.2 y hy
  unfold sm0 at this ⊢
  simpa using this
theorem take_snoc {α : Type} (l : List α) (i : Nat) (d : α) (h : i < l.length) : l.take i ++ [l.getD i d] = l.take (i + 1) := by
  rw [List.take_succ_eq_append_getElem h, List.getD_eq_getElem?_getD, List.getElem?_eq_getElem h]; rfl
theorem own_f (l : List Int) (h : sm0 l) : spec_l00Own.f l = some l := by
  have : l.length ≤ 1048576 := h
  unfold spec_l00Own.f
  simp only [Option.bind_some, List.length_nil, Nat.zero_add, List.nil_append]
  rw [if_pos (by omega)]
section
variable (a b : Int) (l2 : List Bool) (l3 : List (List S47)) (l4 : List (List (List Int))) (l5 : List (List Int)) (h2 : sm0 l2) (h3 : sm1 l3) (h4 : sm2 l4) (h5 : sm1 l5)
theorem copy3 (h5 : sm1 l5) (m s : Int) (o2 : List Bool) (o3 : List (List S47)) (o4 : List (List (List Int))) : ∀ i, i ≤ l5.length → Ev (fun k => spec_l02Copy.l3 k i a b l2 l3 l4 l5 m s o2 o3 o4 (l5.take i)) (m, s, o2, o3, o4, l5) := by
  have hl : l5.length ≤ 1048576 := h5.1
  refine down l5.length ?_ ?_
  · refine Ev.succ ?_
    simp only [spec_l02Copy.l3, if_neg inlt, List.take_length]
    exact Ev.now _
  · intro i hi h
    refine Ev.succ ?_
    have e : rd_L4 l5 (i : Int) = l5.getD i [] := by unfold rd_L4; rw [Int.toNat_natCast]
    simp only [spec_l02Copy.l3, if_pos (ilt hi), if_pos (i0 i), e, own_f _ (h5.2 _ (getD_mem l5 i [] hi)), Option.bind_some, if_pos (show (l5.take i).length < 5864062014805 by rw [List.length_take]; omega), up1 i (by omega), take_snoc l5 i [] hi]
    exact h
theorem copy2 (h4 : sm2 l4) (i : Nat) (hi : i < l4.length) (m s : Int) (o2 : List Bool) (o3 : List (List S47)) (R : Int × Int × List Bool × (List (List S47)) × (List (List (List Int))) × (List (List Int)))
    (hR : Ev (fun k => spec_l02Copy.l1 k ((i + 1 : Nat) : Int) a b l2 l3 l4 l5 m s o2 o3 (l4.take (i + 1))) R) : ∀ q, q ≤ (l4.getD i []).length → Ev (fun k => spec_l02Copy.l2 k i ((l4.getD i []).take q) q a b l2 l3 l4 l5 m s o2 o3 (l4.take i)) R := by
  have hl : l4.length ≤ 1048576 := h4.1
  have hx := h4.2 _ (getD_mem l4 i [] hi)
  have hxl : (l4.getD i []).length ≤ 1048576 := hx.1
  have e : rd_L5 l4 (i : Int) = l4.getD i [] := by unfold rd_L5; rw [Int.toNat_natCast]
  refine down (l4.getD i []).length ?_ ?_
  · refine Ev.succ ?_
    simp only [spec_l02Copy.l2, if_pos (i0 i), if_pos (ilt hi), e, if_neg inlt, if_pos (show (l4.take i).length < 5864062014805 by rw [List.length_take]; omega), up1 i (by omega), List.take_length, take_snoc l4 i [] hi]
    exact hR
  · intro q hq h
    refine Ev.succ ?_
    have e2 : rd_L4 (l4.getD i []) (q : Int) = (l4.getD i []).getD q [] := by unfold rd_L4; rw [Int.toNat_natCast]
    simp only [spec_l02Copy.l2, if_pos (i0 i), if_pos (ilt hi), e, if_pos (ilt hq), if_pos (i0 q), e2, own_f _ (hx.2 _ (getD_mem _ q [] hq)), Option.bind_some, if_pos (show ((l4.getD i []).take q).length < 5864062014805 by rw [List.length_take]; omega), up1 q (by omega), take_snoc _ q [] hq]
    exact h
theorem copy1 (h4 : sm2 l4) (h5 : sm1 l5) (m s : Int) (o2 : List Bool) (o3 : List (List S47)) : ∀ i, i ≤ l4.length → Ev (fun k => spec_l02Copy.l1 k i a b l2 l3 l4 l5 m s o2 o3 (l4.take i)) (m, s, o2, o3, l4, l5) := by
  refine down l4.length ?_ ?_
  · refine Ev.succ ?_
    simp only [spec_l02Copy.l1, if_neg inlt, List.take_length]
    have := copy3 a b l2 l3 l4 l5 h5 m s o2 o3 l4 0 (Nat.zero_le _)
    simpa using this
  · intro i hi h
    refine Ev.succ ?_
    simp only [spec_l02Copy.l1, if_pos (ilt hi)]
    have := copy2 a b l2 l3 l4 l5 h4 i hi m s o2 o3 _ h 0 (Nat.zero_le _)
    simpa using this
theorem copy0 (h3 : sm1 l3) (h4 : sm2 l4) (h5 : sm1 l5) (m s : Int) (o2 : List Bool) : ∀ i, i ≤ l3.length → Ev (fun k => spec_l02Copy.l0 k i a b l2 l3 l4 l5 m s o2 (l3.take i)) (m, s, o2, l3, l4, l5) := by
  have hl : l3.length ≤ 1048576 := h3.1
  refine down l3.length ?_ ?_
  · refine Ev.succ ?_
    simp only [spec_l02Copy.l0, if_neg inlt, List.take_length]
    have := copy1 a b l2 l3 l4 l5 h4 h5 m s o2 l3 0 (Nat.zero_le _)
    simpa using this
  · intro i hi h
    refine Ev.succ ?_
    have hx : (l3.getD i []).length ≤ 1048576 := h3.2 _ (getD_mem l3 i [] hi)
    have e : rd_L3 l3 (i : Int) = l3.getD i [] := by unfold rd_L3; rw [Int.toNat_natCast]
    simp only [spec_l02Copy.l0, if_pos (ilt hi), e, Option.bind_some, if_pos (i0 i), List.length_nil, Nat.zero_add, List.nil_append, if_pos (show (l3.getD i []).length < 8796093022208 by omega), if_pos (show (l3.take i).length < 5864062014805 by rw [List.length_take]; omega), up1 i (by omega), take_snoc l3 i [] hi]
    exact h
theorem copy_ev (h2 : sm0 l2) (h3 : sm1 l3) (h4 : sm2 l4) (h5 : sm1 l5) : Ev (fun k => spec_l02Copy.f k a b l2 l3 l4 l5) (a, b, l2, l3, l4, l5) := by
  have hl : l2.length ≤ 1048576 := h2
  unfold spec_l02Copy.f
  simp only [Option.bind_some, List.length_nil, Nat.zero_add, List.nil_append, if_pos (show l2.length < 140737488355328 by omega)]
  have := copy0 a b l2 l3 l4 l5 h3 h4 h5 a b l2 0 (Nat.zero_le _)
  simpa using this
theorem flip_ev (h2 : sm0 l2) : ∀ i, i ≤ l2.length → Ev (fun k => spec_OppositeChecker.l0 k i a b ((l2.take i).map (!·) ++ l2.drop i) l3 l4 l5) (a, b, l2.map (!·), l3, l4, l5, 0) := by
  have hl : l2.length ≤ 1048576 := h2
  have hn : ∀ i, i ≤ l2.length → ((l2.take i).map (!·) ++ l2.drop i).length = l2.length := fun i hi => by simp; omega
  refine down l2.length ?_ ?_
  · refine Ev.succ ?_
    simp only [spec_OppositeChecker.l0, hn l2.length (Nat.le_refl _), if_neg inlt]
    exact Ev.done (by simp)
  · intro i hi h
    refine Ev.succ ?_
    have e : rdOf false ((l2.take i).map (!·) ++ l2.drop i) (i : Int) = l2[i] := by
      unfold rdOf
      rw [Int.toNat_natCast, List.getD_eq_getElem?_getD, List.getElem?_append_right (by rw [List.length_map, List.length_take]; omega), List.length_map, List.length_take, Nat.min_eq_left (by omega), Nat.sub_self, List.getElem?_drop, Nat.add_zero, List.getElem?_eq_getElem hi]; rfl
    have es : ((l2.take i).map (!·) ++ l2.drop i).set i (!l2[i]) = (l2.take (i + 1)).map (!·) ++ l2.drop (i + 1) := by
      rw [List.set_append_right _ _ (by rw [List.length_map, List.length_take]; omega), List.length_map, List.length_take, Nat.min_eq_left (by omega), Nat.sub_self, List.drop_eq_getElem_cons hi, sB, List.take_succ_eq_append_getElem hi, List.map_append, List.append_assoc]
      rfl
    simp only [spec_OppositeChecker.l0, hn i (by omega), if_pos (ilt hi), if_pos (i0 i), e, Int.toNat_natCast, es, up1 i (by omega)]
    exact h
theorem opp_ev (h2 : sm0 l2) (h3 : sm1 l3) (h4 : sm2 l4) (h5 : sm1 l5) : Ev (fun k => spec_OppositeChecker.f k a b l2 l3 l4 l5) (if Br.okC a b l2 l3 l4 l5 = true then (a, b, l2.map (!·), l3, l4, l5, 0) else (0, 0, [], [], [], [], 1)) := by
  unfold spec_OppositeChecker.f
  refine Ev.bind (specOkC_ev a b l2 l3 l4 l5 h4 h5) ?_
  by_cases h : Br.okC a b l2 l3 l4 l5 = true
  · simp only [if_pos h]
    refine Ev.bind (copy_ev a b l2 l3 l4 l5 h2 h3 h4 h5) ?_
    have := flip_ev a b l2 l3 l4 l5 h2 0 (Nat.zero_le _)
    simpa using this
  · simp only [if_neg h]
    exact Ev.now _
end
theorem facts (a b : Int) (l2 : List Bool) (l3 : List (List S101)) (l4 : List (List (List Int))) (l5 : List (List Int)) (h2 : sm0 l2) (h3 : sm1 l3) (h4 : sm2 l4) (h5 : sm1 l5) :
    ∃ K, laws_toBoolS.f K l2 = some l2 ∧ laws_toPushSS.f K l3 = some (l3.map (List.map cPush)) ∧ laws_toInt64SSS.f K l4 = some l4 ∧ laws_toInt64SS.f K l5 = some l5 ∧
      spec_OppositeChecker.f K a b l2 (l3.map (List.map cPush)) l4 l5 = some (if Br.okC a b l2 (l3.map (List.map cPush)) l4 l5 = true then (a, b, l2.map (!·), l3.map (List.map cPush), l4, l5, 0) else (0, 0, [], [], [], [], 1)) ∧
      impl_ValidChecker.f K a b l2 (l3.map (List.map cPush)) l4 l5 = some (Br.okC a b l2 (l3.map (List.map cPush)) l4 l5) ∧
      laws_eqChecker.f K a b l2 (l3.map (List.map cPush)) l4 l5 a b l2 (l3.map (List.map cPush)) l4 l5 = some true ∧
      laws_eqChecker.f K a b (l2.map (!·)) (l3.map (List.map cPush)) l4 l5 a b (l2.map (!·)) (l3.map (List.map cPush)) l4 l5 = some true ∧ laws_eqChecker.f K 0 0 [] [] [] [] 0 0 [] [] [] [] = some true := by
  have h3' := sm1_map cPush l3 h3
  obtain ⟨n0, e0⟩ := laws_toBoolS_ev l2 h2
  obtain ⟨n1, e1⟩ := laws_toPushSS_ev l3 h3
  obtain ⟨n2, e2⟩ := laws_toInt64SSS_ev l4 h4
  obtain ⟨n3, e3⟩ := laws_toInt64SS_ev l5 h5
  obtain ⟨n4, e4⟩ := opp_ev a b l2 _ l4 l5 h2 h3' h4 h5
  obtain ⟨n5, e5⟩ := implOkC_ev a b l2 _ l4 l5 h2 h4 h5
  obtain ⟨n6, e6⟩ := laws_eqChecker_ev a b l2 _ l4 l5 h2 h3' h4 h5
  obtain ⟨n7, e7⟩ := laws_eqChecker_ev a b (l2.map (!·)) _ l4 l5 (show (l2.map (!·)).length ≤ 1048576 by rw [List.length_map]; exact h2) h3' h4 h5
  obtain ⟨n8, e8⟩ := laws_eqChecker_ev 0 0 [] [] [] [] (show ([] : List Bool).length ≤ 1048576 by decide) ⟨by decide, fun _ h => by cases h⟩ ⟨by decide, fun _ h => by cases h⟩ ⟨by decide, fun _ h => by cases h⟩
  exact ⟨n0 + n1 + n2 + n3 + n4 + n5 + n6 + n7 + n8, e0 _ (by omega), e1 _ (by omega), e2 _ (by omega), e3 _ (by omega), e4 _ (by omega), e5 _ (by omega), e6 _ (by omega), e7 _ (by omega), e8 _ (by omega)⟩
theorem facts_sz (a b : Int) (l2 : List Bool) (l3 : List (List S101)) (l4 : List (List (List Int))) (l5 : List (List Int))
    (h2 : l2.length ≤ 9223372036854775807) (h3 : l3.length ≤ 9223372036854775807 ∧ ∀ x ∈ l3, x.length ≤ 9223372036854775807)
    (h4 : l4.length ≤ 9223372036854775807 ∧ ∀ x ∈ l4, (x.length ≤ 9223372036854775807 ∧ ∀ y ∈ x, y.length ≤ 9223372036854775807)) (h5 : l5.length ≤ 9223372036854775807 ∧ ∀ x ∈ l5, x.length ≤ 9223372036854775807) :
    ∃ r K, laws_szChecker.f K a b l2 l3 l4 l5 1048576 = some r ∧ (r < 0 ∨ (¬ r < 0 ∧ sm0 l2 ∧ sm1 l3 ∧ sm2 l4 ∧ sm1 l5)) := by
  obtain ⟨r, ⟨n, e⟩, h⟩ := laws_szChecker_ev a b l2 l3 l4 l5 1048576 (by omega) (by omega) h2 h3 h4 h5
  exact ⟨r, n, e n (Nat.le_refl _), h.imp_right (fun h => ⟨by omega, h.2.2⟩)⟩
/-- What a right checker's rows are like. -/
theorem shape (a b : Int) (l2 : List Bool) (l3 : List (List S47)) (l4 : List (List (List Int))) (l5 : List (List Int)) (h : Br.okC a b l2 l3 l4 l5 = true) :
    (l2.length ≤ 40 ∧ 1 ≤ a ∧ a ≤ 80) ∧ l3.length = l2.length ∧ (∀ x ∈ l3, x.length = 2) ∧ l4.length = l2.length ∧ (∀ x ∈ l4, x.length = 2 ∧ ∀ y ∈ x, (y.length : Int) = a + 1) ∧ l5.length = l2.length ∧ ∀ x ∈ l5, x.length = 2 := by
  unfold Br.okC at h
  simp only [Bool.and_eq_true, decide_eq_true_eq] at h
  obtain ⟨⟨_, hn⟩, ⟨ha0, ha1⟩, _, e3, e4, e5, hall⟩ := h
  have hst : ∀ i, i < l2.length → stC a b l2 l3 l4 l5 i = true := fun i hi => List.all_eq_true.1 hall i (List.mem_range.2 hi)
  have at_ : ∀ {α : Type} (l : List α) (d : α) (x : α), x ∈ l → ∃ i, i < l.length ∧ l.getD i d = x := by
    intro α l d x hx
    obtain ⟨i, hi, e⟩ := List.mem_iff_getElem.1 hx
    exact ⟨i, hi, by rw [List.getD_eq_getElem?_getD, List.getElem?_eq_getElem hi]; exact e⟩
  refine ⟨⟨by omega, ha0, ha1⟩, e3, fun x hx => ?_, e4, fun x hx => ?_, e5, fun x hx => ?_⟩
  · obtain ⟨i, hi, rfl⟩ := at_ l3 [] x hx
    have := hst i (by omega)
    unfold stC at this
    simp only [Bool.and_eq_true, decide_eq_true_eq] at this
    exact this.1
  · obtain ⟨i, hi, rfl⟩ := at_ l4 [] x hx
    have := hst i (by omega)
    unfold stC rowC lst at this
    simp only [Bool.and_eq_true, decide_eq_true_eq] at this
    obtain ⟨_, g4, _, ⟨_, _, r0, _⟩, _, _, r1, _⟩ := this
    refine ⟨g4, fun y hy => ?_⟩
    obtain ⟨q, hq, rfl⟩ := at_ _ [] y hy
    rcases (by omega : q = 0 ∨ q = 1) with rfl | rfl
    · exact r0
    · exact r1
  · obtain ⟨i, hi, rfl⟩ := at_ l5 [] x hx
    have := hst i (by omega)
    unfold stC lst at this
    simp only [Bool.and_eq_true, decide_eq_true_eq] at this
    have := this.2.2.1.1
    omega
end Go.Proofs.Ytepkfigcnnfoaaa.Pure
namespace Go.Proofs.Ytepkfigcnnfoaaa.P
open Go.RowKit Go.Proofs.YtepkfigcnnfoaaaW.PrintWords Go.Proofs.YtepkfigcnnfoaaaW.PrintLast Go.Proofs.YtepkfigcnnfoaaaW.PrintMore Go.Proofs.Ytepkfigcnnfoaaa.Deep
set_option linter.unusedVariables false
set_option linter.unusedSimpArgs false
theorem tot_bound {α : Type} (sz : α → Nat) (B : Nat) : ∀ xs : List α, (∀ x ∈ xs, sz x ≤ B) → tot sz xs ≤ xs.length * B
 | [], _ => by simp [tot]
 | x :: xs, h => by
  have h1 := h x (List.mem_cons_self ..)
  have h2 := tot_bound sz B xs (fun y hy => h y (List.mem_cons_of_mem _ hy))
  simp only [tot, List.length_cons, Nat.succ_mul]
  omega
open Go.Proofs.Ytepkfigcnnfoaaa.Br in
theorem ok_of (l2 : List Bool) (l3 : List (List S47)) (l4 : List (List (List Int))) (l5 : List (List Int)) (h2 : sm0 l2) (h3 : sm1 l3) (h4 : sm2 l4) (h5 : sm1 l5) : P.okC l2 l3 l4 l5 := by
 have b3 : tot szP l3 ≤ l3.length * 2097152 := tot_bound szP _ l3 (fun x hx => by have : x.length ≤ 1048576 := h3.2 x hx; unfold szP; omega)
 have q1 : ∀ x : List (List Int), sm1 x → szII x ≤ 1099511627776 := fun x hx => by
  have h := tot_bound szI 1048576 x (fun y hy => hx.2 y hy)
  have : x.length ≤ 1048576 := hx.1
  have h9 := Nat.mul_le_mul_right 1048576 this
  show tot szI x ≤ _
  omega
 have b4 : tot szII l4 ≤ l4.length * 1099511627776 := tot_bound szII _ l4 (fun x hx => q1 x (h4.2 x hx))
 have b5 := q1 l5 h5
 have n2 : l2.length ≤ 1048576 := h2
 have n3 : l3.length ≤ 1048576 := h3.1
 have n4 : l4.length ≤ 1048576 := h4.1
 have m3 := Nat.mul_le_mul_right 2097152 n3
 have m4 := Nat.mul_le_mul_right 1099511627776 n4
 exact ⟨n2, n3, fun x hx => h3.2 x hx, n4, fun x hx => ⟨(h4.2 x hx).1, fun y hy => (h4.2 x hx).2 y hy⟩, ⟨h5.1, fun y hy => h5.2 y hy⟩, by omega⟩
theorem ok_nil : okC [] [] [] [] := ⟨by decide, by decide, fun _ h => (by cases h), by decide, fun _ h => (by cases h), ⟨by decide, fun _ h => (by cases h)⟩, by decide⟩
namespace Opp
open Go.Proofs.Ytepkfigcnnfoaaa.Br in
theorem walk (a b : Int) (A2 : Option Addr) (c2 : Nat) (l2 : List Bool) (A3 : Option Addr) (c3 : Nat) (l3 : List (List S101)) (A4 : Option Addr) (c4 : Nat) (l4 : List (List (List Int))) (A5 : Option Addr) (c5 : Nat) (l5 : List (List Int)) (w : World)
  (hc2 : Kd.C Kd.bool w A2 l2.length l2) (hd2 : l2.length ≤ c2) (hc3 : Kd.C (Kd.slice 101 k101) w A3 l3.length l3) (hd3 : l3.length ≤ c3) (hc4 : Kd.C (Kd.slice 49 (Kd.slice 2 (Kd.int .i64))) w A4 l4.length l4) (hd4 : l4.length ≤ c4) (hc5 : Kd.C (Kd.slice 2 (Kd.int .i64)) w A5 l5.length l5) (hd5 : l5.length ≤ c5)
  (h2 : l2.length ≤ 9223372036854775807) (h3 : l3.length ≤ 9223372036854775807 ∧ ∀ x ∈ l3, x.length ≤ 9223372036854775807)
  (h4 : l4.length ≤ 9223372036854775807 ∧ ∀ x ∈ l4, (x.length ≤ 9223372036854775807 ∧ ∀ y ∈ x, y.length ≤ 9223372036854775807)) (h5 : l5.length ≤ 9223372036854775807 ∧ ∀ x ∈ l5, x.length ≤ 9223372036854775807) :
  Calls Try.prog 7 #[.agg #[.int .i64 a, .int .i64 b, .slice A2 l2.length c2, .slice A3 l3.length c3, .slice A4 l4.length c4, .slice A5 l5.length c5]] w fun e w' => e = .returned (.bool true) ∧ Below w.heap.size w w' := by
 obtain ⟨z, K, hz, hh⟩ := Pure.facts_sz a b l2 l3 l4 l5 h2 h3 h4 h5
 have hzc : ∀ W, Below w.heap.size w W → Calls Try.prog 21 #[.agg #[.int .i64 a, .int .i64 b, .slice A2 l2.length c2, .slice A3 l3.length c3, .slice A4 l4.length c4, .slice A5 l5.length c5], .int .i64 1048576] W fun e W' => e = .returned (.int .i64 z) ∧ Below W.heap.size W W' := fun W hb =>
  laws_szChecker.calls K a b A2 c2 l2 A3 c3 l3 A4 c4 l4 A5 c5 l5 1048576 z W (Kd.C_below hc2 hb) hd2 (Kd.C_below hc3 hb) hd3 (Kd.C_below hc4 hb) hd4 (Kd.C_below hc5 hb) hd5 hz
 rcases hh with hh | ⟨hz0, s2, s3, s4, s5⟩
 ·exact walk_out a b A2 c2 l2 A3 c3 l3 A4 c4 l4 A5 c5 l5 w z hh hzc
 obtain ⟨k, e2, e3, e4, e5, es, ei, eq1, eq2, eq3⟩ := Pure.facts a b l2 l3 l4 l5 s2 s3 s4 s5
 have s3' := Pure.sm1_map cPush l3 s3
 have ht : ∀ W, Below w.heap.size w W → Calls Try.prog 23 #[.agg #[.int .i64 a, .int .i64 b, .slice A2 l2.length c2, .slice A3 l3.length c3, .slice A4 l4.length c4, .slice A5 l5.length c5]] W fun e W' => ∃ vA vC vR vI : Value, e = .returned (.agg #[.int .i64 a, .int .i64 b, vA, vC, vR, vI]) ∧ OwnC W' W.heap.size vA vC vR vI l2 (l3.map (List.map cPush)) l4 l5 ∧ Below W.heap.size W W' := fun W hb =>
  toChecker_calls k a b A2 c2 l2 A3 c3 l3 A4 c4 l4 A5 c5 l5 _ _ _ _ W (Kd.C_below hc2 hb) hd2 (Kd.C_below hc3 hb) hd3 (Kd.C_below hc4 hb) hd4 (Kd.C_below hc5 hb) hd5 e2 e3 e4 e5
 by_cases hok : Br.okC a b l2 (l3.map (List.map cPush)) l4 l5 = true
 ·rw [if_pos hok] at es
  rw [hok] at ei
  obtain ⟨⟨q1, q2, q3⟩, t3, u3, t4, u4, t5, u5⟩ := Pure.shape a b l2 _ l4 l5 hok
  obtain ⟨m, rfl⟩ : ∃ m : Nat, a = (m : Int) := ⟨a.toNat, by omega⟩
  have sh : Shp m l2 (l3.map (List.map cPush)) l4 l5 := ⟨by omega, by omega, t3, u3, t4, fun x hx => ⟨(u4 x hx).1, fun y hy => by have := (u4 x hx).2 y hy; omega⟩, t5, u5⟩
  refine walkin (m : Int) b A2 c2 l2 A3 c3 l3 A4 c4 l4 A5 c5 l5 w z hz0 (l3.map (List.map cPush)) (m : Int) b 0 (l2.map (!·)) (l3.map (List.map cPush)) l4 l5 k hzc ht ?_ ?_ (ok_of _ _ _ _ s2 s3' s4 s5) (ok_of _ _ _ _ (show (l2.map (!·)).length ≤ 1048576 by rw [List.length_map]; exact s2) s3' s4 s5) eq1 eq2
  ·rintro W vA vC vR vI ⟨⟨A0, c0, rfl, l0, g0⟩, ⟨A1, c1, rfl, l1, g1⟩, ⟨B2, d2, rfl, r2, p2⟩, ⟨B3, d3, rfl, r3, p3⟩⟩
   refine (spec_OppositeChecker.calls k (m : Int) b A0 c0 l2 A1 c1 _ B2 d2 l4 B3 d3 l5 _ _ _ _ _ _ _ W g0 l0 g1 l1 p2 r2 p3 r3 es).mono ?_
   rintro e W' ⟨v2, v3, v4, v5, rfl, i2, i3, i4, i5, hb⟩
   exact ⟨v2, v3, v4, v5, rfl, ⟨Rd.ofR i2, Rd.ofS i3, Rd.ofR i4, Rd.ofS i5⟩, hb⟩
  ·rintro W vA vC vR vI ⟨⟨A0, c0, rfl, l0, g0⟩, ⟨A1, c1, rfl, l1, g1⟩, ⟨B2, d2, rfl, r2, p2⟩, ⟨B3, d3, rfl, r3, p3⟩⟩
   exact opp_true k m b A0 c0 l2 A1 c1 _ B2 d2 l4 B3 d3 l5 W g0 l0 g1 l1 p2 r2 p3 r3 ei sh
 ·rw [if_neg hok] at es
  rw [Bool.not_eq_true] at hok
  rw [hok] at ei
  refine walkin a b A2 c2 l2 A3 c3 l3 A4 c4 l4 A5 c5 l5 w z hz0 (l3.map (List.map cPush)) 0 0 1 [] [] [] [] k hzc ht ?_ ?_ (ok_of _ _ _ _ s2 s3' s4 s5) ok_nil eq1 eq3
  ·rintro W vA vC vR vI ⟨⟨A0, c0, rfl, l0, g0⟩, ⟨A1, c1, rfl, l1, g1⟩, ⟨B2, d2, rfl, r2, p2⟩, ⟨B3, d3, rfl, r3, p3⟩⟩
   refine (spec_OppositeChecker.calls k a b A0 c0 l2 A1 c1 _ B2 d2 l4 B3 d3 l5 _ _ _ _ _ _ _ W g0 l0 g1 l1 p2 r2 p3 r3 es).mono ?_
   rintro e W' ⟨v2, v3, v4, v5, rfl, i2, i3, i4, i5, hb⟩
   exact ⟨v2, v3, v4, v5, rfl, ⟨Rd.ofR i2, Rd.ofS i3, Rd.ofR i4, Rd.ofS i5⟩, hb⟩
  ·rintro W vA vC vR vI ⟨⟨A0, c0, rfl, l0, g0⟩, ⟨A1, c1, rfl, l1, g1⟩, ⟨B2, d2, rfl, r2, p2⟩, ⟨B3, d3, rfl, r3, p3⟩⟩
   exact opp_false k a b A0 c0 l2 A1 c1 _ B2 d2 l4 B3 d3 l5 W g0 l0 g1 l1 p2 r2 p3 r3 ei
end Opp
end Go.Proofs.Ytepkfigcnnfoaaa.P
