/- Texts that this law leans on, several in one; written by programs of these sessions (print, wip/deep, gather.py). -/
import Derived.Test.YtgfilbgjnloopaaGe3
namespace Go.Proofs.Ytgfilbgjnloopaa.P
open Go.RowKit Go.Proofs.YtgfilbgjnloopaaW.PrintWords Go.Proofs.YtgfilbgjnloopaaW.PrintLast Go.Proofs.YtgfilbgjnloopaaW.PrintMore
attribute [local go_sem] max2_int min2_int max_two min_two max_three min_three max_four min_four
set_option linter.unusedVariables false
set_option linter.unusedSimpArgs false
mutual
def impl_match.l0 : Nat → ByteArray → Int → Int → List Int → List Int → List Int → List Int → List Int → Option (List Int × List Int × List Int × List Int × List Int)
 | 0, _, _, _, _, _, _, _, _ => none
 | k + 1, x0, x13, x14, x438000, x438001, x438002, x438003, x438004 => if x14 < x13 then (if 0 ≤ x14 then (if x14 < (x0.size : Int) then ((impl_isReturn.f (bt x0 x14)).bind fun t438 => (if t438 = true then (impl_match.j1 k x0 x14 x14 (-1) (x438002.length : Int) x13 x14 ((x438002.length : Int) == 0) x438000 x438001 x438002 x438003 x438004) else (impl_match.j1 k x0 x14 x14 (-1) (x438002.length : Int) x13 x14 false x438000 x438001 x438002 x438003 x438004))) else (none)) else (none)) else (some (x438000, x438001, x438002, x438003, x438004))
def impl_match.j2 : Nat → ByteArray → Int → Int → Int → Int → Int → List Int → List Int → List Int → List Int → List Int → Option (List Int × List Int × List Int × List Int × List Int)
 | 0, _, _, _, _, _, _, _, _, _, _, _ => none
 | k + 1, x0, x4, x5, x6, x13, x14, x438000, x438001, x438002, x438003, x438004 => if (x438002.length : Int) > 0 then (if 0 ≤ (wrap64 ((x438002.length : Int) - 1)) then (if (wrap64 ((x438002.length : Int) - 1)) < (x438002.length : Int) then (impl_match.j3 k x0 x4 x5 x6 (rd x438002 (wrap64 ((x438002.length : Int) - 1))) x13 x14 x438000 x438001 x438002 x438003 x438004) else (none)) else (none)) else (impl_match.j3 k x0 x4 x5 x6 (-1) x13 x14 x438000 x438001 x438002 x438003 x438004)
def impl_match.j3 : Nat → ByteArray → Int → Int → Int → Int → Int → Int → List Int → List Int → List Int → List Int → List Int → Option (List Int × List Int × List Int × List Int × List Int)
 | 0, _, _, _, _, _, _, _, _, _, _, _, _ => none
 | k + 1, x0, x4, x5, x6, x8, x13, x14, x438000, x438001, x438002, x438003, x438004 => if 0 ≤ x4 then (if x4 < (x0.size : Int) then ((impl_isCall.f (bt x0 x4)).bind fun t452 => (if t452 = true then ((some (([x5] : List Int) : List Int)).bind fun y453 => (if x438002.length + y453.length < 17592186044416 then (impl_match.j4 k x0 (-2) x8 x13 x14 x438000 x438001 (x438002 ++ y453) x438003 x438004) else (none))) else (impl_match.j4 k x0 x6 x8 x13 x14 x438000 x438001 x438002 x438003 x438004))) else (none)) else (none)
def impl_match.j4 : Nat → ByteArray → Int → Int → Int → Int → List Int → List Int → List Int → List Int → List Int → Option (List Int × List Int × List Int × List Int × List Int)
 | 0, _, _, _, _, _, _, _, _, _, _ => none
 | k + 1, x0, x6, x8, x13, x14, x438000, x438001, x438002, x438003, x438004 => (some (([x6] : List Int) : List Int)).bind fun y459 => (if x438000.length + y459.length < 17592186044416 then ((some (([x8] : List Int) : List Int)).bind fun y465 => (if x438004.length + y465.length < 17592186044416 then ((impl_size_int64.f x438002).bind fun t471 => ((some (([t471] : List Int) : List Int)).bind fun y472 => (if x438003.length + y472.length < 17592186044416 then (impl_match.l0 k x0 x13 (wrap64 (x14 + 1)) (x438000 ++ y459) x438001 x438002 (x438003 ++ y472) (x438004 ++ y465)) else (none)))) else (none))) else (none))
def impl_match.j1 : Nat → ByteArray → Int → Int → Int → Int → Int → Int → Bool → List Int → List Int → List Int → List Int → List Int → Option (List Int × List Int × List Int × List Int × List Int)
 | 0, _, _, _, _, _, _, _, _, _, _, _, _, _ => none
 | k + 1, x0, x4, x5, x6, x7, x13, x14, x21, x438000, x438001, x438002, x438003, x438004 => if x21 = true then ((some (([x5] : List Int) : List Int)).bind fun y439 => (if x438001.length + y439.length < 17592186044416 then (impl_match.j2 k x0 x4 x5 (-2) x13 x14 x438000 (x438001 ++ y439) x438002 x438003 x438004) else (none))) else (if 0 ≤ x4 then (if x4 < (x0.size : Int) then ((impl_isReturn.f (bt x0 x4)).bind fun t445 => (if t445 = true then (if 0 ≤ (wrap64 (x7 - 1)) then (if (wrap64 (x7 - 1)) < (x438002.length : Int) then (if 0 ≤ (rd x438002 (wrap64 (x7 - 1))) then (if (rd x438002 (wrap64 (x7 - 1))) < (x438000.length : Int) then (if (wrap64 (x7 - 1)) ≤ (x438002.length : Int) then (impl_match.j2 k x0 x4 x5 (rd x438002 (wrap64 (x7 - 1))) x13 x14 (x438000.set ((rd x438002 (wrap64 (x7 - 1))) : Int).toNat x5) x438001 (x438002.take ((wrap64 (x7 - 1)) : Int).toNat) x438003 x438004) else (none)) else (none)) else (none)) else (none)) else (none)) else (impl_match.j2 k x0 x4 x5 x6 x13 x14 x438000 x438001 x438002 x438003 x438004))) else (none)) else (none))
end
def impl_match.f (k : Nat) (a0 : ByteArray) : Option (List Int × List Int × List Int × List Int × List Int) := impl_match.l0 k a0 (a0.size : Int) 0 ([] : List Int) ([] : List Int) ([] : List Int) (([0] : List Int)) ([] : List Int)
def impl_match.T21 : Bool × List (List Nat × List Nat) := (true, [([], []), ([0], [0]), ([], []), ([2], [2]), ([1, 3], [1, 3]), ([], []), ([5], [5]), ([], []), ([7], [7]), ([6, 8, 4], [6, 8]), ([0, 1, 2, 3, 4, 5, 6], []), ([10, 4, 9, 0, 1, 2, 3, 4, 5, 6], [4, 10]), ([0, 1, 2, 3, 4, 5, 6, 7, 8, 9, 10, 11], []), ([12, 9, 11, 0, 1, 2, 3, 4, 5, 6, 7, 8, 9, 10, 11], [9, 12])])
def impl_match.B21 : List Nat := [0, 1, 0, 4, 15, 0, 32, 0, 128, 511, 127, 2047, 4095, 8191]
theorem impl_match.tab21 : rtab .any (opsOf Try.f67 21) = impl_match.T21 := by kernel_rfl
theorem impl_match.bits21 : waitsOk impl_match.T21.2 impl_match.B21 = true := by kernel_rfl
def impl_match.T22 : Bool × List (List Nat × List Nat) := (true, [([], []), ([0], [0]), ([], []), ([2], [2]), ([3], [3]), ([4], [4]), ([1, 5, 4], [1, 5]), ([0, 1, 2, 3, 4, 5, 6], []), ([7, 6, 6, 0, 1, 2, 3, 4, 5, 6], [6, 7])])
def impl_match.B22 : List Nat := [0, 1, 0, 4, 12, 28, 63, 127, 255]
theorem impl_match.tab22 : rtab .any (opsOf Try.f67 22) = impl_match.T22 := by kernel_rfl
theorem impl_match.bits22 : waitsOk impl_match.T22.2 impl_match.B22 = true := by kernel_rfl
def impl_match.cz0 : List Nat := [0, 2, 5, 7, 401, 406]
def impl_match.cz1 : List Nat := [0, 2, 401, 403]
set_option maxHeartbeats 8000000 in
set_option maxRecDepth 100000 in
theorem impl_match.calls (k : Nat) (a0 : ByteArray) (r1 : List Int) (r2 : List Int) (r3 : List Int) (r4 : List Int) (r5 : List Int) (w : World) (h : impl_match.f k a0 = some (r1, r2, r3, r4, r5)) :
  Calls Try.prog 67 #[.string a0] w fun e w' => ∃ v0_ v1_ v2_ v3_ v4_ : Value, e = .returned (.agg #[v0_, v1_, v2_, v3_, v4_]) ∧ Kd.R (Kd.int .i64) 2 w' w.heap.size (fun k_ => some k_ ≠ (v1_ : Value).ownBlock ∧ some k_ ≠ (v2_ : Value).ownBlock ∧ some k_ ≠ (v3_ : Value).ownBlock ∧ some k_ ≠ (v4_ : Value).ownBlock) v0_ r1 ∧ Kd.R (Kd.int .i64) 2 w' w.heap.size (fun k_ => some k_ ≠ (v0_ : Value).ownBlock ∧ some k_ ≠ (v2_ : Value).ownBlock ∧ some k_ ≠ (v3_ : Value).ownBlock ∧ some k_ ≠ (v4_ : Value).ownBlock) v1_ r2 ∧ Kd.R (Kd.int .i64) 2 w' w.heap.size (fun k_ => some k_ ≠ (v0_ : Value).ownBlock ∧ some k_ ≠ (v1_ : Value).ownBlock ∧ some k_ ≠ (v3_ : Value).ownBlock ∧ some k_ ≠ (v4_ : Value).ownBlock) v2_ r3 ∧ Kd.R (Kd.int .i64) 2 w' w.heap.size (fun k_ => some k_ ≠ (v0_ : Value).ownBlock ∧ some k_ ≠ (v1_ : Value).ownBlock ∧ some k_ ≠ (v2_ : Value).ownBlock ∧ some k_ ≠ (v4_ : Value).ownBlock) v3_ r4 ∧ Kd.R (Kd.int .i64) 2 w' w.heap.size (fun k_ => some k_ ≠ (v0_ : Value).ownBlock ∧ some k_ ≠ (v1_ : Value).ownBlock ∧ some k_ ≠ (v2_ : Value).ownBlock ∧ some k_ ≠ (v3_ : Value).ownBlock) v4_ r5 ∧ Below w.heap.size w w' := by
 have hu91 := Try.underlying91
 have HB := AZ.mk (Below.refl w.heap.size w)
 have H : (impl_match.l0 k a0 (a0.size : Int) 0 ([] : List Int) ([] : List Int) ([] : List Int) (([0] : List Int)) ([] : List Int)) = some (r1, r2, r3, r4, r5) := h
 clear h
 obtain ⟨y434, hy434⟩ : ∃ y_ : List Int, y_ = (([0] : List Int)) := ⟨_, rfl⟩
 replace H : (impl_match.l0 k a0 (a0.size : Int) 0 ([] : List Int) ([] : List Int) ([] : List Int) y434 ([] : List Int)) = some (r1, r2, r3, r4, r5) := by first | (rw [hy434]; with_reducible exact H) | (have H2_ := (Option.bind_some _ _).symm.trans H; rw [hy434]; with_reducible exact H2_) | (have H2_ := (Option.bind_some _ _).symm.trans H; with_reducible exact H2_) | with_reducible exact H | (rw [hy434]; exact H) | exact H
 have Ny434 := AZ.mk hy434
 clear hy434
 have H' := AZ.mk H
 clear H
 go_enter Try.func67, Try.ntmps67
 go_wp2_with (first | ((with_reducible refine gate_dst (N := 2) rfl ?_); refine box_event ?hg (N := 2) ?hd (cs := #[.slice none 0 0, .slice none 0 0, .slice none 0 0, .slice none 0 0, .slice none 0 0]) (t := 91) ?hr ?_; (case hd => rfl); (case hg => rfl); (case hr => first | (go_simp; done) | (go_simp; rfl)); intro gb433 hg w2 hbox hb; have n0_ := AZ.mk (pT (by repeat (first | (with_reducible first | exact HB.out | apply pA | apply pN | apply pD) | exact HB.out)) hb); have n1_ := AZ.mk (hbox); have n2_ := AZ.mk ((by rw [hg]; exact (pZ (by repeat (first | (with_reducible first | exact HB.out | apply pA | apply pN | apply pD) | exact HB.out))) : w.heap.size ≤ gb433)); have n3_ := AZ.mk ((by rw [hg]; exact (pZ (by repeat (first | (with_reducible first | exact HB.out | apply pA | apply pN | apply pD) | exact HB.out))) : w.heap.size ≤ gb433)); clear HB; have HB := n0_; have BK433 := n1_; have GW433 := n2_; have GE433 := n3_; clear n0_ n1_ n2_ n3_; clear hb hbox hg) | ((with_reducible refine gate_dst (N := 10) rfl ?_); refine Kd.R_lit (Kd.int .i64) _ 2 ?hg (N := 10) ?hd (xs := ([0] : List Int)) (inner := [.int .i64 0]) (ok := fun _ => True) (okp := fun _ => True) ?hr ?hp (fun _ hk => hk) trivial (Below.refl _ _) (Nat.le_refl _) (by simp) ?_; (case hd => rfl); (case hg => rfl); (case hr => first | (go_simp; done) | (go_simp; rfl)); (case hp => exact (Reps.one (show Kd.M (Kd.int .i64) _ _ _ 0 [.int .i64 0] from rfl) (Reps.none _ _))); intro v435 w3 ho4 hb hg_ hnew_; clear hg_ hnew_; (first | rw [← Ny434.out] at ho4 | (simp only [Int.reduceToNat] at ho4; rw [← Ny434.out] at ho4)); have n0_ := AZ.mk (Kd.R_lower ho4 (pZ (by repeat (first | (with_reducible first | exact HB.out | apply pA | apply pN | apply pD | refine pS ?_ GE433.out) | exact HB.out)))); have n1_ := AZ.mk (bb_ (g := gb433) (o := .cells #[.slice none 0 0, .slice none 0 0, .slice none 0 0, .slice none 0 0, .slice none 0 0] 91 (0, 0)) (by (with_reducible repeat (first | refine bn_ ?_ _ | refine bd_ ?_ | refine ba_ ?_ _)); exact BK433.out) hb); have n2_ := AZ.mk (pT (by repeat (first | (with_reducible first | exact HB.out | apply pA | apply pN | apply pD | refine pS ?_ GE433.out) | exact HB.out)) hb); clear BK433; clear HB; have HO436 := n0_; have BK433 := n1_; have HB := n2_; clear n0_ n1_ n2_; clear hb ho4; obtain ⟨Ao5, co5, eo5⟩ := Kd.R_slice HO436.out; subst eo5) | ((with_reducible refine gate_dst (N := 3) rfl ?_); refine box_event ?hg (N := 3) ?hd (cs := #[.slice none 0 0, .slice none 0 0, .slice none 0 0, .slice none 0 0, .slice none 0 0]) (t := 91) ?hr ?_; (case hd => rfl); (case hg => rfl); (case hr => first | (go_simp; done) | (go_simp; rfl)); intro gb437 hg w6 hbox hb; have n0_ := AZ.mk (Kd.R_below (by (with_reducible repeat (first | apply Kd.R_alloc | apply Kd.R_drewN | apply Kd.R_drew)); exact HO436.out) hb); have n1_ := AZ.mk (bb_ (g := gb433) (o := .cells #[.slice none 0 0, .slice none 0 0, .slice none 0 0, .slice none 0 0, .slice none 0 0] 91 (0, 0)) (by (with_reducible repeat (first | refine bn_ ?_ _ | refine bd_ ?_ | refine ba_ ?_ _)); exact BK433.out) hb); have n2_ := AZ.mk (pT (by repeat (first | (with_reducible first | exact HB.out | apply pA | apply pN | apply pD | refine pS ?_ GE433.out) | exact HB.out)) hb); have n3_ := AZ.mk (hbox); have n4_ := AZ.mk ((by rw [hg]; exact (pZ (by repeat (first | (with_reducible first | exact HB.out | apply pA | apply pN | apply pD | refine pS ?_ GE433.out) | exact HB.out))) : w.heap.size ≤ gb437)); have n5_ := AZ.mk ((by rw [hg]; exact (pZ (by repeat (first | (with_reducible first | exact HB.out | apply pA | apply pN | apply pD | refine pS ?_ GE433.out) | exact HB.out))) : w.heap.size ≤ gb437)); have n6_ := AZ.mk ((by rw [hg]; exact Nat.ne_of_lt (blk_lt (g := gb433) (o := .cells #[.slice none 0 0, .slice none 0 0, .slice none 0 0, .slice none 0 0, .slice none 0 0] 91 (0, 0)) (by (with_reducible repeat (first | refine bn_ ?_ _ | refine bd_ ?_ | refine ba_ ?_ _)); exact BK433.out)) : gb433 ≠ gb437)); have n7_ := AZ.mk ((by rw [hg]; exact Nat.ne_of_gt (blk_lt (g := gb433) (o := .cells #[.slice none 0 0, .slice none 0 0, .slice none 0 0, .slice none 0 0, .slice none 0 0] 91 (0, 0)) (by (with_reducible repeat (first | refine bn_ ?_ _ | refine bd_ ?_ | refine ba_ ?_ _)); exact BK433.out)) : gb437 ≠ gb433)); clear HO436; clear BK433; clear HB; have HO436 := n0_; have BK433 := n1_; have HB := n2_; have BK437 := n3_; have GW437 := n4_; have GE437 := n5_; have NB433_437 := n6_; have NB437_433 := n7_; clear n0_ n1_ n2_ n3_ n4_ n5_ n6_ n7_; clear hb hbox hg; have hnb7 := NB437_433.out; have hnc7 := NB433_437.out; have hcz8_0 : w6.cell? ⟨gb437, 0, none⟩ = some (.slice none 0 0) := (bc BK437.out 0).trans rfl; have hcz8_1 : w6.cell? ⟨gb437, 1, none⟩ = some (.slice none 0 0) := (bc BK437.out 1).trans rfl; have hcz8_2 : w6.cell? ⟨gb437, 2, none⟩ = some (.slice none 0 0) := (bc BK437.out 2).trans rfl; have hcz8_3 : w6.cell? ⟨gb437, 3, none⟩ = some (.slice none 0 0) := (bc BK437.out 3).trans rfl; have hcz8_4 : w6.cell? ⟨gb437, 4, none⟩ = some (.slice none 0 0) := (bc BK437.out 4).trans rfl; have hfz8_0 := bf BK437.out 0; have hfz8_1 := bf BK437.out 1; have hfz8_2 := bf BK437.out 2; have hfz8_3 := bf BK437.out 3; have hfz8_4 := bf BK437.out 4))
 go_loopg [14] k (fun kq v14 w' => ∃ (x14_1 : Int) (x438000_1 : List Int) (x438001_1 : List Int) (x438002_1 : List Int) (x438003_1 : List Int) (x438004_1 : List Int) (u438000 : Value) (u438001 : Value) (u438002 : Value) (u438003 : Value) (u438004 : Value), v14 = .int .i64 x14_1 ∧ AZ (impl_match.l0 kq a0 (a0.size : Int) x14_1 x438000_1 x438001_1 x438002_1 x438003_1 x438004_1 = some (r1, r2, r3, r4, r5)) ∧ AZ (kq ≤ k) ∧ AZ (Kd.R (Kd.int .i64) 2 w' w.heap.size (fun k_ => some k_ ≠ (u438001 : Value).ownBlock ∧ some k_ ≠ (u438002 : Value).ownBlock ∧ some k_ ≠ (u438003 : Value).ownBlock ∧ some k_ ≠ (u438004 : Value).ownBlock) u438000 x438000_1) ∧ AZ (Kd.R (Kd.int .i64) 2 w' w.heap.size (fun k_ => some k_ ≠ (u438000 : Value).ownBlock ∧ some k_ ≠ (u438002 : Value).ownBlock ∧ some k_ ≠ (u438003 : Value).ownBlock ∧ some k_ ≠ (u438004 : Value).ownBlock) u438001 x438001_1) ∧ AZ (Kd.R (Kd.int .i64) 2 w' w.heap.size (fun k_ => some k_ ≠ (u438000 : Value).ownBlock ∧ some k_ ≠ (u438001 : Value).ownBlock ∧ some k_ ≠ (u438003 : Value).ownBlock ∧ some k_ ≠ (u438004 : Value).ownBlock) u438002 x438002_1) ∧ AZ (Kd.R (Kd.int .i64) 2 w' w.heap.size (fun k_ => some k_ ≠ (u438000 : Value).ownBlock ∧ some k_ ≠ (u438001 : Value).ownBlock ∧ some k_ ≠ (u438002 : Value).ownBlock ∧ some k_ ≠ (u438004 : Value).ownBlock) u438003 x438003_1) ∧ AZ (Kd.R (Kd.int .i64) 2 w' w.heap.size (fun k_ => some k_ ≠ (u438000 : Value).ownBlock ∧ some k_ ≠ (u438001 : Value).ownBlock ∧ some k_ ≠ (u438002 : Value).ownBlock ∧ some k_ ≠ (u438003 : Value).ownBlock) u438004 x438004_1) ∧ AZ (w'.heap[gb433]? = some (.cells #[(.slice none 0 0), (.slice none 0 0), (.slice none 0 0), (.slice none 0 0), (.slice none 0 0)] 91 (0, 0))) ∧ AZ (w'.heap[gb437]? = some (.cells #[u438000, u438001, u438002, u438003, u438004] 91 (0, 0))) ∧ AZ (Below w.heap.size w w'))
 case atStart => exact ⟨(0), (([] : List Int)), (([] : List Int)), (([] : List Int)), (y434), (([] : List Int)), (.slice none 0 0), (.slice none 0 0), (.slice none 0 0), (.slice Ao5 y434.length co5), (.slice none 0 0), (by first | rfl | (simp; done) | (simp [*]; done)), H', ⟨Nat.le_refl _⟩, ⟨by first | exact Kd.R_nil _ _ _ _ _ | exact Kd.N_nil _ _ _ _ _ | exact Kd.V_nil _ _ _ _ _ | exact Kd.Q_nil _ _ _ _ _ | exact Kd.S_nil _ _ _ _ _⟩, ⟨by first | exact Kd.R_nil _ _ _ _ _ | exact Kd.N_nil _ _ _ _ _ | exact Kd.V_nil _ _ _ _ _ | exact Kd.Q_nil _ _ _ _ _ | exact Kd.S_nil _ _ _ _ _⟩, ⟨by first | exact Kd.R_nil _ _ _ _ _ | exact Kd.N_nil _ _ _ _ _ | exact Kd.V_nil _ _ _ _ _ | exact Kd.Q_nil _ _ _ _ _ | exact Kd.S_nil _ _ _ _ _⟩, ⟨by (with_reducible repeat (first | apply Kd.R_alloc | apply Kd.R_drewN | apply Kd.R_drew)); exact Kd.R_mono (Kd.R_far (p := ⟨gb437, 4, none⟩) (Kd.R_far (p := ⟨gb437, 3, none⟩) (Kd.R_far (p := ⟨gb437, 2, none⟩) (Kd.R_far (p := ⟨gb437, 1, none⟩) (Kd.R_far (p := ⟨gb437, 0, none⟩) (Kd.R_types HO436.out BK437.out (by decide)) (fun _ hk => hk.2) (.slice none 0 0)) (fun _ hk => hk.2) (.slice none 0 0)) (fun _ hk => hk.2) (.slice none 0 0)) (fun _ hk => hk.2) (.slice Ao5 y434.length co5)) (fun _ hk => hk.2) (.slice none 0 0)) (fun _ hk => ⟨(by simp [Value.ownBlock]), ⟨(by simp [Value.ownBlock]), ⟨(by simp [Value.ownBlock]), (by simp [Value.ownBlock])⟩⟩⟩)⟩, ⟨by first | exact Kd.R_nil _ _ _ _ _ | exact Kd.N_nil _ _ _ _ _ | exact Kd.V_nil _ _ _ _ _ | exact Kd.Q_nil _ _ _ _ _ | exact Kd.S_nil _ _ _ _ _⟩, ⟨by (with_reducible repeat (first | refine bn_ ?_ _ | refine bd_ ?_ | refine ba_ ?_ _)); refine blk_far ?_ NB433_437.out _; (with_reducible repeat (first | refine bn_ ?_ _ | refine bd_ ?_ | refine ba_ ?_ _)); refine blk_far ?_ NB433_437.out _; (with_reducible repeat (first | refine bn_ ?_ _ | refine bd_ ?_ | refine ba_ ?_ _)); refine blk_far ?_ NB433_437.out _; (with_reducible repeat (first | refine bn_ ?_ _ | refine bd_ ?_ | refine ba_ ?_ _)); refine blk_far ?_ NB433_437.out _; (with_reducible repeat (first | refine bn_ ?_ _ | refine bd_ ?_ | refine ba_ ?_ _)); refine blk_far ?_ NB433_437.out _; (with_reducible repeat (first | refine bn_ ?_ _ | refine bd_ ?_ | refine ba_ ?_ _)); exact BK433.out⟩, ⟨by (with_reducible repeat (first | refine bn_ ?_ _ | refine bd_ ?_ | refine ba_ ?_ _)); refine blk_put (cs := #[.slice none 0 0, .slice none 0 0, .slice none 0 0, .slice Ao5 y434.length co5, .slice none 0 0]) ?_ 4 _ rfl; (with_reducible repeat (first | refine bn_ ?_ _ | refine bd_ ?_ | refine ba_ ?_ _)); refine blk_put (cs := #[.slice none 0 0, .slice none 0 0, .slice none 0 0, .slice none 0 0, .slice none 0 0]) ?_ 3 _ rfl; (with_reducible repeat (first | refine bn_ ?_ _ | refine bd_ ?_ | refine ba_ ?_ _)); refine blk_put (cs := #[.slice none 0 0, .slice none 0 0, .slice none 0 0, .slice none 0 0, .slice none 0 0]) ?_ 2 _ rfl; (with_reducible repeat (first | refine bn_ ?_ _ | refine bd_ ?_ | refine ba_ ?_ _)); refine blk_put (cs := #[.slice none 0 0, .slice none 0 0, .slice none 0 0, .slice none 0 0, .slice none 0 0]) ?_ 1 _ rfl; (with_reducible repeat (first | refine bn_ ?_ _ | refine bd_ ?_ | refine ba_ ?_ _)); refine blk_put (cs := #[.slice none 0 0, .slice none 0 0, .slice none 0 0, .slice none 0 0, .slice none 0 0]) ?_ 0 _ rfl; (with_reducible repeat (first | refine bn_ ?_ _ | refine bd_ ?_ | refine ba_ ?_ _)); exact BK437.out⟩, ⟨by repeat (first | (with_reducible first | exact HB.out | apply pA | apply pN | apply pD | refine pS ?_ GE433.out | refine pS ?_ GE437.out) | exact HB.out)⟩⟩
 case round =>
  clear H'
  try clear p2
  try clear c6
  try clear c7
  try clear hcz8_0
  try clear hcz8_1
  try clear hcz8_2
  try clear hcz8_3
  try clear hcz8_4
  try clear hfz8_0
  try clear hfz8_1
  try clear hfz8_2
  try clear hfz8_3
  try clear hfz8_4
  obtain ⟨x14_1, x438000_1, x438001_1, x438002_1, x438003_1, x438004_1, u438000, u438001, u438002, u438003, u438004, rfl, HA, HK1, HO_438000, HO_438001, HO_438002, HO_438003, HO_438004, BK433, BK437, HB⟩ := hrel
  cases gk with
  | zero => exact absurd HA.out (by simp [impl_match.l0])
  | succ k1 =>
   have H := HA.out
   clear HA
   simp only [impl_match.l0] at H
   by_cases c9 : x14_1 < (a0.size : Int)
   rotate_left
   ·rw [if_neg c9] at H
    have c9b0 : decide (x14_1 < (a0.size : Int)) = false := decide_eq_false c9
    clear c9
    simp only [Option.some.injEq, Prod.mk.injEq] at H
    obtain ⟨rfl, rfl, rfl, rfl, rfl⟩ := H
    have hnb102 := NB437_433.out
    have hnc102 := NB433_437.out
    have hcz103_0 : wr.cell? ⟨gb437, 0, none⟩ = some (u438000) := (bc BK437.out 0).trans rfl
    have hcz103_1 : wr.cell? ⟨gb437, 1, none⟩ = some (u438001) := (bc BK437.out 1).trans rfl
    have hcz103_2 : wr.cell? ⟨gb437, 2, none⟩ = some (u438002) := (bc BK437.out 2).trans rfl
    have hcz103_3 : wr.cell? ⟨gb437, 3, none⟩ = some (u438003) := (bc BK437.out 3).trans rfl
    have hcz103_4 : wr.cell? ⟨gb437, 4, none⟩ = some (u438004) := (bc BK437.out 4).trans rfl
    have hfz103_0 := bf BK437.out 0
    have hfz103_1 := bf BK437.out 1
    have hfz103_2 := bf BK437.out 2
    have hfz103_3 := bf BK437.out 3
    have hfz103_4 := bf BK437.out 4
    obtain ⟨Ao104, co104, eo104⟩ := Kd.R_slice HO_438000.out
    subst eo104
    have hcz105_0 : wr.cell? ⟨gb433, 0, none⟩ = some (.slice none 0 0) := (bc BK433.out 0).trans rfl
    have hcz105_1 : wr.cell? ⟨gb433, 1, none⟩ = some (.slice none 0 0) := (bc BK433.out 1).trans rfl
    have hcz105_2 : wr.cell? ⟨gb433, 2, none⟩ = some (.slice none 0 0) := (bc BK433.out 2).trans rfl
    have hcz105_3 : wr.cell? ⟨gb433, 3, none⟩ = some (.slice none 0 0) := (bc BK433.out 3).trans rfl
    have hcz105_4 : wr.cell? ⟨gb433, 4, none⟩ = some (.slice none 0 0) := (bc BK433.out 4).trans rfl
    have hfz105_0 := bf BK433.out 0
    have hfz105_1 := bf BK433.out 1
    have hfz105_2 := bf BK433.out 2
    have hfz105_3 := bf BK433.out 3
    have hfz105_4 := bf BK433.out 4
    obtain ⟨Ao106, co106, eo106⟩ := Kd.R_slice HO_438001.out
    subst eo106
    obtain ⟨Ao107, co107, eo107⟩ := Kd.R_slice HO_438002.out
    subst eo107
    obtain ⟨Ao108, co108, eo108⟩ := Kd.R_slice HO_438003.out
    subst eo108
    obtain ⟨Ao109, co109, eo109⟩ := Kd.R_slice HO_438004.out
    subst eo109
    go_wp2
    refine bodyPost_ret (results_cell_row rfl _ _ gb433 91 #[.slice Ao104 x438000_1.length co104, .slice Ao106 x438001_1.length co106, .slice Ao107 x438002_1.length co107, .slice Ao108 x438003_1.length co108, .slice Ao109 x438004_1.length co109] (0, 0) _ rfl (by (with_reducible repeat (first | refine bn_ ?_ _ | refine bd_ ?_ | refine ba_ ?_ _)); refine blk_put (cs := #[.slice Ao104 x438000_1.length co104, .slice Ao106 x438001_1.length co106, .slice Ao107 x438002_1.length co107, .slice Ao108 x438003_1.length co108, .slice none 0 0]) ?_ 4 _ rfl; (with_reducible repeat (first | refine bn_ ?_ _ | refine bd_ ?_ | refine ba_ ?_ _)); refine blk_put (cs := #[.slice Ao104 x438000_1.length co104, .slice Ao106 x438001_1.length co106, .slice Ao107 x438002_1.length co107, .slice none 0 0, .slice none 0 0]) ?_ 3 _ rfl; (with_reducible repeat (first | refine bn_ ?_ _ | refine bd_ ?_ | refine ba_ ?_ _)); refine blk_put (cs := #[.slice Ao104 x438000_1.length co104, .slice Ao106 x438001_1.length co106, .slice none 0 0, .slice none 0 0, .slice none 0 0]) ?_ 2 _ rfl; (with_reducible repeat (first | refine bn_ ?_ _ | refine bd_ ?_ | refine ba_ ?_ _)); refine blk_put (cs := #[.slice Ao104 x438000_1.length co104, .slice none 0 0, .slice none 0 0, .slice none 0 0, .slice none 0 0]) ?_ 1 _ rfl; (with_reducible repeat (first | refine bn_ ?_ _ | refine bd_ ?_ | refine ba_ ?_ _)); refine blk_put (cs := #[.slice none 0 0, .slice none 0 0, .slice none 0 0, .slice none 0 0, .slice none 0 0]) ?_ 0 _ rfl; (with_reducible repeat (first | refine bn_ ?_ _ | refine bd_ ?_ | refine ba_ ?_ _)); exact BK433.out) Try.underlying91 rfl (by kernel_rfl)) rfl ?_
    exact ⟨_, _, _, _, _, by first | rfl | (simp [errW_none, errW_some] <;> rfl) | (simp [*, errW_none, errW_some] <;> rfl), by (with_reducible repeat (first | apply Kd.R_alloc | apply Kd.R_drewN | apply Kd.R_drew)); exact Kd.R_mono (Kd.R_far (p := ⟨gb433, 4, none⟩) (Kd.R_far (p := ⟨gb433, 3, none⟩) (Kd.R_far (p := ⟨gb433, 2, none⟩) (Kd.R_far (p := ⟨gb433, 1, none⟩) (Kd.R_far (p := ⟨gb433, 0, none⟩) (Kd.R_types HO_438000.out BK433.out (by decide)) (fun _ hk => hk.2) (.slice Ao104 x438000_1.length co104)) (fun _ hk => hk.2) (.slice Ao106 x438001_1.length co106)) (fun _ hk => hk.2) (.slice Ao107 x438002_1.length co107)) (fun _ hk => hk.2) (.slice Ao108 x438003_1.length co108)) (fun _ hk => hk.2) (.slice Ao109 x438004_1.length co109)) (fun _ hk => ⟨hk.1.1, ⟨hk.1.2.1, ⟨hk.1.2.2.1, hk.1.2.2.2⟩⟩⟩), by (with_reducible repeat (first | apply Kd.R_alloc | apply Kd.R_drewN | apply Kd.R_drew)); exact Kd.R_mono (Kd.R_far (p := ⟨gb433, 4, none⟩) (Kd.R_far (p := ⟨gb433, 3, none⟩) (Kd.R_far (p := ⟨gb433, 2, none⟩) (Kd.R_far (p := ⟨gb433, 1, none⟩) (Kd.R_far (p := ⟨gb433, 0, none⟩) (Kd.R_types HO_438001.out BK433.out (by decide)) (fun _ hk => hk.2) (.slice Ao104 x438000_1.length co104)) (fun _ hk => hk.2) (.slice Ao106 x438001_1.length co106)) (fun _ hk => hk.2) (.slice Ao107 x438002_1.length co107)) (fun _ hk => hk.2) (.slice Ao108 x438003_1.length co108)) (fun _ hk => hk.2) (.slice Ao109 x438004_1.length co109)) (fun _ hk => ⟨hk.1.1, ⟨hk.1.2.1, ⟨hk.1.2.2.1, hk.1.2.2.2⟩⟩⟩), by (with_reducible repeat (first | apply Kd.R_alloc | apply Kd.R_drewN | apply Kd.R_drew)); exact Kd.R_mono (Kd.R_far (p := ⟨gb433, 4, none⟩) (Kd.R_far (p := ⟨gb433, 3, none⟩) (Kd.R_far (p := ⟨gb433, 2, none⟩) (Kd.R_far (p := ⟨gb433, 1, none⟩) (Kd.R_far (p := ⟨gb433, 0, none⟩) (Kd.R_types HO_438002.out BK433.out (by decide)) (fun _ hk => hk.2) (.slice Ao104 x438000_1.length co104)) (fun _ hk => hk.2) (.slice Ao106 x438001_1.length co106)) (fun _ hk => hk.2) (.slice Ao107 x438002_1.length co107)) (fun _ hk => hk.2) (.slice Ao108 x438003_1.length co108)) (fun _ hk => hk.2) (.slice Ao109 x438004_1.length co109)) (fun _ hk => ⟨hk.1.1, ⟨hk.1.2.1, ⟨hk.1.2.2.1, hk.1.2.2.2⟩⟩⟩), by (with_reducible repeat (first | apply Kd.R_alloc | apply Kd.R_drewN | apply Kd.R_drew)); exact Kd.R_mono (Kd.R_far (p := ⟨gb433, 4, none⟩) (Kd.R_far (p := ⟨gb433, 3, none⟩) (Kd.R_far (p := ⟨gb433, 2, none⟩) (Kd.R_far (p := ⟨gb433, 1, none⟩) (Kd.R_far (p := ⟨gb433, 0, none⟩) (Kd.R_types HO_438003.out BK433.out (by decide)) (fun _ hk => hk.2) (.slice Ao104 x438000_1.length co104)) (fun _ hk => hk.2) (.slice Ao106 x438001_1.length co106)) (fun _ hk => hk.2) (.slice Ao107 x438002_1.length co107)) (fun _ hk => hk.2) (.slice Ao108 x438003_1.length co108)) (fun _ hk => hk.2) (.slice Ao109 x438004_1.length co109)) (fun _ hk => ⟨hk.1.1, ⟨hk.1.2.1, ⟨hk.1.2.2.1, hk.1.2.2.2⟩⟩⟩), by (with_reducible repeat (first | apply Kd.R_alloc | apply Kd.R_drewN | apply Kd.R_drew)); exact Kd.R_mono (Kd.R_far (p := ⟨gb433, 4, none⟩) (Kd.R_far (p := ⟨gb433, 3, none⟩) (Kd.R_far (p := ⟨gb433, 2, none⟩) (Kd.R_far (p := ⟨gb433, 1, none⟩) (Kd.R_far (p := ⟨gb433, 0, none⟩) (Kd.R_types HO_438004.out BK433.out (by decide)) (fun _ hk => hk.2) (.slice Ao104 x438000_1.length co104)) (fun _ hk => hk.2) (.slice Ao106 x438001_1.length co106)) (fun _ hk => hk.2) (.slice Ao107 x438002_1.length co107)) (fun _ hk => hk.2) (.slice Ao108 x438003_1.length co108)) (fun _ hk => hk.2) (.slice Ao109 x438004_1.length co109)) (fun _ hk => ⟨hk.1.1, ⟨hk.1.2.1, ⟨hk.1.2.2.1, hk.1.2.2.2⟩⟩⟩), by repeat (first | (with_reducible first | exact HB.out | apply pA | apply pN | apply pD | refine pS ?_ GE433.out | refine pS ?_ GE437.out) | exact HB.out)⟩
   rw [if_pos c9] at H
   have c9b0 : decide (x14_1 < (a0.size : Int)) = true := decide_eq_true c9
   clear c9
   have HC10 := AZ.mk H
   clear H
   have hnb11 := NB437_433.out
   have hnc11 := NB433_437.out
   have hcz12_0 : wr.cell? ⟨gb437, 0, none⟩ = some (u438000) := (bc BK437.out 0).trans rfl
   have hcz12_1 : wr.cell? ⟨gb437, 1, none⟩ = some (u438001) := (bc BK437.out 1).trans rfl
   have hcz12_2 : wr.cell? ⟨gb437, 2, none⟩ = some (u438002) := (bc BK437.out 2).trans rfl
   have hcz12_3 : wr.cell? ⟨gb437, 3, none⟩ = some (u438003) := (bc BK437.out 3).trans rfl
   have hcz12_4 : wr.cell? ⟨gb437, 4, none⟩ = some (u438004) := (bc BK437.out 4).trans rfl
   have hfz12_0 := bf BK437.out 0
   have hfz12_1 := bf BK437.out 1
   have hfz12_2 := bf BK437.out 2
   have hfz12_3 := bf BK437.out 3
   have hfz12_4 := bf BK437.out 4
   obtain ⟨Ao13, co13, eo13⟩ := Kd.R_slice HO_438002.out
   subst eo13
   go_upto_block 2 with (fail)
   go_cut [6] (fun v6 wc => ∃ (kq : Nat) (x6_9 : Int) (x438000_9 : List Int) (x438001_9 : List Int) (x438002_9 : List Int) (x438003_9 : List Int) (x438004_9 : List Int) (u438000 : Value) (u438001 : Value) (u438002 : Value) (u438003 : Value) (u438004 : Value), v6 = .int .i64 x6_9 ∧ AZ (impl_match.j2 kq a0 x14_1 x14_1 x6_9 (a0.size : Int) x14_1 x438000_9 x438001_9 x438002_9 x438003_9 x438004_9 = some (r1, r2, r3, r4, r5)) ∧ AZ (kq ≤ k1) ∧ AZ (Kd.R (Kd.int .i64) 2 wc w.heap.size (fun k_ => some k_ ≠ (u438001 : Value).ownBlock ∧ some k_ ≠ (u438002 : Value).ownBlock ∧ some k_ ≠ (u438003 : Value).ownBlock ∧ some k_ ≠ (u438004 : Value).ownBlock) u438000 x438000_9) ∧ AZ (Kd.R (Kd.int .i64) 2 wc w.heap.size (fun k_ => some k_ ≠ (u438000 : Value).ownBlock ∧ some k_ ≠ (u438002 : Value).ownBlock ∧ some k_ ≠ (u438003 : Value).ownBlock ∧ some k_ ≠ (u438004 : Value).ownBlock) u438001 x438001_9) ∧ AZ (Kd.R (Kd.int .i64) 2 wc w.heap.size (fun k_ => some k_ ≠ (u438000 : Value).ownBlock ∧ some k_ ≠ (u438001 : Value).ownBlock ∧ some k_ ≠ (u438003 : Value).ownBlock ∧ some k_ ≠ (u438004 : Value).ownBlock) u438002 x438002_9) ∧ AZ (Kd.R (Kd.int .i64) 2 wc w.heap.size (fun k_ => some k_ ≠ (u438000 : Value).ownBlock ∧ some k_ ≠ (u438001 : Value).ownBlock ∧ some k_ ≠ (u438002 : Value).ownBlock ∧ some k_ ≠ (u438004 : Value).ownBlock) u438003 x438003_9) ∧ AZ (Kd.R (Kd.int .i64) 2 wc w.heap.size (fun k_ => some k_ ≠ (u438000 : Value).ownBlock ∧ some k_ ≠ (u438001 : Value).ownBlock ∧ some k_ ≠ (u438002 : Value).ownBlock ∧ some k_ ≠ (u438003 : Value).ownBlock) u438004 x438004_9) ∧ AZ (wc.heap[gb433]? = some (.cells #[(.slice none 0 0), (.slice none 0 0), (.slice none 0 0), (.slice none 0 0), (.slice none 0 0)] 91 (0, 0))) ∧ AZ (wc.heap[gb437]? = some (.cells #[u438000, u438001, u438002, u438003, u438004] 91 (0, 0))) ∧ AZ (Below w.heap.size w wc))
   case first =>
    have H := HC10.out
    clear HC10
    have HC14 := AZ.mk H
    clear H
    go_upto_region 7 with (fail)
    go_cut [21] (fun v21 wc => ∃ (kq : Nat) (x21_13 : Bool), v21 = .bool x21_13 ∧ AZ (impl_match.j1 kq a0 x14_1 x14_1 (-1) (x438002_1.length : Int) (a0.size : Int) x14_1 x21_13 x438000_1 x438001_1 x438002_1 x438003_1 x438004_1 = some (r1, r2, r3, r4, r5)) ∧ AZ (kq ≤ k1) ∧ AZ (Kd.R (Kd.int .i64) 2 wc w.heap.size (fun k_ => some k_ ≠ (u438001 : Value).ownBlock ∧ some k_ ≠ ((.slice Ao13 x438002_1.length co13) : Value).ownBlock ∧ some k_ ≠ (u438003 : Value).ownBlock ∧ some k_ ≠ (u438004 : Value).ownBlock) u438000 x438000_1) ∧ AZ (Kd.R (Kd.int .i64) 2 wc w.heap.size (fun k_ => some k_ ≠ (u438000 : Value).ownBlock ∧ some k_ ≠ ((.slice Ao13 x438002_1.length co13) : Value).ownBlock ∧ some k_ ≠ (u438003 : Value).ownBlock ∧ some k_ ≠ (u438004 : Value).ownBlock) u438001 x438001_1) ∧ AZ (Kd.R (Kd.int .i64) 2 wc w.heap.size (fun k_ => some k_ ≠ (u438000 : Value).ownBlock ∧ some k_ ≠ (u438001 : Value).ownBlock ∧ some k_ ≠ (u438003 : Value).ownBlock ∧ some k_ ≠ (u438004 : Value).ownBlock) (.slice Ao13 x438002_1.length co13) x438002_1) ∧ AZ (Kd.R (Kd.int .i64) 2 wc w.heap.size (fun k_ => some k_ ≠ (u438000 : Value).ownBlock ∧ some k_ ≠ (u438001 : Value).ownBlock ∧ some k_ ≠ ((.slice Ao13 x438002_1.length co13) : Value).ownBlock ∧ some k_ ≠ (u438004 : Value).ownBlock) u438003 x438003_1) ∧ AZ (Kd.R (Kd.int .i64) 2 wc w.heap.size (fun k_ => some k_ ≠ (u438000 : Value).ownBlock ∧ some k_ ≠ (u438001 : Value).ownBlock ∧ some k_ ≠ ((.slice Ao13 x438002_1.length co13) : Value).ownBlock ∧ some k_ ≠ (u438003 : Value).ownBlock) u438004 x438004_1) ∧ AZ (wc.heap[gb433]? = some (.cells #[(.slice none 0 0), (.slice none 0 0), (.slice none 0 0), (.slice none 0 0), (.slice none 0 0)] 91 (0, 0))) ∧ AZ (wc.heap[gb437]? = some (.cells #[u438000, u438001, (.slice Ao13 x438002_1.length co13), u438003, u438004] 91 (0, 0))) ∧ AZ (Below w.heap.size w wc))
    case first =>
     have H := HC14.out
     clear HC14
     by_cases c15 : 0 ≤ x14_1
     rotate_left
     ·rw [if_neg c15] at H
      exact absurd H (by simp)
     rw [if_pos c15] at H
     have c15b0 : decide (0 ≤ x14_1) = true := decide_eq_true c15
     clear c15
     (first | rw [c15b0] | rw [c15b1] | (simp only [i64_w, i32_w]; rw [c15b0]) | skip)
     by_cases c16 : x14_1 < (a0.size : Int)
     rotate_left
     ·rw [if_neg c16] at H
      exact absurd H (by simp)
     rw [if_pos c16] at H
     have c16b0 : decide (x14_1 < (a0.size : Int)) = true := decide_eq_true c16
     clear c16
     replace H := Option.bind_eq_some_iff.mp H
     obtain ⟨t438, A180, H⟩ := H
     replace H : (if t438 = true then (impl_match.j1 k1 a0 x14_1 x14_1 (-1) (x438002_1.length : Int) (a0.size : Int) x14_1 ((x438002_1.length : Int) == 0) x438000_1 x438001_1 x438002_1 x438003_1 x438004_1) else (impl_match.j1 k1 a0 x14_1 x14_1 (-1) (x438002_1.length : Int) (a0.size : Int) x14_1 false x438000_1 x438001_1 x438002_1 x438003_1 x438004_1)) = some (r1, r2, r3, r4, r5) := H
     have A18 := AZ.mk A180
     clear A180
     by_cases c19 : t438 = true
     ·subst c19
      have H1 : (impl_match.j1 k1 a0 x14_1 x14_1 (-1) (x438002_1.length : Int) (a0.size : Int) x14_1 ((x438002_1.length : Int) == 0) x438000_1 x438001_1 x438002_1 x438003_1 x438004_1) = some (r1, r2, r3, r4, r5) := by rw [if_pos rfl] at H; exact H
      clear H
      have H := H1
      clear H1
      have H' := AZ.mk H
      clear H
      have p17 : 0 ≤ (x14_1 : Int) := oT (by first | (with_reducible assumption) | assumption)
      have q17 : x14_1 < (a0.size : Int) := oT (by first | (with_reducible assumption) | assumption)
      have hx17 := bt_at a0 x14_1
      replace p17 := eq_true p17
      replace q17 := eq_true q17
      go_wp2_with (first | ((with_reducible refine gate_callee (f := 78) rfl ?_); refine goesL_ (some 25) rfl rfl Try.func78 (by kernel_rfl) rfl #[.int .u8 (bt a0 x14_1)] rfl (by (try simp only [List.map_toArray, List.map_cons, List.map_nil]); first | done | rfl | (simp only [List.length_drop, List.length_take]; rfl)) ?_; (with_reducible refine (impl_isReturn.calls (bt a0 x14_1) true _ A18.out).mono ?_); rintro e w' ⟨rfl, ⟨nd, rfl⟩⟩; refine ⟨_, rfl, ?_⟩))
      go_meet
      case rel => exact ⟨_, (((x438002_1.length : Int) == 0)), (by first | rfl | (simp; done) | (simp [*]; done)), H', ⟨by have := HK1.out; first | omega | exact Nat.le_refl _⟩, ⟨by (with_reducible repeat (first | apply Kd.R_alloc | apply Kd.R_drewN | apply Kd.R_drew)); exact HO_438000.out⟩, ⟨by (with_reducible repeat (first | apply Kd.R_alloc | apply Kd.R_drewN | apply Kd.R_drew)); exact HO_438001.out⟩, ⟨by (with_reducible repeat (first | apply Kd.R_alloc | apply Kd.R_drewN | apply Kd.R_drew)); exact HO_438002.out⟩, ⟨by (with_reducible repeat (first | apply Kd.R_alloc | apply Kd.R_drewN | apply Kd.R_drew)); exact HO_438003.out⟩, ⟨by (with_reducible repeat (first | apply Kd.R_alloc | apply Kd.R_drewN | apply Kd.R_drew)); exact HO_438004.out⟩, ⟨by (with_reducible repeat (first | refine bn_ ?_ _ | refine bd_ ?_ | refine ba_ ?_ _)); exact BK433.out⟩, ⟨by (with_reducible repeat (first | refine bn_ ?_ _ | refine bd_ ?_ | refine ba_ ?_ _)); exact BK437.out⟩, ⟨by repeat (first | (with_reducible first | exact HB.out | apply pA | apply pN | apply pD | refine pS ?_ GE433.out | refine pS ?_ GE437.out) | exact HB.out)⟩⟩
     replace c19 := Bool.eq_false_iff.mpr c19
     subst c19
     have H1 : (impl_match.j1 k1 a0 x14_1 x14_1 (-1) (x438002_1.length : Int) (a0.size : Int) x14_1 false x438000_1 x438001_1 x438002_1 x438003_1 x438004_1) = some (r1, r2, r3, r4, r5) := by rw [if_neg (show ¬ (false = true) by decide)] at H; exact H
     clear H
     have H := H1
     clear H1
     have H' := AZ.mk H
     clear H
     have p17 : 0 ≤ (x14_1 : Int) := oT (by first | (with_reducible assumption) | assumption)
     have q17 : x14_1 < (a0.size : Int) := oT (by first | (with_reducible assumption) | assumption)
     have hx17 := bt_at a0 x14_1
     replace p17 := eq_true p17
     replace q17 := eq_true q17
     go_wp2_with (first | ((with_reducible refine gate_callee (f := 78) rfl ?_); refine goesL_ (some 25) rfl rfl Try.func78 (by kernel_rfl) rfl #[.int .u8 (bt a0 x14_1)] rfl (by (try simp only [List.map_toArray, List.map_cons, List.map_nil]); first | done | rfl | (simp only [List.length_drop, List.length_take]; rfl)) ?_; (with_reducible refine (impl_isReturn.calls (bt a0 x14_1) false _ A18.out).mono ?_); rintro e w' ⟨rfl, ⟨nd, rfl⟩⟩; refine ⟨_, rfl, ?_⟩))
     go_meet
     case rel => exact ⟨_, (false), (by first | rfl | (simp; done) | (simp [*]; done)), H', ⟨by have := HK1.out; first | omega | exact Nat.le_refl _⟩, ⟨by (with_reducible repeat (first | apply Kd.R_alloc | apply Kd.R_drewN | apply Kd.R_drew)); exact HO_438000.out⟩, ⟨by (with_reducible repeat (first | apply Kd.R_alloc | apply Kd.R_drewN | apply Kd.R_drew)); exact HO_438001.out⟩, ⟨by (with_reducible repeat (first | apply Kd.R_alloc | apply Kd.R_drewN | apply Kd.R_drew)); exact HO_438002.out⟩, ⟨by (with_reducible repeat (first | apply Kd.R_alloc | apply Kd.R_drewN | apply Kd.R_drew)); exact HO_438003.out⟩, ⟨by (with_reducible repeat (first | apply Kd.R_alloc | apply Kd.R_drewN | apply Kd.R_drew)); exact HO_438004.out⟩, ⟨by (with_reducible repeat (first | refine bn_ ?_ _ | refine bd_ ?_ | refine ba_ ?_ _)); exact BK433.out⟩, ⟨by (with_reducible repeat (first | refine bn_ ?_ _ | refine bd_ ?_ | refine ba_ ?_ _)); exact BK437.out⟩, ⟨by repeat (first | (with_reducible first | exact HB.out | apply pA | apply pN | apply pD | refine pS ?_ GE433.out | refine pS ?_ GE437.out) | exact HB.out)⟩⟩
    case rest =>
     clear HC14
     try clear c1
     try clear p1
     try clear q1
     try clear hx1
     try clear p2
     try clear c6
     try clear c7
     try clear c9
     try clear c9b0
     try clear c11
     try clear c15
     try clear c15b0
     try clear c15b1
     try clear c16
     try clear c16b0
     try clear p17
     try clear q17
     try clear hx17
     try clear c19
     try clear hcz12_0
     try clear hcz12_1
     try clear hcz12_2
     try clear hcz12_3
     try clear hcz12_4
     try clear hcz8_0
     try clear hcz8_1
     try clear hcz8_2
     try clear hcz8_3
     try clear hcz8_4
     try clear hfz12_0
     try clear hfz12_1
     try clear hfz12_2
     try clear hfz12_3
     try clear hfz12_4
     try clear hfz8_0
     try clear hfz8_1
     try clear hfz8_2
     try clear hfz8_3
     try clear hfz8_4
     try clear p17
     try clear p2
     try clear q17
     obtain ⟨kq, x21_13, rfl, HA, HJ13, HO_438000, HO_438001, HO_438002, HO_438003, HO_438004, BK433, BK437, HB⟩ := hcut
     cases kq with
     | zero => exact absurd HA.out (by simp [impl_match.j1])
     | succ kj13 =>
      have H := HA.out
      clear HA
      simp only [impl_match.j1] at H
      by_cases c20 : x21_13 = true
      ·subst c20
       have H1 : ((some (([x14_1] : List Int) : List Int)).bind fun y439 => (if x438001_1.length + y439.length < 17592186044416 then (impl_match.j2 kj13 a0 x14_1 x14_1 (-2) (a0.size : Int) x14_1 x438000_1 (x438001_1 ++ y439) x438002_1 x438003_1 x438004_1) else (none))) = some (r1, r2, r3, r4, r5) := by rw [if_pos rfl] at H; exact H
       clear H
       have H := H1
       clear H1
       obtain ⟨y439, hy439⟩ : ∃ y_ : List Int, y_ = (([x14_1] : List Int)) := ⟨_, rfl⟩
       replace H : (if x438001_1.length + y439.length < 17592186044416 then (impl_match.j2 kj13 a0 x14_1 x14_1 (-2) (a0.size : Int) x14_1 x438000_1 (x438001_1 ++ y439) x438002_1 x438003_1 x438004_1) else (none)) = some (r1, r2, r3, r4, r5) := by first | (rw [hy439]; with_reducible exact H) | (have H2_ := (Option.bind_some _ _).symm.trans H; rw [hy439]; with_reducible exact H2_) | (have H2_ := (Option.bind_some _ _).symm.trans H; with_reducible exact H2_) | with_reducible exact H | (rw [hy439]; exact H) | exact H
       have Ny439 := AZ.mk hy439
       clear hy439
       by_cases c21 : x438001_1.length + y439.length < 17592186044416
       rotate_left
       ·rw [if_neg c21] at H
        exact absurd H (by simp)
       rw [if_pos c21] at H
       have LMc21 := AZ.mk c21
       clear c21
       obtain ⟨y442, hy442⟩ : ∃ y_ : List Int, y_ = (x438001_1 ++ y439) := ⟨_, rfl⟩
       replace H : (impl_match.j2 kj13 a0 x14_1 x14_1 (-2) (a0.size : Int) x14_1 x438000_1 y442 x438002_1 x438003_1 x438004_1) = some (r1, r2, r3, r4, r5) := by first | (rw [hy442]; with_reducible exact H) | (have H2_ := (Option.bind_some _ _).symm.trans H; rw [hy442]; with_reducible exact H2_) | (have H2_ := (Option.bind_some _ _).symm.trans H; with_reducible exact H2_) | with_reducible exact H | (rw [hy442]; exact H) | exact H
       have Ny442 := AZ.mk hy442
       clear hy442
       have H' := AZ.mk H
       clear H
       have hnb22 := NB437_433.out
       have hnc22 := NB433_437.out
       have hcz23_0 : wc.cell? ⟨gb437, 0, none⟩ = some (u438000) := (bc BK437.out 0).trans rfl
       have hcz23_1 : wc.cell? ⟨gb437, 1, none⟩ = some (u438001) := (bc BK437.out 1).trans rfl
       have hcz23_2 : wc.cell? ⟨gb437, 2, none⟩ = some (.slice Ao13 x438002_1.length co13) := (bc BK437.out 2).trans rfl
       have hcz23_3 : wc.cell? ⟨gb437, 3, none⟩ = some (u438003) := (bc BK437.out 3).trans rfl
       have hcz23_4 : wc.cell? ⟨gb437, 4, none⟩ = some (u438004) := (bc BK437.out 4).trans rfl
       have hfz23_0 := bf BK437.out 0
       have hfz23_1 := bf BK437.out 1
       have hfz23_2 := bf BK437.out 2
       have hfz23_3 := bf BK437.out 3
       have hfz23_4 := bf BK437.out 4
       go_wp2_with (first | ((with_reducible refine gate_dst (N := 33) rfl ?_); refine Kd.R_lit (Kd.int .i64) _ 2 ?hg (N := 33) ?hd (xs := ([x14_1] : List Int)) (inner := [.int .i64 x14_1]) (ok := fun _ => True) (okp := fun _ => True) ?hr ?hp (fun _ hk => hk) trivial (Below.refl _ _) (Nat.le_refl _) (by simp) ?_; (case hd => rfl); (case hg => rfl); (case hr => first | (go_simp; done) | (go_simp; rfl)); (case hp => exact (Reps.one (show Kd.M (Kd.int .i64) _ _ _ x14_1 [.int .i64 x14_1] from rfl) (Reps.none _ _))); intro v440 w24 ho25 hb hg_ hnew_; clear hg_ hnew_; (first | rw [← Ny439.out] at ho25 | (simp only [Int.reduceToNat] at ho25; rw [← Ny439.out] at ho25)); have n0_ := AZ.mk (Kd.R_elder' (by (with_reducible repeat (first | apply Kd.R_alloc | apply Kd.R_drewN | apply Kd.R_drew)); exact HO_438000.out) (Kd.R_base ho25) hb); have n1_ := AZ.mk (Kd.R_elder' (by (with_reducible repeat (first | apply Kd.R_alloc | apply Kd.R_drewN | apply Kd.R_drew)); exact HO_438001.out) (Kd.R_base ho25) hb); have n2_ := AZ.mk (Kd.R_elder' (by (with_reducible repeat (first | apply Kd.R_alloc | apply Kd.R_drewN | apply Kd.R_drew)); exact HO_438002.out) (Kd.R_base ho25) hb); have n3_ := AZ.mk (Kd.R_elder' (by (with_reducible repeat (first | apply Kd.R_alloc | apply Kd.R_drewN | apply Kd.R_drew)); exact HO_438003.out) (Kd.R_base ho25) hb); have n4_ := AZ.mk (Kd.R_elder' (by (with_reducible repeat (first | apply Kd.R_alloc | apply Kd.R_drewN | apply Kd.R_drew)); exact HO_438004.out) (Kd.R_base ho25) hb); have n5_ := AZ.mk (Kd.R_lower (Kd.R_new' (Kd.R_new' (Kd.R_new' (Kd.R_new' (Kd.R_new' ho25 (Kd.R_lt (by (with_reducible repeat (first | apply Kd.R_alloc | apply Kd.R_drewN | apply Kd.R_drew)); exact HO_438000.out))) (Kd.R_lt (by (with_reducible repeat (first | apply Kd.R_alloc | apply Kd.R_drewN | apply Kd.R_drew)); exact HO_438001.out))) (Kd.R_lt (by (with_reducible repeat (first | apply Kd.R_alloc | apply Kd.R_drewN | apply Kd.R_drew)); exact HO_438002.out))) (Kd.R_lt (by (with_reducible repeat (first | apply Kd.R_alloc | apply Kd.R_drewN | apply Kd.R_drew)); exact HO_438003.out))) (Kd.R_lt (by (with_reducible repeat (first | apply Kd.R_alloc | apply Kd.R_drewN | apply Kd.R_drew)); exact HO_438004.out))) (pZ (by repeat (first | (with_reducible first | exact HB.out | apply pA | apply pN | apply pD | refine pS ?_ GE433.out | refine pS ?_ GE437.out) | exact HB.out)))); have n6_ := AZ.mk (bb_ (g := gb433) (o := .cells #[.slice none 0 0, .slice none 0 0, .slice none 0 0, .slice none 0 0, .slice none 0 0] 91 (0, 0)) (by (with_reducible repeat (first | refine bn_ ?_ _ | refine bd_ ?_ | refine ba_ ?_ _)); exact BK433.out) hb); have n7_ := AZ.mk (bb_ (g := gb437) (o := .cells #[u438000, u438001, .slice Ao13 x438002_1.length co13, u438003, u438004] 91 (0, 0)) (by (with_reducible repeat (first | refine bn_ ?_ _ | refine bd_ ?_ | refine ba_ ?_ _)); exact BK437.out) hb); have n8_ := AZ.mk (pT (by repeat (first | (with_reducible first | exact HB.out | apply pA | apply pN | apply pD | refine pS ?_ GE433.out | refine pS ?_ GE437.out) | exact HB.out)) hb); clear HO_438000; clear HO_438001; clear HO_438002; clear HO_438003; clear HO_438004; clear BK433; clear BK437; clear HB; have HO_438000 := n0_; have HO_438001 := n1_; have HO_438002 := n2_; have HO_438003 := n3_; have HO_438004 := n4_; have HO441 := n5_; have BK433 := n6_; have BK437 := n7_; have HB := n8_; clear n0_ n1_ n2_ n3_ n4_ n5_ n6_ n7_ n8_; clear hb ho25; obtain ⟨Ao27, co27, eo27⟩ := Kd.R_slice HO441.out; subst eo27) | ((with_reducible refine gate_builtin (b := .append) (xs := #[.tmp 31, .tmp 33]) rfl ?_); at_builtin; refine Kd.R_append_rows (Kd.int .i64) (w0 := w) w.heap.size rfl (.tmp 31) (.tmp 33) 23 2 (.int .i64 0) 8 rfl Try.underlying23 info2 rfl (by decide) (by omega) u438001 x438001_1 y439 _ _ _ (fun k_ => some k_ ≠ (u438000 : Value).ownBlock ∧ some k_ ≠ (.slice Ao13 x438002_1.length co13 : Value).ownBlock ∧ some k_ ≠ (u438003 : Value).ownBlock ∧ some k_ ≠ (u438004 : Value).ownBlock ∧ some k_ ≠ (.slice Ao27 y439.length co27 : Value).ownBlock) (fun _ => False) rfl rfl ?aO ?aR (fun _ _ h => h) (fun _ h => h.elim) ?aF ?aB ?aS ?aL ?_; (case aR => repeat (first | exact (Kd.R_reads' HO441.out).2.2 | (with_reducible refine Kd.C_alloc ?_ _) | (with_reducible refine Kd.C_drewN ?_ _) | (with_reducible refine Kd.C_drew ?_))); (case aB => exact (by repeat (first | (with_reducible first | exact HB.out | apply pA | apply pN | apply pD | refine pS ?_ GE433.out | refine pS ?_ GE437.out) | exact HB.out))); (case aF => exact (fun k_ hk => ⟨Kd.fresh' (Kd.R_lt (by (with_reducible repeat (first | apply Kd.R_alloc | apply Kd.R_drewN | apply Kd.R_drew)); exact HO_438000.out)) k_ hk, Kd.fresh' (Kd.R_lt (by (with_reducible repeat (first | apply Kd.R_alloc | apply Kd.R_drewN | apply Kd.R_drew)); exact HO_438002.out)) k_ hk, Kd.fresh' (Kd.R_lt (by (with_reducible repeat (first | apply Kd.R_alloc | apply Kd.R_drewN | apply Kd.R_drew)); exact HO_438003.out)) k_ hk, Kd.fresh' (Kd.R_lt (by (with_reducible repeat (first | apply Kd.R_alloc | apply Kd.R_drewN | apply Kd.R_drew)); exact HO_438004.out)) k_ hk, Kd.fresh' (Kd.R_lt (by (with_reducible repeat (first | apply Kd.R_alloc | apply Kd.R_drewN | apply Kd.R_drew)); exact HO441.out)) k_ hk⟩)); (case aO => exact (by (with_reducible repeat (first | apply Kd.R_alloc | apply Kd.R_drewN | apply Kd.R_drew)); exact Kd.R_mono HO_438001.out (fun _ hk => ⟨hk.1.1, ⟨hk.1.2.1, ⟨hk.1.2.2.1, ⟨hk.1.2.2.2, hk.2⟩⟩⟩⟩))); (case aS => exact (pZ (by repeat (first | (with_reducible first | exact HB.out | apply pA | apply pN | apply pD | refine pS ?_ GE433.out | refine pS ?_ GE437.out) | exact HB.out)))); (case aL => have := LMc21.out; omega); intro v443 w26 ho hb hg hat; rw [← Ny442.out] at ho; have n0_ := AZ.mk (Kd.R_after (ok := (fun k_ => some k_ ≠ (.slice Ao13 x438002_1.length co13 : Value).ownBlock ∧ some k_ ≠ (u438003 : Value).ownBlock ∧ some k_ ≠ (u438004 : Value).ownBlock ∧ some k_ ≠ (.slice Ao27 y439.length co27 : Value).ownBlock)) (by (with_reducible repeat (first | apply Kd.R_alloc | apply Kd.R_drewN | apply Kd.R_drew)); exact Kd.R_mono HO_438000.out (fun _ hk => ⟨⟨hk.1.2.1, ⟨hk.1.2.2.1, ⟨hk.1.2.2.2, hk.2⟩⟩⟩, hk.1.1⟩)) hg hat); have n1_ := AZ.mk (Kd.R_after (ok := (fun k_ => some k_ ≠ (u438000 : Value).ownBlock ∧ some k_ ≠ (u438003 : Value).ownBlock ∧ some k_ ≠ (u438004 : Value).ownBlock ∧ some k_ ≠ (.slice Ao27 y439.length co27 : Value).ownBlock)) (by (with_reducible repeat (first | apply Kd.R_alloc | apply Kd.R_drewN | apply Kd.R_drew)); exact Kd.R_mono HO_438002.out (fun _ hk => ⟨⟨hk.1.1, ⟨hk.1.2.2.1, ⟨hk.1.2.2.2, hk.2⟩⟩⟩, hk.1.2.1⟩)) hg hat); have n2_ := AZ.mk (Kd.R_after (ok := (fun k_ => some k_ ≠ (u438000 : Value).ownBlock ∧ some k_ ≠ (.slice Ao13 x438002_1.length co13 : Value).ownBlock ∧ some k_ ≠ (u438004 : Value).ownBlock ∧ some k_ ≠ (.slice Ao27 y439.length co27 : Value).ownBlock)) (by (with_reducible repeat (first | apply Kd.R_alloc | apply Kd.R_drewN | apply Kd.R_drew)); exact Kd.R_mono HO_438003.out (fun _ hk => ⟨⟨hk.1.1, ⟨hk.1.2.2.1, ⟨hk.1.2.2.2, hk.2⟩⟩⟩, hk.1.2.1⟩)) hg hat); have n3_ := AZ.mk (Kd.R_after (ok := (fun k_ => some k_ ≠ (u438000 : Value).ownBlock ∧ some k_ ≠ (.slice Ao13 x438002_1.length co13 : Value).ownBlock ∧ some k_ ≠ (u438003 : Value).ownBlock ∧ some k_ ≠ (.slice Ao27 y439.length co27 : Value).ownBlock)) (by (with_reducible repeat (first | apply Kd.R_alloc | apply Kd.R_drewN | apply Kd.R_drew)); exact Kd.R_mono HO_438004.out (fun _ hk => ⟨⟨hk.1.1, ⟨hk.1.2.2.1, ⟨hk.1.2.2.2, hk.2⟩⟩⟩, hk.1.2.1⟩)) hg hat); have n4_ := AZ.mk (blk_grown (g := gb433) (o := .cells #[.slice none 0 0, .slice none 0 0, .slice none 0 0, .slice none 0 0, .slice none 0 0] 91 (0, 0)) (by (with_reducible repeat (first | refine bn_ ?_ _ | refine bd_ ?_ | refine ba_ ?_ _)); exact BK433.out) hg (Kd.R_ne HO_438001.out BK433.out (by decide))); have n5_ := AZ.mk (blk_grown (g := gb437) (o := .cells #[u438000, u438001, .slice Ao13 x438002_1.length co13, u438003, u438004] 91 (0, 0)) (by (with_reducible repeat (first | refine bn_ ?_ _ | refine bd_ ?_ | refine ba_ ?_ _)); exact BK437.out) hg (Kd.R_ne HO_438001.out BK437.out (by decide))); have n6_ := AZ.mk (Kd.R_after (ok := (fun k_ => some k_ ≠ (u438000 : Value).ownBlock ∧ some k_ ≠ (.slice Ao13 x438002_1.length co13 : Value).ownBlock ∧ some k_ ≠ (u438003 : Value).ownBlock ∧ some k_ ≠ (u438004 : Value).ownBlock)) (by (with_reducible repeat (first | apply Kd.R_alloc | apply Kd.R_drewN | apply Kd.R_drew)); exact Kd.R_mono HO441.out (fun _ hk => ⟨⟨hk.1.1.1.1.2, ⟨hk.1.1.2, ⟨hk.1.2, hk.2⟩⟩⟩, hk.1.1.1.2⟩)) hg hat); have n7_ := AZ.mk (hb); have n8_ := AZ.mk (ho); clear HO_438000; clear HO_438002; clear HO_438003; clear HO_438004; clear BK433; clear BK437; clear HO441; clear HB; clear HO_438001; have HO_438000 := n0_; have HO_438002 := n1_; have HO_438003 := n2_; have HO_438004 := n3_; have BK433 := n4_; have BK437 := n5_; have HO441 := n6_; have HB := n7_; have HO444 := n8_; clear n0_ n1_ n2_ n3_ n4_ n5_ n6_ n7_ n8_; clear ho hb hg hat; obtain ⟨Ao28, co28, eo28⟩ := Kd.R_slice HO444.out; subst eo28; have hcz29_0 : w26.cell? ⟨gb437, 0, none⟩ = some (u438000) := (bc BK437.out 0).trans rfl; have hcz29_1 : w26.cell? ⟨gb437, 1, none⟩ = some (u438001) := (bc BK437.out 1).trans rfl; have hcz29_2 : w26.cell? ⟨gb437, 2, none⟩ = some (.slice Ao13 x438002_1.length co13) := (bc BK437.out 2).trans rfl; have hcz29_3 : w26.cell? ⟨gb437, 3, none⟩ = some (u438003) := (bc BK437.out 3).trans rfl; have hcz29_4 : w26.cell? ⟨gb437, 4, none⟩ = some (u438004) := (bc BK437.out 4).trans rfl; have hfz29_0 := bf BK437.out 0; have hfz29_1 := bf BK437.out 1; have hfz29_2 := bf BK437.out 2; have hfz29_3 := bf BK437.out 3; have hfz29_4 := bf BK437.out 4))
       go_meet
       case rel => exact ⟨_, ((-2)), (x438000_1), (y442), (x438002_1), (x438003_1), (x438004_1), (u438000), (.slice Ao28 y442.length co28), (.slice Ao13 x438002_1.length co13), (u438003), (u438004), (by first | rfl | (simp; done) | (simp [*]; done)), H', ⟨by have := HK1.out; have := HJ13.out; first | omega | exact Nat.le_refl _⟩, ⟨by (with_reducible repeat (first | apply Kd.R_alloc | apply Kd.R_drewN | apply Kd.R_drew)); exact Kd.R_mono (Kd.R_far (p := ⟨gb437, 1, none⟩) (Kd.R_types HO_438000.out BK437.out (by decide)) (fun _ hk => hk.2) (.slice Ao28 y442.length co28)) (fun _ hk => ⟨hk.1.2, ⟨hk.1.1.1, ⟨hk.1.1.2.1, hk.1.1.2.2.1⟩⟩⟩)⟩, ⟨by (with_reducible repeat (first | apply Kd.R_alloc | apply Kd.R_drewN | apply Kd.R_drew)); exact Kd.R_mono (Kd.R_far (p := ⟨gb437, 1, none⟩) (Kd.R_types HO444.out BK437.out (by decide)) (fun _ hk => hk.2) (.slice Ao28 y442.length co28)) (fun _ hk => ⟨hk.1.1, ⟨hk.1.2.1, ⟨hk.1.2.2.1, hk.1.2.2.2.1⟩⟩⟩)⟩, ⟨by (with_reducible repeat (first | apply Kd.R_alloc | apply Kd.R_drewN | apply Kd.R_drew)); exact Kd.R_mono (Kd.R_far (p := ⟨gb437, 1, none⟩) (Kd.R_types HO_438002.out BK437.out (by decide)) (fun _ hk => hk.2) (.slice Ao28 y442.length co28)) (fun _ hk => ⟨hk.1.1.1, ⟨hk.1.2, ⟨hk.1.1.2.1, hk.1.1.2.2.1⟩⟩⟩)⟩, ⟨by (with_reducible repeat (first | apply Kd.R_alloc | apply Kd.R_drewN | apply Kd.R_drew)); exact Kd.R_mono (Kd.R_far (p := ⟨gb437, 1, none⟩) (Kd.R_types HO_438003.out BK437.out (by decide)) (fun _ hk => hk.2) (.slice Ao28 y442.length co28)) (fun _ hk => ⟨hk.1.1.1, ⟨hk.1.2, ⟨hk.1.1.2.1, hk.1.1.2.2.1⟩⟩⟩)⟩, ⟨by (with_reducible repeat (first | apply Kd.R_alloc | apply Kd.R_drewN | apply Kd.R_drew)); exact Kd.R_mono (Kd.R_far (p := ⟨gb437, 1, none⟩) (Kd.R_types HO_438004.out BK437.out (by decide)) (fun _ hk => hk.2) (.slice Ao28 y442.length co28)) (fun _ hk => ⟨hk.1.1.1, ⟨hk.1.2, ⟨hk.1.1.2.1, hk.1.1.2.2.1⟩⟩⟩)⟩, ⟨by (with_reducible repeat (first | refine bn_ ?_ _ | refine bd_ ?_ | refine ba_ ?_ _)); refine blk_far ?_ NB433_437.out _; (with_reducible repeat (first | refine bn_ ?_ _ | refine bd_ ?_ | refine ba_ ?_ _)); exact BK433.out⟩, ⟨by (with_reducible repeat (first | refine bn_ ?_ _ | refine bd_ ?_ | refine ba_ ?_ _)); refine blk_put (cs := #[u438000, u438001, .slice Ao13 x438002_1.length co13, u438003, u438004]) ?_ 1 _ rfl; (with_reducible repeat (first | refine bn_ ?_ _ | refine bd_ ?_ | refine ba_ ?_ _)); exact BK437.out⟩, ⟨by repeat (first | (with_reducible first | exact HB.out | apply pA | apply pN | apply pD | refine pS ?_ GE433.out | refine pS ?_ GE437.out) | exact HB.out)⟩⟩
      replace c20 := Bool.eq_false_iff.mpr c20
      subst c20
      have H1 : (if 0 ≤ x14_1 then (if x14_1 < (a0.size : Int) then ((impl_isReturn.f (bt a0 x14_1)).bind fun t445 => (if t445 = true then (if 0 ≤ (wrap64 ((x438002_1.length : Int) - 1)) then (if (wrap64 ((x438002_1.length : Int) - 1)) < (x438002_1.length : Int) then (if 0 ≤ (rd x438002_1 (wrap64 ((x438002_1.length : Int) - 1))) then (if (rd x438002_1 (wrap64 ((x438002_1.length : Int) - 1))) < (x438000_1.length : Int) then (if (wrap64 ((x438002_1.length : Int) - 1)) ≤ (x438002_1.length : Int) then (impl_match.j2 kj13 a0 x14_1 x14_1 (rd x438002_1 (wrap64 ((x438002_1.length : Int) - 1))) (a0.size : Int) x14_1 (x438000_1.set ((rd x438002_1 (wrap64 ((x438002_1.length : Int) - 1))) : Int).toNat x14_1) x438001_1 (x438002_1.take ((wrap64 ((x438002_1.length : Int) - 1)) : Int).toNat) x438003_1 x438004_1) else (none)) else (none)) else (none)) else (none)) else (none)) else (impl_match.j2 kj13 a0 x14_1 x14_1 (-1) (a0.size : Int) x14_1 x438000_1 x438001_1 x438002_1 x438003_1 x438004_1))) else (none)) else (none)) = some (r1, r2, r3, r4, r5) := by rw [if_neg (show ¬ (false = true) by decide)] at H; exact H
      clear H
      have H := H1
      clear H1
      by_cases c30 : 0 ≤ x14_1
      rotate_left
      ·rw [if_neg c30] at H
       exact absurd H (by simp)
      rw [if_pos c30] at H
      have c30b0 : decide (0 ≤ x14_1) = true := decide_eq_true c30
      clear c30
      by_cases c31 : x14_1 < (a0.size : Int)
      rotate_left
      ·rw [if_neg c31] at H
       exact absurd H (by simp)
      rw [if_pos c31] at H
      have c31b0 : decide (x14_1 < (a0.size : Int)) = true := decide_eq_true c31
      clear c31
      replace H := Option.bind_eq_some_iff.mp H
      obtain ⟨t445, A330, H⟩ := H
      replace H : (if t445 = true then (if 0 ≤ (wrap64 ((x438002_1.length : Int) - 1)) then (if (wrap64 ((x438002_1.length : Int) - 1)) < (x438002_1.length : Int) then (if 0 ≤ (rd x438002_1 (wrap64 ((x438002_1.length : Int) - 1))) then (if (rd x438002_1 (wrap64 ((x438002_1.length : Int) - 1))) < (x438000_1.length : Int) then (if (wrap64 ((x438002_1.length : Int) - 1)) ≤ (x438002_1.length : Int) then (impl_match.j2 kj13 a0 x14_1 x14_1 (rd x438002_1 (wrap64 ((x438002_1.length : Int) - 1))) (a0.size : Int) x14_1 (x438000_1.set ((rd x438002_1 (wrap64 ((x438002_1.length : Int) - 1))) : Int).toNat x14_1) x438001_1 (x438002_1.take ((wrap64 ((x438002_1.length : Int) - 1)) : Int).toNat) x438003_1 x438004_1) else (none)) else (none)) else (none)) else (none)) else (none)) else (impl_match.j2 kj13 a0 x14_1 x14_1 (-1) (a0.size : Int) x14_1 x438000_1 x438001_1 x438002_1 x438003_1 x438004_1)) = some (r1, r2, r3, r4, r5) := H
      have A33 := AZ.mk A330
      clear A330
      by_cases c34 : t445 = true
      rotate_left
      ·replace c34 := Bool.eq_false_iff.mpr c34
       subst c34
       have H1 : (impl_match.j2 kj13 a0 x14_1 x14_1 (-1) (a0.size : Int) x14_1 x438000_1 x438001_1 x438002_1 x438003_1 x438004_1) = some (r1, r2, r3, r4, r5) := by rw [if_neg (show ¬ (false = true) by decide)] at H; exact H
       clear H
       have H := H1
       clear H1
       have H' := AZ.mk H
       clear H
       have p32 : 0 ≤ (x14_1 : Int) := oT (by first | (with_reducible assumption) | assumption)
       have q32 : x14_1 < (a0.size : Int) := oT (by first | (with_reducible assumption) | assumption)
       have hx32 := bt_at a0 x14_1
       replace p32 := eq_true p32
       replace q32 := eq_true q32
       go_wp2_with (first | ((with_reducible refine gate_callee (f := 78) rfl ?_); refine goesL_ (some 40) rfl rfl Try.func78 (by kernel_rfl) rfl #[.int .u8 (bt a0 x14_1)] rfl (by (try simp only [List.map_toArray, List.map_cons, List.map_nil]); first | done | rfl | (simp only [List.length_drop, List.length_take]; rfl)) ?_; (with_reducible refine (impl_isReturn.calls (bt a0 x14_1) false _ A33.out).mono ?_); rintro e w' ⟨rfl, ⟨nd, rfl⟩⟩; refine ⟨_, rfl, ?_⟩))
       go_meet
       case rel => exact ⟨_, ((-1)), (x438000_1), (x438001_1), (x438002_1), (x438003_1), (x438004_1), (u438000), (u438001), (.slice Ao13 x438002_1.length co13), (u438003), (u438004), (by first | rfl | (simp; done) | (simp [*]; done)), H', ⟨by have := HK1.out; have := HJ13.out; first | omega | exact Nat.le_refl _⟩, ⟨by (with_reducible repeat (first | apply Kd.R_alloc | apply Kd.R_drewN | apply Kd.R_drew)); exact HO_438000.out⟩, ⟨by (with_reducible repeat (first | apply Kd.R_alloc | apply Kd.R_drewN | apply Kd.R_drew)); exact HO_438001.out⟩, ⟨by (with_reducible repeat (first | apply Kd.R_alloc | apply Kd.R_drewN | apply Kd.R_drew)); exact HO_438002.out⟩, ⟨by (with_reducible repeat (first | apply Kd.R_alloc | apply Kd.R_drewN | apply Kd.R_drew)); exact HO_438003.out⟩, ⟨by (with_reducible repeat (first | apply Kd.R_alloc | apply Kd.R_drewN | apply Kd.R_drew)); exact HO_438004.out⟩, ⟨by (with_reducible repeat (first | refine bn_ ?_ _ | refine bd_ ?_ | refine ba_ ?_ _)); exact BK433.out⟩, ⟨by (with_reducible repeat (first | refine bn_ ?_ _ | refine bd_ ?_ | refine ba_ ?_ _)); exact BK437.out⟩, ⟨by repeat (first | (with_reducible first | exact HB.out | apply pA | apply pN | apply pD | refine pS ?_ GE433.out | refine pS ?_ GE437.out) | exact HB.out)⟩⟩
      subst c34
      have H1 : (if 0 ≤ (wrap64 ((x438002_1.length : Int) - 1)) then (if (wrap64 ((x438002_1.length : Int) - 1)) < (x438002_1.length : Int) then (if 0 ≤ (rd x438002_1 (wrap64 ((x438002_1.length : Int) - 1))) then (if (rd x438002_1 (wrap64 ((x438002_1.length : Int) - 1))) < (x438000_1.length : Int) then (if (wrap64 ((x438002_1.length : Int) - 1)) ≤ (x438002_1.length : Int) then (impl_match.j2 kj13 a0 x14_1 x14_1 (rd x438002_1 (wrap64 ((x438002_1.length : Int) - 1))) (a0.size : Int) x14_1 (x438000_1.set ((rd x438002_1 (wrap64 ((x438002_1.length : Int) - 1))) : Int).toNat x14_1) x438001_1 (x438002_1.take ((wrap64 ((x438002_1.length : Int) - 1)) : Int).toNat) x438003_1 x438004_1) else (none)) else (none)) else (none)) else (none)) else (none)) = some (r1, r2, r3, r4, r5) := by rw [if_pos rfl] at H; exact H
      clear H
      have H := H1
      clear H1
      obtain ⟨ji35, hji35⟩ : ∃ j_ : Int, (wrap64 ((x438002_1.length : Int) - 1)) = j_ := ⟨_, rfl⟩
      replace H : (if 0 ≤ (ji35) then (if (ji35) < (x438002_1.length : Int) then (if 0 ≤ (rd x438002_1 (ji35)) then (if (rd x438002_1 (ji35)) < (x438000_1.length : Int) then (if (ji35) ≤ (x438002_1.length : Int) then (impl_match.j2 kj13 a0 x14_1 x14_1 (rd x438002_1 (ji35)) (a0.size : Int) x14_1 (x438000_1.set ((rd x438002_1 (ji35)) : Int).toNat x14_1) x438001_1 (x438002_1.take ((ji35) : Int).toNat) x438003_1 x438004_1) else (none)) else (none)) else (none)) else (none)) else (none)) = some (r1, r2, r3, r4, r5) := by first | (rw [hji35] at H; exact H) | (simp only [hji35] at H ⊢; exact H)
      (try rw [hji35] at A33)
      have hji35w : (IntKind.i64.wrap ((x438002_1.length : Int) - 1)) = ji35 := (i64_w _).trans hji35
      by_cases c36 : 0 ≤ (ji35)
      rotate_left
      ·rw [if_neg c36] at H
       exact absurd H (by simp)
      rw [if_pos c36] at H
      have c36b0 : decide (0 ≤ (ji35)) = true := decide_eq_true c36
      clear c36
      by_cases c37 : (ji35) < (x438002_1.length : Int)
      rotate_left
      ·rw [if_neg c37] at H
       exact absurd H (by simp)
      rw [if_pos c37] at H
      have c37b0 : decide ((ji35) < (x438002_1.length : Int)) = true := decide_eq_true c37
      clear c37
      by_cases c38 : 0 ≤ (rd x438002_1 (ji35))
      rotate_left
      ·rw [if_neg c38] at H
       exact absurd H (by simp)
      rw [if_pos c38] at H
      have c38b0 : decide (0 ≤ (rd x438002_1 (ji35))) = true := decide_eq_true c38
      clear c38
      by_cases c39 : (rd x438002_1 (ji35)) < (x438000_1.length : Int)
      rotate_left
      ·rw [if_neg c39] at H
       exact absurd H (by simp)
      rw [if_pos c39] at H
      have c39b0 : decide ((rd x438002_1 (ji35)) < (x438000_1.length : Int)) = true := decide_eq_true c39
      clear c39
      obtain ⟨y447, hy447⟩ : ∃ y_ : List Int, y_ = (x438000_1.set ((rd x438002_1 (ji35)) : Int).toNat x14_1) := ⟨_, rfl⟩
      replace H : (if (ji35) ≤ (x438002_1.length : Int) then (impl_match.j2 kj13 a0 x14_1 x14_1 (rd x438002_1 (ji35)) (a0.size : Int) x14_1 y447 x438001_1 (x438002_1.take ((ji35) : Int).toNat) x438003_1 x438004_1) else (none)) = some (r1, r2, r3, r4, r5) := by first | (rw [hy447]; with_reducible exact H) | (have H2_ := (Option.bind_some _ _).symm.trans H; rw [hy447]; with_reducible exact H2_) | (have H2_ := (Option.bind_some _ _).symm.trans H; with_reducible exact H2_) | with_reducible exact H | (rw [hy447]; exact H) | exact H
      have Ny447 := AZ.mk hy447
      clear hy447
      by_cases c41 : (ji35) ≤ (x438002_1.length : Int)
      rotate_left
      ·rw [if_neg c41] at H
       exact absurd H (by simp)
      rw [if_pos c41] at H
      have c41b0 := eq_true c41
      have c41b1 : decide ((ji35) ≤ (x438002_1.length : Int)) = true := decide_eq_true c41
      clear c41
      obtain ⟨y448, hy448⟩ : ∃ y_ : List Int, y_ = (x438002_1.take ((ji35) : Int).toNat) := ⟨_, rfl⟩
      replace H : (impl_match.j2 kj13 a0 x14_1 x14_1 (rd x438002_1 (ji35)) (a0.size : Int) x14_1 y447 x438001_1 y448 x438003_1 x438004_1) = some (r1, r2, r3, r4, r5) := by first | (rw [hy448]; with_reducible exact H) | (have H2_ := (Option.bind_some _ _).symm.trans H; rw [hy448]; with_reducible exact H2_) | (have H2_ := (Option.bind_some _ _).symm.trans H; with_reducible exact H2_) | with_reducible exact H | (rw [hy448]; exact H) | exact H
      have Ny448 := AZ.mk hy448
      clear hy448
      have H' := AZ.mk H
      clear H
      have p32 : 0 ≤ (x14_1 : Int) := oT (by first | (with_reducible assumption) | assumption)
      have q32 : x14_1 < (a0.size : Int) := oT (by first | (with_reducible assumption) | assumption)
      have hx32 := bt_at a0 x14_1
      replace p32 := eq_true p32
      replace q32 := eq_true q32
      go_wp2_with (first | ((with_reducible refine gate_callee (f := 78) rfl ?_); refine goesL_ (some 40) rfl rfl Try.func78 (by kernel_rfl) rfl #[.int .u8 (bt a0 x14_1)] rfl (by (try simp only [List.map_toArray, List.map_cons, List.map_nil]); first | done | rfl | (simp only [List.length_drop, List.length_take]; rfl)) ?_; (with_reducible refine (impl_isReturn.calls (bt a0 x14_1) true _ A33.out).mono ?_); rintro e w' ⟨rfl, ⟨nd, rfl⟩⟩; refine ⟨_, rfl, ?_⟩; (try (rw [drewN_self wc]; generalize hq_ : World.drewN wc _ = wc; have n0_ : AZ (Kd.R (Kd.int .i64) 2 wc w.heap.size (fun k_ => some k_ ≠ (u438001 : Value).ownBlock ∧ some k_ ≠ (.slice Ao13 x438002_1.length co13 : Value).ownBlock ∧ some k_ ≠ (u438003 : Value).ownBlock ∧ some k_ ≠ (u438004 : Value).ownBlock) u438000 x438000_1) := ⟨by rw [← hq_]; exact (by (with_reducible repeat (first | apply Kd.R_alloc | apply Kd.R_drewN | apply Kd.R_drew)); exact HO_438000.out)⟩; have n1_ : AZ (Kd.R (Kd.int .i64) 2 wc w.heap.size (fun k_ => some k_ ≠ (u438000 : Value).ownBlock ∧ some k_ ≠ (.slice Ao13 x438002_1.length co13 : Value).ownBlock ∧ some k_ ≠ (u438003 : Value).ownBlock ∧ some k_ ≠ (u438004 : Value).ownBlock) u438001 x438001_1) := ⟨by rw [← hq_]; exact (by (with_reducible repeat (first | apply Kd.R_alloc | apply Kd.R_drewN | apply Kd.R_drew)); exact HO_438001.out)⟩; have n2_ : AZ (Kd.R (Kd.int .i64) 2 wc w.heap.size (fun k_ => some k_ ≠ (u438000 : Value).ownBlock ∧ some k_ ≠ (u438001 : Value).ownBlock ∧ some k_ ≠ (u438003 : Value).ownBlock ∧ some k_ ≠ (u438004 : Value).ownBlock) (.slice Ao13 x438002_1.length co13) x438002_1) := ⟨by rw [← hq_]; exact (by (with_reducible repeat (first | apply Kd.R_alloc | apply Kd.R_drewN | apply Kd.R_drew)); exact HO_438002.out)⟩; have n3_ : AZ (Kd.R (Kd.int .i64) 2 wc w.heap.size (fun k_ => some k_ ≠ (u438000 : Value).ownBlock ∧ some k_ ≠ (u438001 : Value).ownBlock ∧ some k_ ≠ (.slice Ao13 x438002_1.length co13 : Value).ownBlock ∧ some k_ ≠ (u438004 : Value).ownBlock) u438003 x438003_1) := ⟨by rw [← hq_]; exact (by (with_reducible repeat (first | apply Kd.R_alloc | apply Kd.R_drewN | apply Kd.R_drew)); exact HO_438003.out)⟩; have n4_ : AZ (Kd.R (Kd.int .i64) 2 wc w.heap.size (fun k_ => some k_ ≠ (u438000 : Value).ownBlock ∧ some k_ ≠ (u438001 : Value).ownBlock ∧ some k_ ≠ (.slice Ao13 x438002_1.length co13 : Value).ownBlock ∧ some k_ ≠ (u438003 : Value).ownBlock) u438004 x438004_1) := ⟨by rw [← hq_]; exact (by (with_reducible repeat (first | apply Kd.R_alloc | apply Kd.R_drewN | apply Kd.R_drew)); exact HO_438004.out)⟩; have n5_ : AZ (wc.heap[gb433]? = some (.cells #[.slice none 0 0, .slice none 0 0, .slice none 0 0, .slice none 0 0, .slice none 0 0] 91 (0, 0))) := ⟨by rw [← hq_]; exact (by (with_reducible repeat (first | refine bn_ ?_ _ | refine bd_ ?_ | refine ba_ ?_ _)); exact BK433.out)⟩; have n6_ : AZ (wc.heap[gb437]? = some (.cells #[u438000, u438001, .slice Ao13 x438002_1.length co13, u438003, u438004] 91 (0, 0))) := ⟨by rw [← hq_]; exact (by (with_reducible repeat (first | refine bn_ ?_ _ | refine bd_ ?_ | refine ba_ ?_ _)); exact BK437.out)⟩; have n7_ : AZ (Below w.heap.size w wc) := ⟨by rw [← hq_]; exact (by repeat (first | (with_reducible first | exact HB.out | apply pA | apply pN | apply pD | refine pS ?_ GE433.out | refine pS ?_ GE437.out) | exact HB.out))⟩; clear HO_438000 HO_438001 HO_438002 HO_438003 HO_438004 BK433 BK437 HB hq_; have HO_438000 := n0_; have HO_438001 := n1_; have HO_438002 := n2_; have HO_438003 := n3_; have HO_438004 := n4_; have BK433 := n5_; have BK437 := n6_; have HB := n7_; clear n0_ n1_ n2_ n3_ n4_ n5_ n6_ n7_)); have hnb42 := NB437_433.out; have hnc42 := NB433_437.out; have hcz43_0 : wc.cell? ⟨gb437, 0, none⟩ = some (u438000) := (bc BK437.out 0).trans rfl; have hcz43_1 : wc.cell? ⟨gb437, 1, none⟩ = some (u438001) := (bc BK437.out 1).trans rfl; have hcz43_2 : wc.cell? ⟨gb437, 2, none⟩ = some (.slice Ao13 x438002_1.length co13) := (bc BK437.out 2).trans rfl; have hcz43_3 : wc.cell? ⟨gb437, 3, none⟩ = some (u438003) := (bc BK437.out 3).trans rfl; have hcz43_4 : wc.cell? ⟨gb437, 4, none⟩ = some (u438004) := (bc BK437.out 4).trans rfl; have hfz43_0 := bf BK437.out 0; have hfz43_1 := bf BK437.out 1; have hfz43_2 := bf BK437.out 2; have hfz43_3 := bf BK437.out 3; have hfz43_4 := bf BK437.out 4; have p446 : 0 ≤ ((ji35) : Int) := oT (by first | (with_reducible assumption) | assumption); have q446 : (ji35) < (x438002_1.length : Int) := oT (by first | (with_reducible assumption) | assumption); obtain ⟨ad446, e446, hx446_0⟩ := Kd.at_int (Kd.R_reads' HO_438002.out).2.2 (ji35) p446 q446; cases e446; replace p446 := eq_true p446; replace q446 := eq_true q446; have p40 : 0 ≤ ((rd x438002_1 (ji35)) : Int) := oT (by first | (with_reducible assumption) | assumption); have q40 : ((rd x438002_1 (ji35)) : Int) < ((x438000_1.length : Int) : Int) := oT (by first | (with_reducible assumption) | assumption); obtain ⟨go40, co40, eo40, gb40, gl40, cl40, HG40⟩ := Kd.R_form HO_438000.out (by omega); (first | cases eo40 | (injection eo40 with ea_ en_ ec_; (first | subst ea_ | (injection ea_ with ea_; subst ea_)); subst ec_; clear en_)); have GB40 := AZ.mk gb40; have GG40 := AZ.mk HG40; clear gb40 gl40 HG40; obtain ⟨hx40_0, hf40_0⟩ := Kd.R_celln 0 HO_438000.out ((rd x438002_1 (ji35)) : Int) p40 q40; replace p40 := eq_true p40; replace q40 := eq_true q40; obtain ⟨hy44_, hz44_⟩ := Kd.R_celln 0 HO_438000.out ((rd x438002_1 (ji35)) : Int) (oT (by first | (with_reducible assumption) | assumption)) (oT (by first | (with_reducible assumption) | assumption)); have HP44 := Kd.R_putg HO_438000.out ((rd x438002_1 (ji35)) : Int) x14_1) | ((with_reducible refine gate_store (t := 2) (p := 51) rfl ?_); refine store_event (t := 2) (p := 51) (v := ?vo_w45) (w1 := (wc.setCell ⟨go40, ((rd x438002_1 (ji35)) : Int).toNat, none⟩ (.int .i64 x14_1))) ?hg ?ho ?hn ?hr ?_; (case ho => rfl); (case hg => rfl); (case hn => rfl); (case hr => first | (go_simp; done) | (go_simp; rfl)); intro w45 hw; have hg : wc.grownBy w45 (some go40) := (by rw [hw]; exact HP44.2); have hp_ : Kd.R (Kd.int .i64) 2 w45 w.heap.size (fun k_ => some k_ ≠ (u438001 : Value).ownBlock ∧ some k_ ≠ (.slice (some ad446) x438002_1.length co13 : Value).ownBlock ∧ some k_ ≠ (u438003 : Value).ownBlock ∧ some k_ ≠ (u438004 : Value).ownBlock) (.slice (some ⟨go40, 0, none⟩) x438000_1.length co40) y447 := (by rw [hw, Ny447.out]; exact HP44.1); clear HP44; have n0_ := AZ.mk (hp_); have n1_ := AZ.mk (Kd.R_after (v := (.slice (some ⟨go40, 0, none⟩) x438000_1.length co40)) (v1 := (.slice (some ⟨go40, 0, none⟩) x438000_1.length co40)) (ok := (fun k_ => some k_ ≠ (.slice (some ad446) x438002_1.length co13 : Value).ownBlock ∧ some k_ ≠ (u438003 : Value).ownBlock ∧ some k_ ≠ (u438004 : Value).ownBlock)) (by (with_reducible repeat (first | apply Kd.R_alloc | apply Kd.R_drewN | apply Kd.R_drew)); exact Kd.R_mono HO_438001.out (fun _ hk => ⟨⟨hk.2.1, ⟨hk.2.2.1, hk.2.2.2⟩⟩, hk.1⟩)) hg (.inl rfl)); have n2_ := AZ.mk (Kd.R_after (v := (.slice (some ⟨go40, 0, none⟩) x438000_1.length co40)) (v1 := (.slice (some ⟨go40, 0, none⟩) x438000_1.length co40)) (ok := (fun k_ => some k_ ≠ (u438001 : Value).ownBlock ∧ some k_ ≠ (u438003 : Value).ownBlock ∧ some k_ ≠ (u438004 : Value).ownBlock)) (by (with_reducible repeat (first | apply Kd.R_alloc | apply Kd.R_drewN | apply Kd.R_drew)); exact Kd.R_mono HO_438002.out (fun _ hk => ⟨⟨hk.2.1, ⟨hk.2.2.1, hk.2.2.2⟩⟩, hk.1⟩)) hg (.inl rfl)); have n3_ := AZ.mk (Kd.R_after (v := (.slice (some ⟨go40, 0, none⟩) x438000_1.length co40)) (v1 := (.slice (some ⟨go40, 0, none⟩) x438000_1.length co40)) (ok := (fun k_ => some k_ ≠ (u438001 : Value).ownBlock ∧ some k_ ≠ (.slice (some ad446) x438002_1.length co13 : Value).ownBlock ∧ some k_ ≠ (u438004 : Value).ownBlock)) (by (with_reducible repeat (first | apply Kd.R_alloc | apply Kd.R_drewN | apply Kd.R_drew)); exact Kd.R_mono HO_438003.out (fun _ hk => ⟨⟨hk.2.1, ⟨hk.2.2.1, hk.2.2.2⟩⟩, hk.1⟩)) hg (.inl rfl)); have n4_ := AZ.mk (Kd.R_after (v := (.slice (some ⟨go40, 0, none⟩) x438000_1.length co40)) (v1 := (.slice (some ⟨go40, 0, none⟩) x438000_1.length co40)) (ok := (fun k_ => some k_ ≠ (u438001 : Value).ownBlock ∧ some k_ ≠ (.slice (some ad446) x438002_1.length co13 : Value).ownBlock ∧ some k_ ≠ (u438003 : Value).ownBlock)) (by (with_reducible repeat (first | apply Kd.R_alloc | apply Kd.R_drewN | apply Kd.R_drew)); exact Kd.R_mono HO_438004.out (fun _ hk => ⟨⟨hk.2.1, ⟨hk.2.2.1, hk.2.2.2⟩⟩, hk.1⟩)) hg (.inl rfl)); have n5_ := AZ.mk (blk_grown (g := gb433) (o := .cells #[.slice none 0 0, .slice none 0 0, .slice none 0 0, .slice none 0 0, .slice none 0 0] 91 (0, 0)) (by (with_reducible repeat (first | refine bn_ ?_ _ | refine bd_ ?_ | refine ba_ ?_ _)); exact BK433.out) hg (Kd.R_ne HO_438000.out BK433.out (by decide))); have n6_ := AZ.mk (blk_grown (g := gb437) (o := .cells #[.slice (some ⟨go40, 0, none⟩) x438000_1.length co40, u438001, .slice (some ad446) x438002_1.length co13, u438003, u438004] 91 (0, 0)) (by (with_reducible repeat (first | refine bn_ ?_ _ | refine bd_ ?_ | refine ba_ ?_ _)); exact BK437.out) hg (Kd.R_ne HO_438000.out BK437.out (by decide))); have n7_ := AZ.mk ((by rw [hw]; exact pS (HB.out) GB40.out : Below w.heap.size w w45)); clear HO_438000; clear HO_438001; clear HO_438002; clear HO_438003; clear HO_438004; clear BK433; clear BK437; clear HB; have HO_438000 := n0_; have HO_438001 := n1_; have HO_438002 := n2_; have HO_438003 := n3_; have HO_438004 := n4_; have BK433 := n5_; have BK437 := n6_; have HB := n7_; clear n0_ n1_ n2_ n3_ n4_ n5_ n6_ n7_; clear hg hw hp_; have hcz46_0 : w45.cell? ⟨gb437, 0, none⟩ = some (.slice (some ⟨go40, 0, none⟩) x438000_1.length co40) := (bc BK437.out 0).trans rfl; have hcz46_1 : w45.cell? ⟨gb437, 1, none⟩ = some (u438001) := (bc BK437.out 1).trans rfl; have hcz46_2 : w45.cell? ⟨gb437, 2, none⟩ = some (.slice (some ad446) x438002_1.length co13) := (bc BK437.out 2).trans rfl; have hcz46_3 : w45.cell? ⟨gb437, 3, none⟩ = some (u438003) := (bc BK437.out 3).trans rfl; have hcz46_4 : w45.cell? ⟨gb437, 4, none⟩ = some (u438004) := (bc BK437.out 4).trans rfl; have hfz46_0 := bf BK437.out 0; have hfz46_1 := bf BK437.out 1; have hfz46_2 := bf BK437.out 2; have hfz46_3 := bf BK437.out 3; have hfz46_4 := bf BK437.out 4; have q47 : ((ji35) : Int) ≤ ((x438002_1.length : Int) : Int) := oT (by first | (with_reducible assumption) | assumption); obtain ⟨i047, hi047, _, hsz47, _⟩ := info_parts info2; have hcut47 := cut_to (P := Try.prog) 23 2 .i64 Try.underlying23 hi047 (some ad446) x438002_1.length co13 (ji35) (oT (by first | (with_reducible assumption) | assumption)) q47 (Kd.R_reads' HO_438002.out).2.1; have hr47 := Kd.R_take (m := ((ji35) : Int).toNat) HO_438002.out (by omega); have hy47 : y448.length = ((ji35) : Int).toNat := (by rw [Ny448.out, List.length_take]; omega); rw [← Ny448.out] at hr47; rw [← hy47] at hr47 hcut47; clear hy47 hi047 hsz47 HO_438002; have HO450 := AZ.mk hr47; clear hr47; replace q47 := eq_true q47))
      go_meet
      case rel => exact ⟨_, (rd x438002_1 (ji35)), (y447), (x438001_1), (y448), (x438003_1), (x438004_1), (.slice (some ⟨go40, 0, none⟩) x438000_1.length co40), (u438001), (.slice (some ad446) y448.length co13), (u438003), (u438004), (by first | rfl | (simp; done) | (simp only [← hji35] <;> (first | rfl | simp)) | (simp [*]; done)), H', ⟨by have := HK1.out; have := HJ13.out; first | omega | exact Nat.le_refl _⟩, ⟨by (with_reducible repeat (first | apply Kd.R_alloc | apply Kd.R_drewN | apply Kd.R_drew)); exact Kd.R_mono (Kd.R_far (p := ⟨gb437, 2, none⟩) (Kd.R_types HO_438000.out BK437.out (by decide)) (fun _ hk => hk.2) (.slice (some ad446) y448.length co13)) (fun _ hk => ⟨hk.1.1, ⟨hk.1.2.1, ⟨hk.1.2.2.1, hk.1.2.2.2⟩⟩⟩)⟩, ⟨by (with_reducible repeat (first | apply Kd.R_alloc | apply Kd.R_drewN | apply Kd.R_drew)); exact Kd.R_mono (Kd.R_far (p := ⟨gb437, 2, none⟩) (Kd.R_types HO_438001.out BK437.out (by decide)) (fun _ hk => hk.2) (.slice (some ad446) y448.length co13)) (fun _ hk => ⟨hk.1.2, ⟨hk.1.1.1, ⟨hk.1.1.2.1, hk.1.1.2.2⟩⟩⟩)⟩, ⟨by (with_reducible repeat (first | apply Kd.R_alloc | apply Kd.R_drewN | apply Kd.R_drew)); exact Kd.R_mono (Kd.R_far (p := ⟨gb437, 2, none⟩) (Kd.R_types HO450.out BK437.out (by decide)) (fun _ hk => hk.2) (.slice (some ad446) y448.length co13)) (fun _ hk => ⟨hk.1.2, ⟨hk.1.1.1, ⟨hk.1.1.2.1, hk.1.1.2.2⟩⟩⟩)⟩, ⟨by (with_reducible repeat (first | apply Kd.R_alloc | apply Kd.R_drewN | apply Kd.R_drew)); exact Kd.R_mono (Kd.R_far (p := ⟨gb437, 2, none⟩) (Kd.R_types HO_438003.out BK437.out (by decide)) (fun _ hk => hk.2) (.slice (some ad446) y448.length co13)) (fun _ hk => ⟨hk.1.2, ⟨hk.1.1.1, ⟨hk.1.1.2.1, hk.1.1.2.2⟩⟩⟩)⟩, ⟨by (with_reducible repeat (first | apply Kd.R_alloc | apply Kd.R_drewN | apply Kd.R_drew)); exact Kd.R_mono (Kd.R_far (p := ⟨gb437, 2, none⟩) (Kd.R_types HO_438004.out BK437.out (by decide)) (fun _ hk => hk.2) (.slice (some ad446) y448.length co13)) (fun _ hk => ⟨hk.1.2, ⟨hk.1.1.1, ⟨hk.1.1.2.1, hk.1.1.2.2⟩⟩⟩)⟩, ⟨by (with_reducible repeat (first | refine bn_ ?_ _ | refine bd_ ?_ | refine ba_ ?_ _)); refine blk_far ?_ NB433_437.out _; (with_reducible repeat (first | refine bn_ ?_ _ | refine bd_ ?_ | refine ba_ ?_ _)); exact BK433.out⟩, ⟨by (with_reducible repeat (first | refine bn_ ?_ _ | refine bd_ ?_ | refine ba_ ?_ _)); refine blk_put (cs := #[.slice (some ⟨go40, 0, none⟩) x438000_1.length co40, u438001, .slice (some ad446) x438002_1.length co13, u438003, u438004]) ?_ 2 _ rfl; (with_reducible repeat (first | refine bn_ ?_ _ | refine bd_ ?_ | refine ba_ ?_ _)); exact BK437.out⟩, ⟨by repeat (first | (with_reducible first | exact HB.out | apply pA | apply pN | apply pD | refine pS ?_ GE433.out | refine pS ?_ GE437.out) | exact HB.out)⟩⟩
   case rest =>
    clear HC10
    try clear c1
    try clear p1
    try clear q1
    try clear hx1
    try clear c2
    try clear p2
    try clear c3
    try clear p3
    try clear q3
    try clear hx3
    try clear c4
    try clear p4
    try clear q4
    try clear hx4
    try clear hf4
    try clear c6
    try clear p6
    try clear c7
    try clear c9
    try clear c9b0
    try clear c11
    try clear c15
    try clear c15b0
    try clear c15b1
    try clear c16
    try clear c16b0
    try clear p17
    try clear q17
    try clear hx17
    try clear c19
    try clear c20
    try clear c21
    try clear c22
    try clear c30
    try clear c30b0
    try clear c31
    try clear c31b0
    try clear p32
    try clear q32
    try clear hx32
    try clear c34
    try clear c36
    try clear c36b0
    try clear c37
    try clear c37b0
    try clear c38
    try clear c38b0
    try clear c39
    try clear c39b0
    try clear p40
    try clear q40
    try clear hx40
    try clear hf40
    try clear c41
    try clear c41b0
    try clear c41b1
    try clear c42
    try clear p44
    try clear q44
    try clear hx44
    try clear q47
    try clear hcz12_0
    try clear hcz12_1
    try clear hcz12_2
    try clear hcz12_3
    try clear hcz12_4
    try clear hcz23_0
    try clear hcz23_1
    try clear hcz23_2
    try clear hcz23_3
    try clear hcz23_4
    try clear hcz29_0
    try clear hcz29_1
    try clear hcz29_2
    try clear hcz29_3
    try clear hcz29_4
    try clear hcz43_0
    try clear hcz43_1
    try clear hcz43_2
    try clear hcz43_3
    try clear hcz43_4
    try clear hcz46_0
    try clear hcz46_1
    try clear hcz46_2
    try clear hcz46_3
    try clear hcz46_4
    try clear hcz8_0
    try clear hcz8_1
    try clear hcz8_2
    try clear hcz8_3
    try clear hcz8_4
    try clear hfz12_0
    try clear hfz12_1
    try clear hfz12_2
    try clear hfz12_3
    try clear hfz12_4
    try clear hfz23_0
    try clear hfz23_1
    try clear hfz23_2
    try clear hfz23_3
    try clear hfz23_4
    try clear hfz29_0
    try clear hfz29_1
    try clear hfz29_2
    try clear hfz29_3
    try clear hfz29_4
    try clear hfz43_0
    try clear hfz43_1
    try clear hfz43_2
    try clear hfz43_3
    try clear hfz43_4
    try clear hfz46_0
    try clear hfz46_1
    try clear hfz46_2
    try clear hfz46_3
    try clear hfz46_4
    try clear hfz8_0
    try clear hfz8_1
    try clear hfz8_2
    try clear hfz8_3
    try clear hfz8_4
    try clear hx40_0
    try clear hx446_0
    try clear p1
    try clear p17
    try clear p2
    try clear p32
    try clear p40
    try clear p446
    try clear q1
    try clear q17
    try clear q32
    try clear q40
    try clear q446
    try clear q47
    obtain ⟨kq, x6_9, x438000_9, x438001_9, x438002_9, x438003_9, x438004_9, u438000, u438001, u438002, u438003, u438004, rfl, HA, HJ9, HO_438000, HO_438001, HO_438002, HO_438003, HO_438004, BK433, BK437, HB⟩ := hcut
    cases kq with
    | zero => exact absurd HA.out (by simp [impl_match.j2])
    | succ kj9 =>
     have H := HA.out
     clear HA
     simp only [impl_match.j2] at H
     have HC48 := AZ.mk H
     clear H
     have hnb49 := NB437_433.out
     have hnc49 := NB433_437.out
     have hcz50_0 : wc.cell? ⟨gb437, 0, none⟩ = some (u438000) := (bc BK437.out 0).trans rfl
     have hcz50_1 : wc.cell? ⟨gb437, 1, none⟩ = some (u438001) := (bc BK437.out 1).trans rfl
     have hcz50_2 : wc.cell? ⟨gb437, 2, none⟩ = some (u438002) := (bc BK437.out 2).trans rfl
     have hcz50_3 : wc.cell? ⟨gb437, 3, none⟩ = some (u438003) := (bc BK437.out 3).trans rfl
     have hcz50_4 : wc.cell? ⟨gb437, 4, none⟩ = some (u438004) := (bc BK437.out 4).trans rfl
     have hfz50_0 := bf BK437.out 0
     have hfz50_1 := bf BK437.out 1
     have hfz50_2 := bf BK437.out 2
     have hfz50_3 := bf BK437.out 3
     have hfz50_4 := bf BK437.out 4
     obtain ⟨Ao51, co51, eo51⟩ := Kd.R_slice HO_438002.out
     subst eo51
     go_upto_if 62 with (fail)
     go_cut [8] (fun v8 wc => ∃ (kq : Nat) (x8_47 : Int), v8 = .int .i64 x8_47 ∧ AZ (impl_match.j3 kq a0 x14_1 x14_1 x6_9 x8_47 (a0.size : Int) x14_1 x438000_9 x438001_9 x438002_9 x438003_9 x438004_9 = some (r1, r2, r3, r4, r5)) ∧ AZ (kq ≤ kj9) ∧ AZ (Kd.R (Kd.int .i64) 2 wc w.heap.size (fun k_ => some k_ ≠ (u438001 : Value).ownBlock ∧ some k_ ≠ ((.slice Ao51 x438002_9.length co51) : Value).ownBlock ∧ some k_ ≠ (u438003 : Value).ownBlock ∧ some k_ ≠ (u438004 : Value).ownBlock) u438000 x438000_9) ∧ AZ (Kd.R (Kd.int .i64) 2 wc w.heap.size (fun k_ => some k_ ≠ (u438000 : Value).ownBlock ∧ some k_ ≠ ((.slice Ao51 x438002_9.length co51) : Value).ownBlock ∧ some k_ ≠ (u438003 : Value).ownBlock ∧ some k_ ≠ (u438004 : Value).ownBlock) u438001 x438001_9) ∧ AZ (Kd.R (Kd.int .i64) 2 wc w.heap.size (fun k_ => some k_ ≠ (u438000 : Value).ownBlock ∧ some k_ ≠ (u438001 : Value).ownBlock ∧ some k_ ≠ (u438003 : Value).ownBlock ∧ some k_ ≠ (u438004 : Value).ownBlock) (.slice Ao51 x438002_9.length co51) x438002_9) ∧ AZ (Kd.R (Kd.int .i64) 2 wc w.heap.size (fun k_ => some k_ ≠ (u438000 : Value).ownBlock ∧ some k_ ≠ (u438001 : Value).ownBlock ∧ some k_ ≠ ((.slice Ao51 x438002_9.length co51) : Value).ownBlock ∧ some k_ ≠ (u438004 : Value).ownBlock) u438003 x438003_9) ∧ AZ (Kd.R (Kd.int .i64) 2 wc w.heap.size (fun k_ => some k_ ≠ (u438000 : Value).ownBlock ∧ some k_ ≠ (u438001 : Value).ownBlock ∧ some k_ ≠ ((.slice Ao51 x438002_9.length co51) : Value).ownBlock ∧ some k_ ≠ (u438003 : Value).ownBlock) u438004 x438004_9) ∧ AZ (wc.heap[gb433]? = some (.cells #[(.slice none 0 0), (.slice none 0 0), (.slice none 0 0), (.slice none 0 0), (.slice none 0 0)] 91 (0, 0))) ∧ AZ (wc.heap[gb437]? = some (.cells #[u438000, u438001, (.slice Ao51 x438002_9.length co51), u438003, u438004] 91 (0, 0))) ∧ AZ (Below w.heap.size w wc))
     case first =>
      have H := HC48.out
      clear HC48
      by_cases c52 : (x438002_9.length : Int) > 0
      rotate_left
      ·rw [if_neg c52] at H
       have c52b0 : decide (0 < (x438002_9.length : Int)) = false := decide_eq_false c52
       have c52b1 : decide (0 < x438002_9.length) = false := decide_eq_false (by omega)
       clear c52
       (first | rw [c52b0] | rw [c52b1] | (simp only [i64_w, i32_w]; rw [c52b0]) | skip)
       have H' := AZ.mk H
       clear H
       go_wp2
       go_meet
       case rel => exact ⟨_, ((-1)), (by first | rfl | (simp; done) | (simp [*]; done)), H', ⟨by have := HK1.out; have := HJ9.out; first | omega | exact Nat.le_refl _⟩, ⟨by (with_reducible repeat (first | apply Kd.R_alloc | apply Kd.R_drewN | apply Kd.R_drew)); exact HO_438000.out⟩, ⟨by (with_reducible repeat (first | apply Kd.R_alloc | apply Kd.R_drewN | apply Kd.R_drew)); exact HO_438001.out⟩, ⟨by (with_reducible repeat (first | apply Kd.R_alloc | apply Kd.R_drewN | apply Kd.R_drew)); exact HO_438002.out⟩, ⟨by (with_reducible repeat (first | apply Kd.R_alloc | apply Kd.R_drewN | apply Kd.R_drew)); exact HO_438003.out⟩, ⟨by (with_reducible repeat (first | apply Kd.R_alloc | apply Kd.R_drewN | apply Kd.R_drew)); exact HO_438004.out⟩, ⟨by (with_reducible repeat (first | refine bn_ ?_ _ | refine bd_ ?_ | refine ba_ ?_ _)); exact BK433.out⟩, ⟨by (with_reducible repeat (first | refine bn_ ?_ _ | refine bd_ ?_ | refine ba_ ?_ _)); exact BK437.out⟩, ⟨by repeat (first | (with_reducible first | exact HB.out | apply pA | apply pN | apply pD | refine pS ?_ GE433.out | refine pS ?_ GE437.out) | exact HB.out)⟩⟩
      rw [if_pos c52] at H
      have c52b0 : decide (0 < (x438002_9.length : Int)) = true := decide_eq_true c52
      have c52b1 : decide (0 < x438002_9.length) = true := decide_eq_true (by omega)
      clear c52
      (first | rw [c52b0] | rw [c52b1] | (simp only [i64_w, i32_w]; rw [c52b0]) | skip)
      obtain ⟨ji53, hji53⟩ : ∃ j_ : Int, (wrap64 ((x438002_9.length : Int) - 1)) = j_ := ⟨_, rfl⟩
      replace H : (if 0 ≤ (ji53) then (if (ji53) < (x438002_9.length : Int) then (impl_match.j3 kj9 a0 x14_1 x14_1 x6_9 (rd x438002_9 (ji53)) (a0.size : Int) x14_1 x438000_9 x438001_9 x438002_9 x438003_9 x438004_9) else (none)) else (none)) = some (r1, r2, r3, r4, r5) := by first | (rw [hji53] at H; exact H) | (simp only [hji53] at H ⊢; exact H)
      have hji53w : (IntKind.i64.wrap ((x438002_9.length : Int) - 1)) = ji53 := (i64_w _).trans hji53
      by_cases c54 : 0 ≤ (ji53)
      rotate_left
      ·rw [if_neg c54] at H
       exact absurd H (by simp)
      rw [if_pos c54] at H
      have c54b0 : decide (0 ≤ (ji53)) = true := decide_eq_true c54
      clear c54
      by_cases c55 : (ji53) < (x438002_9.length : Int)
      rotate_left
      ·rw [if_neg c55] at H
       exact absurd H (by simp)
      rw [if_pos c55] at H
      have c55b0 : decide ((ji53) < (x438002_9.length : Int)) = true := decide_eq_true c55
      clear c55
      have H' := AZ.mk H
      clear H
      have hnb56 := NB437_433.out
      have hnc56 := NB433_437.out
      have hcz57_0 : wc.cell? ⟨gb437, 0, none⟩ = some (u438000) := (bc BK437.out 0).trans rfl
      have hcz57_1 : wc.cell? ⟨gb437, 1, none⟩ = some (u438001) := (bc BK437.out 1).trans rfl
      have hcz57_2 : wc.cell? ⟨gb437, 2, none⟩ = some (.slice Ao51 x438002_9.length co51) := (bc BK437.out 2).trans rfl
      have hcz57_3 : wc.cell? ⟨gb437, 3, none⟩ = some (u438003) := (bc BK437.out 3).trans rfl
      have hcz57_4 : wc.cell? ⟨gb437, 4, none⟩ = some (u438004) := (bc BK437.out 4).trans rfl
      have hfz57_0 := bf BK437.out 0
      have hfz57_1 := bf BK437.out 1
      have hfz57_2 := bf BK437.out 2
      have hfz57_3 := bf BK437.out 3
      have hfz57_4 := bf BK437.out 4
      have p451 : 0 ≤ ((ji53) : Int) := oT (by first | (with_reducible assumption) | assumption)
      have q451 : (ji53) < (x438002_9.length : Int) := oT (by first | (with_reducible assumption) | assumption)
      obtain ⟨ad451, e451, hx451_0⟩ := Kd.at_int (Kd.R_reads' HO_438002.out).2.2 (ji53) p451 q451
      cases e451
      replace p451 := eq_true p451
      replace q451 := eq_true q451
      go_wp2
      go_meet
      case rel => exact ⟨_, (rd x438002_9 (ji53)), (by first | rfl | (simp; done) | (simp only [← hji53] <;> (first | rfl | simp)) | (simp [*]; done)), H', ⟨by have := HK1.out; have := HJ9.out; first | omega | exact Nat.le_refl _⟩, ⟨by (with_reducible repeat (first | apply Kd.R_alloc | apply Kd.R_drewN | apply Kd.R_drew)); exact HO_438000.out⟩, ⟨by (with_reducible repeat (first | apply Kd.R_alloc | apply Kd.R_drewN | apply Kd.R_drew)); exact HO_438001.out⟩, ⟨by (with_reducible repeat (first | apply Kd.R_alloc | apply Kd.R_drewN | apply Kd.R_drew)); exact HO_438002.out⟩, ⟨by (with_reducible repeat (first | apply Kd.R_alloc | apply Kd.R_drewN | apply Kd.R_drew)); exact HO_438003.out⟩, ⟨by (with_reducible repeat (first | apply Kd.R_alloc | apply Kd.R_drewN | apply Kd.R_drew)); exact HO_438004.out⟩, ⟨by (with_reducible repeat (first | refine bn_ ?_ _ | refine bd_ ?_ | refine ba_ ?_ _)); exact BK433.out⟩, ⟨by (with_reducible repeat (first | refine bn_ ?_ _ | refine bd_ ?_ | refine ba_ ?_ _)); exact BK437.out⟩, ⟨by repeat (first | (with_reducible first | exact HB.out | apply pA | apply pN | apply pD | refine pS ?_ GE433.out | refine pS ?_ GE437.out) | exact HB.out)⟩⟩
     case rest =>
      clear HC48
      try clear c1
      try clear p1
      try clear q1
      try clear hx1
      try clear c2
      try clear p2
      try clear c3
      try clear p3
      try clear q3
      try clear hx3
      try clear c4
      try clear p4
      try clear q4
      try clear hx4
      try clear hf4
      try clear c5
      try clear c6
      try clear p6
      try clear c7
      try clear c9
      try clear c9b0
      try clear c11
      try clear c15
      try clear c15b0
      try clear c15b1
      try clear c16
      try clear c16b0
      try clear p17
      try clear q17
      try clear hx17
      try clear c19
      try clear c20
      try clear c21
      try clear c22
      try clear c30
      try clear c30b0
      try clear c31
      try clear c31b0
      try clear p32
      try clear q32
      try clear hx32
      try clear c34
      try clear c36
      try clear c36b0
      try clear c37
      try clear c37b0
      try clear c38
      try clear c38b0
      try clear c39
      try clear c39b0
      try clear p40
      try clear q40
      try clear hx40
      try clear hf40
      try clear c41
      try clear c41b0
      try clear c41b1
      try clear c42
      try clear p44
      try clear q44
      try clear hx44
      try clear p45
      try clear q45
      try clear hx45
      try clear q47
      try clear c49
      try clear c52
      try clear c52b0
      try clear c52b1
      try clear c54
      try clear c54b0
      try clear c55
      try clear c55b0
      try clear c56
      try clear hcz12_0
      try clear hcz12_1
      try clear hcz12_2
      try clear hcz12_3
      try clear hcz12_4
      try clear hcz23_0
      try clear hcz23_1
      try clear hcz23_2
      try clear hcz23_3
      try clear hcz23_4
      try clear hcz29_0
      try clear hcz29_1
      try clear hcz29_2
      try clear hcz29_3
      try clear hcz29_4
      try clear hcz43_0
      try clear hcz43_1
      try clear hcz43_2
      try clear hcz43_3
      try clear hcz43_4
      try clear hcz46_0
      try clear hcz46_1
      try clear hcz46_2
      try clear hcz46_3
      try clear hcz46_4
      try clear hcz50_0
      try clear hcz50_1
      try clear hcz50_2
      try clear hcz50_3
      try clear hcz50_4
      try clear hcz57_0
      try clear hcz57_1
      try clear hcz57_2
      try clear hcz57_3
      try clear hcz57_4
      try clear hcz8_0
      try clear hcz8_1
      try clear hcz8_2
      try clear hcz8_3
      try clear hcz8_4
      try clear hfz12_0
      try clear hfz12_1
      try clear hfz12_2
      try clear hfz12_3
      try clear hfz12_4
      try clear hfz23_0
      try clear hfz23_1
      try clear hfz23_2
      try clear hfz23_3
      try clear hfz23_4
      try clear hfz29_0
      try clear hfz29_1
      try clear hfz29_2
      try clear hfz29_3
      try clear hfz29_4
      try clear hfz43_0
      try clear hfz43_1
      try clear hfz43_2
      try clear hfz43_3
      try clear hfz43_4
      try clear hfz46_0
      try clear hfz46_1
      try clear hfz46_2
      try clear hfz46_3
      try clear hfz46_4
      try clear hfz50_0
      try clear hfz50_1
      try clear hfz50_2
      try clear hfz50_3
      try clear hfz50_4
      try clear hfz57_0
      try clear hfz57_1
      try clear hfz57_2
      try clear hfz57_3
      try clear hfz57_4
      try clear hfz8_0
      try clear hfz8_1
      try clear hfz8_2
      try clear hfz8_3
      try clear hfz8_4
      try clear hx40_0
      try clear hx446_0
      try clear hx451_0
      try clear p1
      try clear p17
      try clear p2
      try clear p3
      try clear p32
      try clear p4
      try clear p40
      try clear p44
      try clear p446
      try clear p451
      try clear p6
      try clear q1
      try clear q17
      try clear q3
      try clear q32
      try clear q4
      try clear q40
      try clear q44
      try clear q446
      try clear q451
      try clear q47
      obtain ⟨kq, x8_47, rfl, HA, HJ47, HO_438000, HO_438001, HO_438002, HO_438003, HO_438004, BK433, BK437, HB⟩ := hcut
      cases kq with
      | zero => exact absurd HA.out (by simp [impl_match.j3])
      | succ kj47 =>
       have H := HA.out
       clear HA
       simp only [impl_match.j3] at H
       by_cases c58 : 0 ≤ x14_1
       rotate_left
       ·rw [if_neg c58] at H
        exact absurd H (by simp)
       rw [if_pos c58] at H
       have c58b0 : decide (0 ≤ x14_1) = true := decide_eq_true c58
       clear c58
       by_cases c59 : x14_1 < (a0.size : Int)
       rotate_left
       ·rw [if_neg c59] at H
        exact absurd H (by simp)
       rw [if_pos c59] at H
       have c59b0 : decide (x14_1 < (a0.size : Int)) = true := decide_eq_true c59
       clear c59
       replace H := Option.bind_eq_some_iff.mp H
       obtain ⟨t452, A610, H⟩ := H
       replace H : (if t452 = true then ((some (([x14_1] : List Int) : List Int)).bind fun y453 => (if x438002_9.length + y453.length < 17592186044416 then (impl_match.j4 kj47 a0 (-2) x8_47 (a0.size : Int) x14_1 x438000_9 x438001_9 (x438002_9 ++ y453) x438003_9 x438004_9) else (none))) else (impl_match.j4 kj47 a0 x6_9 x8_47 (a0.size : Int) x14_1 x438000_9 x438001_9 x438002_9 x438003_9 x438004_9)) = some (r1, r2, r3, r4, r5) := H
       have A61 := AZ.mk A610
       clear A610
       have HC62 := AZ.mk H
       clear H
       have p60 : 0 ≤ (x14_1 : Int) := oT (by first | (with_reducible assumption) | assumption)
       have q60 : x14_1 < (a0.size : Int) := oT (by first | (with_reducible assumption) | assumption)
       have hx60 := bt_at a0 x14_1
       replace p60 := eq_true p60
       replace q60 := eq_true q60
       go_upto_if 72 with (first | ((with_reducible refine gate_callee (f := 79) rfl ?_); refine goesL_ (some 72) rfl rfl Try.func79 (by kernel_rfl) rfl #[.int .u8 (bt a0 x14_1)] rfl (by (try simp only [List.map_toArray, List.map_cons, List.map_nil]); first | done | rfl | (simp only [List.length_drop, List.length_take]; rfl)) ?_; (with_reducible refine (impl_isCall.calls (bt a0 x14_1) t452 _ A61.out).mono ?_); rintro e w' ⟨rfl, ⟨nd, rfl⟩⟩; refine ⟨_, rfl, ?_⟩))
       (try simp only [Act.put, sA, sB, sC])
       go_cut [6] (fun v6 wc => ∃ (kq : Nat) (x6_61 : Int) (x438002_61 : List Int) (u438002 : Value), v6 = .int .i64 x6_61 ∧ AZ (impl_match.j4 kq a0 x6_61 x8_47 (a0.size : Int) x14_1 x438000_9 x438001_9 x438002_61 x438003_9 x438004_9 = some (r1, r2, r3, r4, r5)) ∧ AZ (kq ≤ kj47) ∧ AZ (Kd.R (Kd.int .i64) 2 wc w.heap.size (fun k_ => some k_ ≠ (u438001 : Value).ownBlock ∧ some k_ ≠ (u438002 : Value).ownBlock ∧ some k_ ≠ (u438003 : Value).ownBlock ∧ some k_ ≠ (u438004 : Value).ownBlock) u438000 x438000_9) ∧ AZ (Kd.R (Kd.int .i64) 2 wc w.heap.size (fun k_ => some k_ ≠ (u438000 : Value).ownBlock ∧ some k_ ≠ (u438002 : Value).ownBlock ∧ some k_ ≠ (u438003 : Value).ownBlock ∧ some k_ ≠ (u438004 : Value).ownBlock) u438001 x438001_9) ∧ AZ (Kd.R (Kd.int .i64) 2 wc w.heap.size (fun k_ => some k_ ≠ (u438000 : Value).ownBlock ∧ some k_ ≠ (u438001 : Value).ownBlock ∧ some k_ ≠ (u438003 : Value).ownBlock ∧ some k_ ≠ (u438004 : Value).ownBlock) u438002 x438002_61) ∧ AZ (Kd.R (Kd.int .i64) 2 wc w.heap.size (fun k_ => some k_ ≠ (u438000 : Value).ownBlock ∧ some k_ ≠ (u438001 : Value).ownBlock ∧ some k_ ≠ (u438002 : Value).ownBlock ∧ some k_ ≠ (u438004 : Value).ownBlock) u438003 x438003_9) ∧ AZ (Kd.R (Kd.int .i64) 2 wc w.heap.size (fun k_ => some k_ ≠ (u438000 : Value).ownBlock ∧ some k_ ≠ (u438001 : Value).ownBlock ∧ some k_ ≠ (u438002 : Value).ownBlock ∧ some k_ ≠ (u438003 : Value).ownBlock) u438004 x438004_9) ∧ AZ (wc.heap[gb433]? = some (.cells #[(.slice none 0 0), (.slice none 0 0), (.slice none 0 0), (.slice none 0 0), (.slice none 0 0)] 91 (0, 0))) ∧ AZ (wc.heap[gb437]? = some (.cells #[u438000, u438001, u438002, u438003, u438004] 91 (0, 0))) ∧ AZ (Below w.heap.size w wc))
       case first =>
        have H := HC62.out
        clear HC62
        by_cases c63 : t452 = true
        rotate_left
        ·replace c63 := Bool.eq_false_iff.mpr c63
         subst c63
         have H1 : (impl_match.j4 kj47 a0 x6_9 x8_47 (a0.size : Int) x14_1 x438000_9 x438001_9 x438002_9 x438003_9 x438004_9) = some (r1, r2, r3, r4, r5) := by rw [if_neg (show ¬ (false = true) by decide)] at H; exact H
         clear H
         have H := H1
         clear H1
         have H' := AZ.mk H
         clear H
         go_wp2
         go_meet
         case rel => exact ⟨_, (x6_9), (x438002_9), (.slice Ao51 x438002_9.length co51), (by first | rfl | (simp; done) | (simp [*]; done)), H', ⟨by have := HK1.out; have := HJ9.out; have := HJ47.out; first | omega | exact Nat.le_refl _⟩, ⟨by (with_reducible repeat (first | apply Kd.R_alloc | apply Kd.R_drewN | apply Kd.R_drew)); exact HO_438000.out⟩, ⟨by (with_reducible repeat (first | apply Kd.R_alloc | apply Kd.R_drewN | apply Kd.R_drew)); exact HO_438001.out⟩, ⟨by (with_reducible repeat (first | apply Kd.R_alloc | apply Kd.R_drewN | apply Kd.R_drew)); exact HO_438002.out⟩, ⟨by (with_reducible repeat (first | apply Kd.R_alloc | apply Kd.R_drewN | apply Kd.R_drew)); exact HO_438003.out⟩, ⟨by (with_reducible repeat (first | apply Kd.R_alloc | apply Kd.R_drewN | apply Kd.R_drew)); exact HO_438004.out⟩, ⟨by (with_reducible repeat (first | refine bn_ ?_ _ | refine bd_ ?_ | refine ba_ ?_ _)); exact BK433.out⟩, ⟨by (with_reducible repeat (first | refine bn_ ?_ _ | refine bd_ ?_ | refine ba_ ?_ _)); exact BK437.out⟩, ⟨by repeat (first | (with_reducible first | exact HB.out | apply pA | apply pN | apply pD | refine pS ?_ GE433.out | refine pS ?_ GE437.out) | exact HB.out)⟩⟩
        subst c63
        have H1 : ((some (([x14_1] : List Int) : List Int)).bind fun y453 => (if x438002_9.length + y453.length < 17592186044416 then (impl_match.j4 kj47 a0 (-2) x8_47 (a0.size : Int) x14_1 x438000_9 x438001_9 (x438002_9 ++ y453) x438003_9 x438004_9) else (none))) = some (r1, r2, r3, r4, r5) := by rw [if_pos rfl] at H; exact H
        clear H
        have H := H1
        clear H1
        obtain ⟨y453, hy453⟩ : ∃ y_ : List Int, y_ = (([x14_1] : List Int)) := ⟨_, rfl⟩
        replace H : (if x438002_9.length + y453.length < 17592186044416 then (impl_match.j4 kj47 a0 (-2) x8_47 (a0.size : Int) x14_1 x438000_9 x438001_9 (x438002_9 ++ y453) x438003_9 x438004_9) else (none)) = some (r1, r2, r3, r4, r5) := by first | (rw [hy453]; with_reducible exact H) | (have H2_ := (Option.bind_some _ _).symm.trans H; rw [hy453]; with_reducible exact H2_) | (have H2_ := (Option.bind_some _ _).symm.trans H; with_reducible exact H2_) | with_reducible exact H | (rw [hy453]; exact H) | exact H
        have Ny453 := AZ.mk hy453
        clear hy453
        by_cases c64 : x438002_9.length + y453.length < 17592186044416
        rotate_left
        ·rw [if_neg c64] at H
         exact absurd H (by simp)
        rw [if_pos c64] at H
        have LMc64 := AZ.mk c64
        clear c64
        obtain ⟨y456, hy456⟩ : ∃ y_ : List Int, y_ = (x438002_9 ++ y453) := ⟨_, rfl⟩
        replace H : (impl_match.j4 kj47 a0 (-2) x8_47 (a0.size : Int) x14_1 x438000_9 x438001_9 y456 x438003_9 x438004_9) = some (r1, r2, r3, r4, r5) := by first | (rw [hy456]; with_reducible exact H) | (have H2_ := (Option.bind_some _ _).symm.trans H; rw [hy456]; with_reducible exact H2_) | (have H2_ := (Option.bind_some _ _).symm.trans H; with_reducible exact H2_) | with_reducible exact H | (rw [hy456]; exact H) | exact H
        have Ny456 := AZ.mk hy456
        clear hy456
        have H' := AZ.mk H
        clear H
        have hnb65 := NB437_433.out
        have hnc65 := NB433_437.out
        have hcz66_0 : wc.cell? ⟨gb437, 0, none⟩ = some (u438000) := (bc BK437.out 0).trans rfl
        have hcz66_1 : wc.cell? ⟨gb437, 1, none⟩ = some (u438001) := (bc BK437.out 1).trans rfl
        have hcz66_2 : wc.cell? ⟨gb437, 2, none⟩ = some (.slice Ao51 x438002_9.length co51) := (bc BK437.out 2).trans rfl
        have hcz66_3 : wc.cell? ⟨gb437, 3, none⟩ = some (u438003) := (bc BK437.out 3).trans rfl
        have hcz66_4 : wc.cell? ⟨gb437, 4, none⟩ = some (u438004) := (bc BK437.out 4).trans rfl
        have hfz66_0 := bf BK437.out 0
        have hfz66_1 := bf BK437.out 1
        have hfz66_2 := bf BK437.out 2
        have hfz66_3 := bf BK437.out 3
        have hfz66_4 := bf BK437.out 4
        go_wp2_with (first | ((with_reducible refine gate_dst (N := 76) rfl ?_); refine Kd.R_lit (Kd.int .i64) _ 2 ?hg (N := 76) ?hd (xs := ([x14_1] : List Int)) (inner := [.int .i64 x14_1]) (ok := fun _ => True) (okp := fun _ => True) ?hr ?hp (fun _ hk => hk) trivial (Below.refl _ _) (Nat.le_refl _) (by simp) ?_; (case hd => rfl); (case hg => rfl); (case hr => first | (go_simp; done) | (go_simp; rfl)); (case hp => exact (Reps.one (show Kd.M (Kd.int .i64) _ _ _ x14_1 [.int .i64 x14_1] from rfl) (Reps.none _ _))); intro v454 w67 ho68 hb hg_ hnew_; clear hg_ hnew_; (first | rw [← Ny453.out] at ho68 | (simp only [Int.reduceToNat] at ho68; rw [← Ny453.out] at ho68)); have n0_ := AZ.mk (Kd.R_elder' (by (with_reducible repeat (first | apply Kd.R_alloc | apply Kd.R_drewN | apply Kd.R_drew)); exact HO_438000.out) (Kd.R_base ho68) hb); have n1_ := AZ.mk (Kd.R_elder' (by (with_reducible repeat (first | apply Kd.R_alloc | apply Kd.R_drewN | apply Kd.R_drew)); exact HO_438001.out) (Kd.R_base ho68) hb); have n2_ := AZ.mk (Kd.R_elder' (by (with_reducible repeat (first | apply Kd.R_alloc | apply Kd.R_drewN | apply Kd.R_drew)); exact HO_438002.out) (Kd.R_base ho68) hb); have n3_ := AZ.mk (Kd.R_elder' (by (with_reducible repeat (first | apply Kd.R_alloc | apply Kd.R_drewN | apply Kd.R_drew)); exact HO_438003.out) (Kd.R_base ho68) hb); have n4_ := AZ.mk (Kd.R_elder' (by (with_reducible repeat (first | apply Kd.R_alloc | apply Kd.R_drewN | apply Kd.R_drew)); exact HO_438004.out) (Kd.R_base ho68) hb); have n5_ := AZ.mk (Kd.R_lower (Kd.R_new' (Kd.R_new' (Kd.R_new' (Kd.R_new' (Kd.R_new' ho68 (Kd.R_lt (by (with_reducible repeat (first | apply Kd.R_alloc | apply Kd.R_drewN | apply Kd.R_drew)); exact HO_438000.out))) (Kd.R_lt (by (with_reducible repeat (first | apply Kd.R_alloc | apply Kd.R_drewN | apply Kd.R_drew)); exact HO_438001.out))) (Kd.R_lt (by (with_reducible repeat (first | apply Kd.R_alloc | apply Kd.R_drewN | apply Kd.R_drew)); exact HO_438002.out))) (Kd.R_lt (by (with_reducible repeat (first | apply Kd.R_alloc | apply Kd.R_drewN | apply Kd.R_drew)); exact HO_438003.out))) (Kd.R_lt (by (with_reducible repeat (first | apply Kd.R_alloc | apply Kd.R_drewN | apply Kd.R_drew)); exact HO_438004.out))) (pZ (by repeat (first | (with_reducible first | exact HB.out | apply pA | apply pN | apply pD | refine pS ?_ GE433.out | refine pS ?_ GE437.out) | exact HB.out)))); have n6_ := AZ.mk (bb_ (g := gb433) (o := .cells #[.slice none 0 0, .slice none 0 0, .slice none 0 0, .slice none 0 0, .slice none 0 0] 91 (0, 0)) (by (with_reducible repeat (first | refine bn_ ?_ _ | refine bd_ ?_ | refine ba_ ?_ _)); exact BK433.out) hb); have n7_ := AZ.mk (bb_ (g := gb437) (o := .cells #[u438000, u438001, .slice Ao51 x438002_9.length co51, u438003, u438004] 91 (0, 0)) (by (with_reducible repeat (first | refine bn_ ?_ _ | refine bd_ ?_ | refine ba_ ?_ _)); exact BK437.out) hb); have n8_ := AZ.mk (pT (by repeat (first | (with_reducible first | exact HB.out | apply pA | apply pN | apply pD | refine pS ?_ GE433.out | refine pS ?_ GE437.out) | exact HB.out)) hb); clear HO_438000; clear HO_438001; clear HO_438002; clear HO_438003; clear HO_438004; clear BK433; clear BK437; clear HB; have HO_438000 := n0_; have HO_438001 := n1_; have HO_438002 := n2_; have HO_438003 := n3_; have HO_438004 := n4_; have HO455 := n5_; have BK433 := n6_; have BK437 := n7_; have HB := n8_; clear n0_ n1_ n2_ n3_ n4_ n5_ n6_ n7_ n8_; clear hb ho68; obtain ⟨Ao70, co70, eo70⟩ := Kd.R_slice HO455.out; subst eo70) | ((with_reducible refine gate_builtin (b := .append) (xs := #[.tmp 74, .tmp 76]) rfl ?_); at_builtin; refine Kd.R_append_rows (Kd.int .i64) (w0 := w) w.heap.size rfl (.tmp 74) (.tmp 76) 23 2 (.int .i64 0) 8 rfl Try.underlying23 info2 rfl (by decide) (by omega) (.slice Ao51 x438002_9.length co51) x438002_9 y453 _ _ _ (fun k_ => some k_ ≠ (u438000 : Value).ownBlock ∧ some k_ ≠ (u438001 : Value).ownBlock ∧ some k_ ≠ (u438003 : Value).ownBlock ∧ some k_ ≠ (u438004 : Value).ownBlock ∧ some k_ ≠ (.slice Ao70 y453.length co70 : Value).ownBlock) (fun _ => False) rfl rfl ?aO ?aR (fun _ _ h => h) (fun _ h => h.elim) ?aF ?aB ?aS ?aL ?_; (case aR => repeat (first | exact (Kd.R_reads' HO455.out).2.2 | (with_reducible refine Kd.C_alloc ?_ _) | (with_reducible refine Kd.C_drewN ?_ _) | (with_reducible refine Kd.C_drew ?_))); (case aB => exact (by repeat (first | (with_reducible first | exact HB.out | apply pA | apply pN | apply pD | refine pS ?_ GE433.out | refine pS ?_ GE437.out) | exact HB.out))); (case aF => exact (fun k_ hk => ⟨Kd.fresh' (Kd.R_lt (by (with_reducible repeat (first | apply Kd.R_alloc | apply Kd.R_drewN | apply Kd.R_drew)); exact HO_438000.out)) k_ hk, Kd.fresh' (Kd.R_lt (by (with_reducible repeat (first | apply Kd.R_alloc | apply Kd.R_drewN | apply Kd.R_drew)); exact HO_438001.out)) k_ hk, Kd.fresh' (Kd.R_lt (by (with_reducible repeat (first | apply Kd.R_alloc | apply Kd.R_drewN | apply Kd.R_drew)); exact HO_438003.out)) k_ hk, Kd.fresh' (Kd.R_lt (by (with_reducible repeat (first | apply Kd.R_alloc | apply Kd.R_drewN | apply Kd.R_drew)); exact HO_438004.out)) k_ hk, Kd.fresh' (Kd.R_lt (by (with_reducible repeat (first | apply Kd.R_alloc | apply Kd.R_drewN | apply Kd.R_drew)); exact HO455.out)) k_ hk⟩)); (case aO => exact (by (with_reducible repeat (first | apply Kd.R_alloc | apply Kd.R_drewN | apply Kd.R_drew)); exact Kd.R_mono HO_438002.out (fun _ hk => ⟨hk.1.1, ⟨hk.1.2.1, ⟨hk.1.2.2.1, ⟨hk.1.2.2.2, hk.2⟩⟩⟩⟩))); (case aS => exact (pZ (by repeat (first | (with_reducible first | exact HB.out | apply pA | apply pN | apply pD | refine pS ?_ GE433.out | refine pS ?_ GE437.out) | exact HB.out)))); (case aL => have := LMc64.out; omega); intro v457 w69 ho hb hg hat; rw [← Ny456.out] at ho; have n0_ := AZ.mk (Kd.R_after (ok := (fun k_ => some k_ ≠ (u438001 : Value).ownBlock ∧ some k_ ≠ (u438003 : Value).ownBlock ∧ some k_ ≠ (u438004 : Value).ownBlock ∧ some k_ ≠ (.slice Ao70 y453.length co70 : Value).ownBlock)) (by (with_reducible repeat (first | apply Kd.R_alloc | apply Kd.R_drewN | apply Kd.R_drew)); exact Kd.R_mono HO_438000.out (fun _ hk => ⟨⟨hk.1.1, ⟨hk.1.2.2.1, ⟨hk.1.2.2.2, hk.2⟩⟩⟩, hk.1.2.1⟩)) hg hat); have n1_ := AZ.mk (Kd.R_after (ok := (fun k_ => some k_ ≠ (u438000 : Value).ownBlock ∧ some k_ ≠ (u438003 : Value).ownBlock ∧ some k_ ≠ (u438004 : Value).ownBlock ∧ some k_ ≠ (.slice Ao70 y453.length co70 : Value).ownBlock)) (by (with_reducible repeat (first | apply Kd.R_alloc | apply Kd.R_drewN | apply Kd.R_drew)); exact Kd.R_mono HO_438001.out (fun _ hk => ⟨⟨hk.1.1, ⟨hk.1.2.2.1, ⟨hk.1.2.2.2, hk.2⟩⟩⟩, hk.1.2.1⟩)) hg hat); have n2_ := AZ.mk (Kd.R_after (ok := (fun k_ => some k_ ≠ (u438000 : Value).ownBlock ∧ some k_ ≠ (u438001 : Value).ownBlock ∧ some k_ ≠ (u438004 : Value).ownBlock ∧ some k_ ≠ (.slice Ao70 y453.length co70 : Value).ownBlock)) (by (with_reducible repeat (first | apply Kd.R_alloc | apply Kd.R_drewN | apply Kd.R_drew)); exact Kd.R_mono HO_438003.out (fun _ hk => ⟨⟨hk.1.1, ⟨hk.1.2.1, ⟨hk.1.2.2.2, hk.2⟩⟩⟩, hk.1.2.2.1⟩)) hg hat); have n3_ := AZ.mk (Kd.R_after (ok := (fun k_ => some k_ ≠ (u438000 : Value).ownBlock ∧ some k_ ≠ (u438001 : Value).ownBlock ∧ some k_ ≠ (u438003 : Value).ownBlock ∧ some k_ ≠ (.slice Ao70 y453.length co70 : Value).ownBlock)) (by (with_reducible repeat (first | apply Kd.R_alloc | apply Kd.R_drewN | apply Kd.R_drew)); exact Kd.R_mono HO_438004.out (fun _ hk => ⟨⟨hk.1.1, ⟨hk.1.2.1, ⟨hk.1.2.2.2, hk.2⟩⟩⟩, hk.1.2.2.1⟩)) hg hat); have n4_ := AZ.mk (blk_grown (g := gb433) (o := .cells #[.slice none 0 0, .slice none 0 0, .slice none 0 0, .slice none 0 0, .slice none 0 0] 91 (0, 0)) (by (with_reducible repeat (first | refine bn_ ?_ _ | refine bd_ ?_ | refine ba_ ?_ _)); exact BK433.out) hg (Kd.R_ne HO_438002.out BK433.out (by decide))); have n5_ := AZ.mk (blk_grown (g := gb437) (o := .cells #[u438000, u438001, .slice Ao51 x438002_9.length co51, u438003, u438004] 91 (0, 0)) (by (with_reducible repeat (first | refine bn_ ?_ _ | refine bd_ ?_ | refine ba_ ?_ _)); exact BK437.out) hg (Kd.R_ne HO_438002.out BK437.out (by decide))); have n6_ := AZ.mk (Kd.R_after (ok := (fun k_ => some k_ ≠ (u438000 : Value).ownBlock ∧ some k_ ≠ (u438001 : Value).ownBlock ∧ some k_ ≠ (u438003 : Value).ownBlock ∧ some k_ ≠ (u438004 : Value).ownBlock)) (by (with_reducible repeat (first | apply Kd.R_alloc | apply Kd.R_drewN | apply Kd.R_drew)); exact Kd.R_mono HO455.out (fun _ hk => ⟨⟨hk.1.1.1.1.2, ⟨hk.1.1.1.2, ⟨hk.1.2, hk.2⟩⟩⟩, hk.1.1.2⟩)) hg hat); have n7_ := AZ.mk (hb); have n8_ := AZ.mk (ho); clear HO_438000; clear HO_438001; clear HO_438003; clear HO_438004; clear BK433; clear BK437; clear HO455; clear HB; clear HO_438002; have HO_438000 := n0_; have HO_438001 := n1_; have HO_438003 := n2_; have HO_438004 := n3_; have BK433 := n4_; have BK437 := n5_; have HO455 := n6_; have HB := n7_; have HO458 := n8_; clear n0_ n1_ n2_ n3_ n4_ n5_ n6_ n7_ n8_; clear ho hb hg hat; obtain ⟨Ao71, co71, eo71⟩ := Kd.R_slice HO458.out; subst eo71; have hcz72_0 : w69.cell? ⟨gb437, 0, none⟩ = some (u438000) := (bc BK437.out 0).trans rfl; have hcz72_1 : w69.cell? ⟨gb437, 1, none⟩ = some (u438001) := (bc BK437.out 1).trans rfl; have hcz72_2 : w69.cell? ⟨gb437, 2, none⟩ = some (.slice Ao51 x438002_9.length co51) := (bc BK437.out 2).trans rfl; have hcz72_3 : w69.cell? ⟨gb437, 3, none⟩ = some (u438003) := (bc BK437.out 3).trans rfl; have hcz72_4 : w69.cell? ⟨gb437, 4, none⟩ = some (u438004) := (bc BK437.out 4).trans rfl; have hfz72_0 := bf BK437.out 0; have hfz72_1 := bf BK437.out 1; have hfz72_2 := bf BK437.out 2; have hfz72_3 := bf BK437.out 3; have hfz72_4 := bf BK437.out 4))
        go_meet
        case rel => exact ⟨_, ((-2)), (y456), (.slice Ao71 y456.length co71), (by first | rfl | (simp; done) | (simp [*]; done)), H', ⟨by have := HK1.out; have := HJ9.out; have := HJ47.out; first | omega | exact Nat.le_refl _⟩, ⟨by (with_reducible repeat (first | apply Kd.R_alloc | apply Kd.R_drewN | apply Kd.R_drew)); exact Kd.R_mono (Kd.R_far (p := ⟨gb437, 2, none⟩) (Kd.R_types HO_438000.out BK437.out (by decide)) (fun _ hk => hk.2) (.slice Ao71 y456.length co71)) (fun _ hk => ⟨hk.1.1.1, ⟨hk.1.2, ⟨hk.1.1.2.1, hk.1.1.2.2.1⟩⟩⟩)⟩, ⟨by (with_reducible repeat (first | apply Kd.R_alloc | apply Kd.R_drewN | apply Kd.R_drew)); exact Kd.R_mono (Kd.R_far (p := ⟨gb437, 2, none⟩) (Kd.R_types HO_438001.out BK437.out (by decide)) (fun _ hk => hk.2) (.slice Ao71 y456.length co71)) (fun _ hk => ⟨hk.1.1.1, ⟨hk.1.2, ⟨hk.1.1.2.1, hk.1.1.2.2.1⟩⟩⟩)⟩, ⟨by (with_reducible repeat (first | apply Kd.R_alloc | apply Kd.R_drewN | apply Kd.R_drew)); exact Kd.R_mono (Kd.R_far (p := ⟨gb437, 2, none⟩) (Kd.R_types HO458.out BK437.out (by decide)) (fun _ hk => hk.2) (.slice Ao71 y456.length co71)) (fun _ hk => ⟨hk.1.1, ⟨hk.1.2.1, ⟨hk.1.2.2.1, hk.1.2.2.2.1⟩⟩⟩)⟩, ⟨by (with_reducible repeat (first | apply Kd.R_alloc | apply Kd.R_drewN | apply Kd.R_drew)); exact Kd.R_mono (Kd.R_far (p := ⟨gb437, 2, none⟩) (Kd.R_types HO_438003.out BK437.out (by decide)) (fun _ hk => hk.2) (.slice Ao71 y456.length co71)) (fun _ hk => ⟨hk.1.1.1, ⟨hk.1.1.2.1, ⟨hk.1.2, hk.1.1.2.2.1⟩⟩⟩)⟩, ⟨by (with_reducible repeat (first | apply Kd.R_alloc | apply Kd.R_drewN | apply Kd.R_drew)); exact Kd.R_mono (Kd.R_far (p := ⟨gb437, 2, none⟩) (Kd.R_types HO_438004.out BK437.out (by decide)) (fun _ hk => hk.2) (.slice Ao71 y456.length co71)) (fun _ hk => ⟨hk.1.1.1, ⟨hk.1.1.2.1, ⟨hk.1.2, hk.1.1.2.2.1⟩⟩⟩)⟩, ⟨by (with_reducible repeat (first | refine bn_ ?_ _ | refine bd_ ?_ | refine ba_ ?_ _)); refine blk_far ?_ NB433_437.out _; (with_reducible repeat (first | refine bn_ ?_ _ | refine bd_ ?_ | refine ba_ ?_ _)); exact BK433.out⟩, ⟨by (with_reducible repeat (first | refine bn_ ?_ _ | refine bd_ ?_ | refine ba_ ?_ _)); refine blk_put (cs := #[u438000, u438001, .slice Ao51 x438002_9.length co51, u438003, u438004]) ?_ 2 _ rfl; (with_reducible repeat (first | refine bn_ ?_ _ | refine bd_ ?_ | refine ba_ ?_ _)); exact BK437.out⟩, ⟨by repeat (first | (with_reducible first | exact HB.out | apply pA | apply pN | apply pD | refine pS ?_ GE433.out | refine pS ?_ GE437.out) | exact HB.out)⟩⟩
       case rest =>
        clear HC62
        try clear c1
        try clear p1
        try clear q1
        try clear hx1
        try clear c2
        try clear p2
        try clear c3
        try clear p3
        try clear q3
        try clear hx3
        try clear c4
        try clear p4
        try clear q4
        try clear hx4
        try clear hf4
        try clear c5
        try clear c6
        try clear p6
        try clear q6
        try clear hx6
        try clear c7
        try clear c9
        try clear c9b0
        try clear c11
        try clear c15
        try clear c15b0
        try clear c15b1
        try clear c16
        try clear c16b0
        try clear p17
        try clear q17
        try clear hx17
        try clear c19
        try clear c20
        try clear c21
        try clear c22
        try clear c30
        try clear c30b0
        try clear c31
        try clear c31b0
        try clear p32
        try clear q32
        try clear hx32
        try clear c34
        try clear c36
        try clear c36b0
        try clear c37
        try clear c37b0
        try clear c38
        try clear c38b0
        try clear c39
        try clear c39b0
        try clear p40
        try clear q40
        try clear hx40
        try clear hf40
        try clear c41
        try clear c41b0
        try clear c41b1
        try clear c42
        try clear p44
        try clear q44
        try clear hx44
        try clear p45
        try clear q45
        try clear hx45
        try clear q47
        try clear c49
        try clear c52
        try clear c52b0
        try clear c52b1
        try clear c54
        try clear c54b0
        try clear c55
        try clear c55b0
        try clear c56
        try clear c58
        try clear c58b0
        try clear c59
        try clear c59b0
        try clear p60
        try clear q60
        try clear hx60
        try clear c63
        try clear c64
        try clear p64
        try clear c65
        try clear hcz12_0
        try clear hcz12_1
        try clear hcz12_2
        try clear hcz12_3
        try clear hcz12_4
        try clear hcz23_0
        try clear hcz23_1
        try clear hcz23_2
        try clear hcz23_3
        try clear hcz23_4
        try clear hcz29_0
        try clear hcz29_1
        try clear hcz29_2
        try clear hcz29_3
        try clear hcz29_4
        try clear hcz43_0
        try clear hcz43_1
        try clear hcz43_2
        try clear hcz43_3
        try clear hcz43_4
        try clear hcz46_0
        try clear hcz46_1
        try clear hcz46_2
        try clear hcz46_3
        try clear hcz46_4
        try clear hcz50_0
        try clear hcz50_1
        try clear hcz50_2
        try clear hcz50_3
        try clear hcz50_4
        try clear hcz57_0
        try clear hcz57_1
        try clear hcz57_2
        try clear hcz57_3
        try clear hcz57_4
        try clear hcz66_0
        try clear hcz66_1
        try clear hcz66_2
        try clear hcz66_3
        try clear hcz66_4
        try clear hcz72_0
        try clear hcz72_1
        try clear hcz72_2
        try clear hcz72_3
        try clear hcz72_4
        try clear hcz8_0
        try clear hcz8_1
        try clear hcz8_2
        try clear hcz8_3
        try clear hcz8_4
        try clear hfz12_0
        try clear hfz12_1
        try clear hfz12_2
        try clear hfz12_3
        try clear hfz12_4
        try clear hfz23_0
        try clear hfz23_1
        try clear hfz23_2
        try clear hfz23_3
        try clear hfz23_4
        try clear hfz29_0
        try clear hfz29_1
        try clear hfz29_2
        try clear hfz29_3
        try clear hfz29_4
        try clear hfz43_0
        try clear hfz43_1
        try clear hfz43_2
        try clear hfz43_3
        try clear hfz43_4
        try clear hfz46_0
        try clear hfz46_1
        try clear hfz46_2
        try clear hfz46_3
        try clear hfz46_4
        try clear hfz50_0
        try clear hfz50_1
        try clear hfz50_2
        try clear hfz50_3
        try clear hfz50_4
        try clear hfz57_0
        try clear hfz57_1
        try clear hfz57_2
        try clear hfz57_3
        try clear hfz57_4
        try clear hfz66_0
        try clear hfz66_1
        try clear hfz66_2
        try clear hfz66_3
        try clear hfz66_4
        try clear hfz72_0
        try clear hfz72_1
        try clear hfz72_2
        try clear hfz72_3
        try clear hfz72_4
        try clear hfz8_0
        try clear hfz8_1
        try clear hfz8_2
        try clear hfz8_3
        try clear hfz8_4
        try clear hx40_0
        try clear hx446_0
        try clear hx451_0
        try clear p1
        try clear p17
        try clear p2
        try clear p3
        try clear p32
        try clear p4
        try clear p40
        try clear p44
        try clear p446
        try clear p45
        try clear p451
        try clear p6
        try clear p60
        try clear q1
        try clear q17
        try clear q3
        try clear q32
        try clear q4
        try clear q40
        try clear q44
        try clear q446
        try clear q45
        try clear q451
        try clear q47
        try clear q60
        obtain ⟨kq, x6_61, x438002_61, u438002, rfl, HA, HJ61, HO_438000, HO_438001, HO_438002, HO_438003, HO_438004, BK433, BK437, HB⟩ := hcut
        cases kq with
        | zero => exact absurd HA.out (by simp [impl_match.j4])
        | succ kj61 =>
         have H := HA.out
         clear HA
         simp only [impl_match.j4] at H
         obtain ⟨y459, hy459⟩ : ∃ y_ : List Int, y_ = (([x6_61] : List Int)) := ⟨_, rfl⟩
         replace H : (if x438000_9.length + y459.length < 17592186044416 then ((some (([x8_47] : List Int) : List Int)).bind fun y465 => (if x438004_9.length + y465.length < 17592186044416 then ((impl_size_int64.f x438002_61).bind fun t471 => ((some (([t471] : List Int) : List Int)).bind fun y472 => (if x438003_9.length + y472.length < 17592186044416 then (impl_match.l0 kj61 a0 (a0.size : Int) (wrap64 (x14_1 + 1)) (x438000_9 ++ y459) x438001_9 x438002_61 (x438003_9 ++ y472) (x438004_9 ++ y465)) else (none)))) else (none))) else (none)) = some (r1, r2, r3, r4, r5) := by first | (rw [hy459]; with_reducible exact H) | (have H2_ := (Option.bind_some _ _).symm.trans H; rw [hy459]; with_reducible exact H2_) | (have H2_ := (Option.bind_some _ _).symm.trans H; with_reducible exact H2_) | with_reducible exact H | (rw [hy459]; exact H) | exact H
         have Ny459 := AZ.mk hy459
         clear hy459
         by_cases c73 : x438000_9.length + y459.length < 17592186044416
         rotate_left
         ·rw [if_neg c73] at H
          exact absurd H (by simp)
         rw [if_pos c73] at H
         have LMc73 := AZ.mk c73
         clear c73
         obtain ⟨y462, hy462⟩ : ∃ y_ : List Int, y_ = (x438000_9 ++ y459) := ⟨_, rfl⟩
         replace H : ((some (([x8_47] : List Int) : List Int)).bind fun y465 => (if x438004_9.length + y465.length < 17592186044416 then ((impl_size_int64.f x438002_61).bind fun t471 => ((some (([t471] : List Int) : List Int)).bind fun y472 => (if x438003_9.length + y472.length < 17592186044416 then (impl_match.l0 kj61 a0 (a0.size : Int) (wrap64 (x14_1 + 1)) y462 x438001_9 x438002_61 (x438003_9 ++ y472) (x438004_9 ++ y465)) else (none)))) else (none))) = some (r1, r2, r3, r4, r5) := by first | (rw [hy462]; with_reducible exact H) | (have H2_ := (Option.bind_some _ _).symm.trans H; rw [hy462]; with_reducible exact H2_) | (have H2_ := (Option.bind_some _ _).symm.trans H; with_reducible exact H2_) | with_reducible exact H | (rw [hy462]; exact H) | exact H
         have Ny462 := AZ.mk hy462
         clear hy462
         obtain ⟨y465, hy465⟩ : ∃ y_ : List Int, y_ = (([x8_47] : List Int)) := ⟨_, rfl⟩
         replace H : (if x438004_9.length + y465.length < 17592186044416 then ((impl_size_int64.f x438002_61).bind fun t471 => ((some (([t471] : List Int) : List Int)).bind fun y472 => (if x438003_9.length + y472.length < 17592186044416 then (impl_match.l0 kj61 a0 (a0.size : Int) (wrap64 (x14_1 + 1)) y462 x438001_9 x438002_61 (x438003_9 ++ y472) (x438004_9 ++ y465)) else (none)))) else (none)) = some (r1, r2, r3, r4, r5) := by first | (rw [hy465]; with_reducible exact H) | (have H2_ := (Option.bind_some _ _).symm.trans H; rw [hy465]; with_reducible exact H2_) | (have H2_ := (Option.bind_some _ _).symm.trans H; with_reducible exact H2_) | with_reducible exact H | (rw [hy465]; exact H) | exact H
         have Ny465 := AZ.mk hy465
         clear hy465
         by_cases c74 : x438004_9.length + y465.length < 17592186044416
         rotate_left
         ·rw [if_neg c74] at H
          exact absurd H (by simp)
         rw [if_pos c74] at H
         have LMc74 := AZ.mk c74
         clear c74
         obtain ⟨y468, hy468⟩ : ∃ y_ : List Int, y_ = (x438004_9 ++ y465) := ⟨_, rfl⟩
         replace H : ((impl_size_int64.f x438002_61).bind fun t471 => ((some (([t471] : List Int) : List Int)).bind fun y472 => (if x438003_9.length + y472.length < 17592186044416 then (impl_match.l0 kj61 a0 (a0.size : Int) (wrap64 (x14_1 + 1)) y462 x438001_9 x438002_61 (x438003_9 ++ y472) y468) else (none)))) = some (r1, r2, r3, r4, r5) := by first | (rw [hy468]; with_reducible exact H) | (have H2_ := (Option.bind_some _ _).symm.trans H; rw [hy468]; with_reducible exact H2_) | (have H2_ := (Option.bind_some _ _).symm.trans H; with_reducible exact H2_) | with_reducible exact H | (rw [hy468]; exact H) | exact H
         have Ny468 := AZ.mk hy468
         clear hy468
         replace H := Option.bind_eq_some_iff.mp H
         obtain ⟨t471, A750, H⟩ := H
         replace H : ((some (([t471] : List Int) : List Int)).bind fun y472 => (if x438003_9.length + y472.length < 17592186044416 then (impl_match.l0 kj61 a0 (a0.size : Int) (wrap64 (x14_1 + 1)) y462 x438001_9 x438002_61 (x438003_9 ++ y472) y468) else (none))) = some (r1, r2, r3, r4, r5) := H
         have A75 := AZ.mk A750
         clear A750
         obtain ⟨y472, hy472⟩ : ∃ y_ : List Int, y_ = (([t471] : List Int)) := ⟨_, rfl⟩
         replace H : (if x438003_9.length + y472.length < 17592186044416 then (impl_match.l0 kj61 a0 (a0.size : Int) (wrap64 (x14_1 + 1)) y462 x438001_9 x438002_61 (x438003_9 ++ y472) y468) else (none)) = some (r1, r2, r3, r4, r5) := by first | (rw [hy472]; with_reducible exact H) | (have H2_ := (Option.bind_some _ _).symm.trans H; rw [hy472]; with_reducible exact H2_) | (have H2_ := (Option.bind_some _ _).symm.trans H; with_reducible exact H2_) | with_reducible exact H | (rw [hy472]; exact H) | exact H
         have Ny472 := AZ.mk hy472
         clear hy472
         by_cases c76 : x438003_9.length + y472.length < 17592186044416
         rotate_left
         ·rw [if_neg c76] at H
          exact absurd H (by simp)
         rw [if_pos c76] at H
         have LMc76 := AZ.mk c76
         clear c76
         obtain ⟨y475, hy475⟩ : ∃ y_ : List Int, y_ = (x438003_9 ++ y472) := ⟨_, rfl⟩
         replace H : (impl_match.l0 kj61 a0 (a0.size : Int) (wrap64 (x14_1 + 1)) y462 x438001_9 x438002_61 y475 y468) = some (r1, r2, r3, r4, r5) := by first | (rw [hy475]; with_reducible exact H) | (have H2_ := (Option.bind_some _ _).symm.trans H; rw [hy475]; with_reducible exact H2_) | (have H2_ := (Option.bind_some _ _).symm.trans H; with_reducible exact H2_) | with_reducible exact H | (rw [hy475]; exact H) | exact H
         have Ny475 := AZ.mk hy475
         clear hy475
         have H' := AZ.mk H
         clear H
         obtain ⟨Ao77, co77, eo77⟩ := Kd.R_slice HO_438000.out
         subst eo77
         obtain ⟨Ao78, co78, eo78⟩ := Kd.R_slice HO_438004.out
         subst eo78
         try go_wp2
         have n0_ := AZ.mk (Kd.R_drew HO_438000.out)
         have n1_ := AZ.mk (Kd.R_drew HO_438001.out)
         have n2_ := AZ.mk (Kd.R_drew HO_438002.out)
         have n3_ := AZ.mk (Kd.R_drew HO_438003.out)
         have n4_ := AZ.mk (Kd.R_drew HO_438004.out)
         have n5_ := AZ.mk (bd_ BK433.out)
         have n6_ := AZ.mk (bd_ BK437.out)
         have n7_ := AZ.mk (pD HB.out)
         clear HO_438000
         clear HO_438001
         clear HO_438002
         clear HO_438003
         clear HO_438004
         clear BK433
         clear BK437
         clear HB
         have HO_438000 := n0_
         have HO_438001 := n1_
         have HO_438002 := n2_
         have HO_438003 := n3_
         have HO_438004 := n4_
         have BK433 := n5_
         have BK437 := n6_
         have HB := n7_
         clear n0_ n1_ n2_ n3_ n4_ n5_ n6_ n7_
         refine start_ (n := 14) (S := fun w' => w'.cell? ⟨gb437, 0, none⟩ = some (.slice Ao77 x438000_9.length co77) ∧ w'.cell? ⟨gb437, 1, none⟩ = some (u438001) ∧ w'.cell? ⟨gb437, 2, none⟩ = some (u438002) ∧ w'.cell? ⟨gb437, 3, none⟩ = some (u438003) ∧ w'.cell? ⟨gb437, 4, none⟩ = some (.slice Ao78 x438004_9.length co78)) (ds := [11, 13]) (bz 14 0) (by kernel_rfl) rfl rfl ⟨(bc BK437.out 0).trans rfl, (bc BK437.out 1).trans rfl, (bc BK437.out 2).trans rfl, (bc BK437.out 3).trans rfl, (bc BK437.out 4).trans rfl⟩ (fun hHeld => ?_); refine with_tabW impl_match.tab21 impl_match.bits21 (fun HT_ HW_ => ?_)
         generalize wc.drew = w79 at HO_438000 HO_438001 HO_438002 HO_438003 HO_438004 BK433 BK437 HB hHeld ⊢
         iterate 6 (first | (refine pz_ HT_ impl_match.cz0 rfl rfl rfl (v := ?_) (a' := ?_) (by kernel_rfl) (fun _ _ _ h => h) (Or.inl ⟨by rfl, ?_⟩) ?_ ?_; rotate_left; (intro w'; go_simp; with_reducible rfl); rotate_left; (simp only [Act.put, sA, sB, sC, i64_w, i32_w]; rfl)) | (refine tz_ HT_ HW_ impl_match.cz0 rfl rfl rfl (v := ?_) (a' := ?_) (by kernel_rfl) (fun _ _ _ h => h) (Or.inl ⟨by rfl, ?_⟩) hHeld ?_ ?_; rotate_left; (rintro w' ⟨s0, s1, s2, s3, s4⟩; go_simp; with_reducible rfl); rotate_left; (simp only [Act.put, sA, sB, sC, i64_w, i32_w]; rfl)))
         refine join_ (σ := Value × Value × Value) 4 (bz 14 1535) (fun s_ => [(82, s_.1), (83, s_.2.1), (87, s_.2.2), (89, .pointer (some ⟨gb437, 0, none⟩))]) (fun s_ w' => (w'.cell? ⟨gb437, 0, none⟩ = some (.slice Ao77 x438000_9.length co77) ∧ w'.cell? ⟨gb437, 1, none⟩ = some (u438001) ∧ w'.cell? ⟨gb437, 2, none⟩ = some (u438002) ∧ w'.cell? ⟨gb437, 3, none⟩ = some (u438003) ∧ w'.cell? ⟨gb437, 4, none⟩ = some (.slice Ao78 x438004_9.length co78)) ∧ (Kd.R (Kd.int .i64) 2 w' w.heap.size (fun k_ => some k_ ≠ (s_.2.1 : Value).ownBlock ∧ some k_ ≠ (s_.2.2 : Value).ownBlock ∧ some k_ ≠ (u438001 : Value).ownBlock ∧ some k_ ≠ (u438002 : Value).ownBlock ∧ some k_ ≠ (u438003 : Value).ownBlock ∧ some k_ ≠ (.slice Ao78 x438004_9.length co78 : Value).ownBlock) s_.1 y459) ∧ (Kd.R (Kd.int .i64) 2 w' w.heap.size (fun k_ => some k_ ≠ (s_.1 : Value).ownBlock ∧ some k_ ≠ (s_.2.2 : Value).ownBlock ∧ some k_ ≠ (u438001 : Value).ownBlock ∧ some k_ ≠ (u438002 : Value).ownBlock ∧ some k_ ≠ (u438003 : Value).ownBlock ∧ some k_ ≠ (.slice Ao78 x438004_9.length co78 : Value).ownBlock) s_.2.1 y462) ∧ (Kd.R (Kd.int .i64) 2 w' w.heap.size (fun k_ => some k_ ≠ (s_.1 : Value).ownBlock ∧ some k_ ≠ (s_.2.1 : Value).ownBlock ∧ some k_ ≠ (u438001 : Value).ownBlock ∧ some k_ ≠ (u438002 : Value).ownBlock ∧ some k_ ≠ (u438003 : Value).ownBlock ∧ some k_ ≠ (.slice Ao78 x438004_9.length co78 : Value).ownBlock) s_.2.2 y465) ∧ (Kd.R (Kd.int .i64) 2 w' w.heap.size (fun k_ => some k_ ≠ (s_.1 : Value).ownBlock ∧ some k_ ≠ (s_.2.1 : Value).ownBlock ∧ some k_ ≠ (s_.2.2 : Value).ownBlock ∧ some k_ ≠ (u438002 : Value).ownBlock ∧ some k_ ≠ (u438003 : Value).ownBlock ∧ some k_ ≠ (.slice Ao78 x438004_9.length co78 : Value).ownBlock) u438001 x438001_9) ∧ (Kd.R (Kd.int .i64) 2 w' w.heap.size (fun k_ => some k_ ≠ (s_.1 : Value).ownBlock ∧ some k_ ≠ (s_.2.1 : Value).ownBlock ∧ some k_ ≠ (s_.2.2 : Value).ownBlock ∧ some k_ ≠ (u438001 : Value).ownBlock ∧ some k_ ≠ (u438003 : Value).ownBlock ∧ some k_ ≠ (.slice Ao78 x438004_9.length co78 : Value).ownBlock) u438002 x438002_61) ∧ (Kd.R (Kd.int .i64) 2 w' w.heap.size (fun k_ => some k_ ≠ (s_.1 : Value).ownBlock ∧ some k_ ≠ (s_.2.1 : Value).ownBlock ∧ some k_ ≠ (s_.2.2 : Value).ownBlock ∧ some k_ ≠ (u438001 : Value).ownBlock ∧ some k_ ≠ (u438002 : Value).ownBlock ∧ some k_ ≠ (.slice Ao78 x438004_9.length co78 : Value).ownBlock) u438003 x438003_9) ∧ (Kd.R (Kd.int .i64) 2 w' w.heap.size (fun k_ => some k_ ≠ (s_.1 : Value).ownBlock ∧ some k_ ≠ (s_.2.1 : Value).ownBlock ∧ some k_ ≠ (s_.2.2 : Value).ownBlock ∧ some k_ ≠ (u438001 : Value).ownBlock ∧ some k_ ≠ (u438002 : Value).ownBlock ∧ some k_ ≠ (u438003 : Value).ownBlock) (.slice Ao78 x438004_9.length co78) x438004_9) ∧ (w'.heap[gb433]? = some (.cells #[.slice none 0 0, .slice none 0 0, .slice none 0 0, .slice none 0 0, .slice none 0 0] 91 (0, 0))) ∧ (w'.heap[gb437]? = some (.cells #[.slice Ao77 x438000_9.length co77, u438001, u438002, u438003, .slice Ao78 x438004_9.length co78] 91 (0, 0))) ∧ (Below w.heap.size w w')) ?_ ?_
         rotate_left
         ·intro hCont
          refine two_ (i := 3) (j := 8) (Ni := some 82) (Nj := some 87) (bz 14 239) (bz 14 487) rfl rfl rfl rfl (two_of HT_.out (by kernel_rfl)) (by decide) (by decide) (fun K hK => ?_) (fun K hK => ?_)
          ·skip
           refine Kd.R_lit_step (Kd.int .i64) _ 2 ?hg (N := 82) ?hd (xs := ([x6_61] : List Int)) (inner := [.int .i64 x6_61]) (ok := fun _ => True) (okp := fun _ => True) ?hr ?hp (fun _ hk => hk) trivial (Below.refl _ _) (Nat.le_refl _) (by simp) ?_; (case hd => rfl); (case hg => rfl); (case hr => first | (go_simp; done) | (go_simp; rfl)); (case hp => exact (Reps.one (show Kd.M (Kd.int .i64) _ _ _ x6_61 [.int .i64 x6_61] from rfl) (Reps.none _ _)))
           intro v460 w80 ho81 hb hg_ hnew_
           clear hg_ hnew_
           (first | rw [← Ny459.out] at ho81 | (simp only [Int.reduceToNat] at ho81; rw [← Ny459.out] at ho81))
           have n0_ := AZ.mk (Kd.R_elder' (by (with_reducible repeat (first | apply Kd.R_alloc | apply Kd.R_drewN | apply Kd.R_drew)); exact HO_438000.out) (Kd.R_base ho81) hb)
           have n1_ := AZ.mk (Kd.R_elder' (by (with_reducible repeat (first | apply Kd.R_alloc | apply Kd.R_drewN | apply Kd.R_drew)); exact HO_438001.out) (Kd.R_base ho81) hb)
           have n2_ := AZ.mk (Kd.R_elder' (by (with_reducible repeat (first | apply Kd.R_alloc | apply Kd.R_drewN | apply Kd.R_drew)); exact HO_438002.out) (Kd.R_base ho81) hb)
           have n3_ := AZ.mk (Kd.R_elder' (by (with_reducible repeat (first | apply Kd.R_alloc | apply Kd.R_drewN | apply Kd.R_drew)); exact HO_438003.out) (Kd.R_base ho81) hb)
           have n4_ := AZ.mk (Kd.R_elder' (by (with_reducible repeat (first | apply Kd.R_alloc | apply Kd.R_drewN | apply Kd.R_drew)); exact HO_438004.out) (Kd.R_base ho81) hb)
           have n5_ := AZ.mk (Kd.R_lower (Kd.R_new' (Kd.R_new' (Kd.R_new' (Kd.R_new' (Kd.R_new' ho81 (Kd.R_lt (by (with_reducible repeat (first | apply Kd.R_alloc | apply Kd.R_drewN | apply Kd.R_drew)); exact HO_438000.out))) (Kd.R_lt (by (with_reducible repeat (first | apply Kd.R_alloc | apply Kd.R_drewN | apply Kd.R_drew)); exact HO_438001.out))) (Kd.R_lt (by (with_reducible repeat (first | apply Kd.R_alloc | apply Kd.R_drewN | apply Kd.R_drew)); exact HO_438002.out))) (Kd.R_lt (by (with_reducible repeat (first | apply Kd.R_alloc | apply Kd.R_drewN | apply Kd.R_drew)); exact HO_438003.out))) (Kd.R_lt (by (with_reducible repeat (first | apply Kd.R_alloc | apply Kd.R_drewN | apply Kd.R_drew)); exact HO_438004.out))) (pZ (by repeat (first | (with_reducible first | exact HB.out | apply pA | apply pN | apply pD | refine pS ?_ GE433.out | refine pS ?_ GE437.out) | exact HB.out))))
           have n6_ := AZ.mk (bb_ (g := gb433) (o := .cells #[.slice none 0 0, .slice none 0 0, .slice none 0 0, .slice none 0 0, .slice none 0 0] 91 (0, 0)) (by (with_reducible repeat (first | refine bn_ ?_ _ | refine bd_ ?_ | refine ba_ ?_ _)); exact BK433.out) hb)
           have n7_ := AZ.mk (bb_ (g := gb437) (o := .cells #[.slice Ao77 x438000_9.length co77, u438001, u438002, u438003, .slice Ao78 x438004_9.length co78] 91 (0, 0)) (by (with_reducible repeat (first | refine bn_ ?_ _ | refine bd_ ?_ | refine ba_ ?_ _)); exact BK437.out) hb)
           have n8_ := AZ.mk (pT (by repeat (first | (with_reducible first | exact HB.out | apply pA | apply pN | apply pD | refine pS ?_ GE433.out | refine pS ?_ GE437.out) | exact HB.out)) hb)
           clear HO_438000
           clear HO_438001
           clear HO_438002
           clear HO_438003
           clear HO_438004
           clear BK433
           clear BK437
           clear HB
           have HO_438000 := n0_
           have HO_438001 := n1_
           have HO_438002 := n2_
           have HO_438003 := n3_
           have HO_438004 := n4_
           have HO461 := n5_
           have BK433 := n6_
           have BK437 := n7_
           have HB := n8_
           clear n0_ n1_ n2_ n3_ n4_ n5_ n6_ n7_ n8_
           clear hb ho81
           obtain ⟨Ao83, co83, eo83⟩ := Kd.R_slice HO461.out
           (first | subst eo83 | (injection eo83 with f1_ f2_ f3_; have f4_ := f1_.symm; have f5_ := f3_.symm; clear f1_ f2_ f3_; subst f4_; subst f5_))
           refine hK.out _ _ ⟨(bc BK437.out 0).trans rfl, (bc BK437.out 1).trans rfl, (bc BK437.out 2).trans rfl, (bc BK437.out 3).trans rfl, (bc BK437.out 4).trans rfl⟩ (fun hHeld => ?_)
           clear hK K
           refine norm_ (a' := ?_) ?_ ?_
           rotate_left
           ·show Act.put _ (some 82) _ = _
            simp only [Act.put, sA, sB, sC, i64_w, i32_w]
            rfl
           refine two_ (i := 4) (j := 8) (Ni := some 83) (Nj := some 87) (bz 14 255) (bz 14 495) rfl rfl rfl rfl (two_of HT_.out (by kernel_rfl)) (by decide) (by decide) (fun K hK => ?_) (fun K hK => ?_)
           ·skip
            refine Kd.R_append_rows_step (Kd.int .i64) (w0 := w) w.heap.size (by rfl) (.tmp 80) (.tmp 82) 23 2 (.int .i64 0) 8 rfl Try.underlying23 info2 rfl (by decide) (by omega) (.slice Ao77 x438000_9.length co77) x438000_9 y459 _ _ _ (fun k_ => some k_ ≠ (u438001 : Value).ownBlock ∧ some k_ ≠ (u438002 : Value).ownBlock ∧ some k_ ≠ (u438003 : Value).ownBlock ∧ some k_ ≠ (.slice Ao78 x438004_9.length co78 : Value).ownBlock ∧ some k_ ≠ (.slice Ao83 y459.length co83 : Value).ownBlock) (fun _ => False) rfl rfl ?aO ?aR (fun _ _ h => h) (fun _ h => h.elim) ?aF ?aB ?aS ?aL ?_
            (case aR => repeat (first | exact (Kd.R_reads' HO461.out).2.2 | (with_reducible refine Kd.C_alloc ?_ _) | (with_reducible refine Kd.C_drewN ?_ _) | (with_reducible refine Kd.C_drew ?_)))
            (case aB => exact (by repeat (first | (with_reducible first | exact HB.out | apply pA | apply pN | apply pD | refine pS ?_ GE433.out | refine pS ?_ GE437.out) | exact HB.out)))
            (case aF => exact (fun k_ hk => ⟨Kd.fresh' (Kd.R_lt (by (with_reducible repeat (first | apply Kd.R_alloc | apply Kd.R_drewN | apply Kd.R_drew)); exact HO_438001.out)) k_ hk, Kd.fresh' (Kd.R_lt (by (with_reducible repeat (first | apply Kd.R_alloc | apply Kd.R_drewN | apply Kd.R_drew)); exact HO_438002.out)) k_ hk, Kd.fresh' (Kd.R_lt (by (with_reducible repeat (first | apply Kd.R_alloc | apply Kd.R_drewN | apply Kd.R_drew)); exact HO_438003.out)) k_ hk, Kd.fresh' (Kd.R_lt (by (with_reducible repeat (first | apply Kd.R_alloc | apply Kd.R_drewN | apply Kd.R_drew)); exact HO_438004.out)) k_ hk, Kd.fresh' (Kd.R_lt (by (with_reducible repeat (first | apply Kd.R_alloc | apply Kd.R_drewN | apply Kd.R_drew)); exact HO461.out)) k_ hk⟩))
            (case aO => exact (by (with_reducible repeat (first | apply Kd.R_alloc | apply Kd.R_drewN | apply Kd.R_drew)); exact Kd.R_mono HO_438000.out (fun _ hk => ⟨hk.1.1, ⟨hk.1.2.1, ⟨hk.1.2.2.1, ⟨hk.1.2.2.2, hk.2⟩⟩⟩⟩)))
            (case aS => exact (pZ (by repeat (first | (with_reducible first | exact HB.out | apply pA | apply pN | apply pD | refine pS ?_ GE433.out | refine pS ?_ GE437.out) | exact HB.out))))
            (case aL => have := LMc73.out; omega)
            intro v463 w82 ho hb hg hat
            rw [← Ny462.out] at ho
            have n0_ := AZ.mk (Kd.R_after (ok := (fun k_ => some k_ ≠ (u438002 : Value).ownBlock ∧ some k_ ≠ (u438003 : Value).ownBlock ∧ some k_ ≠ (.slice Ao78 x438004_9.length co78 : Value).ownBlock ∧ some k_ ≠ (.slice Ao83 y459.length co83 : Value).ownBlock)) (by (with_reducible repeat (first | apply Kd.R_alloc | apply Kd.R_drewN | apply Kd.R_drew)); exact Kd.R_mono HO_438001.out (fun _ hk => ⟨⟨hk.1.2.1, ⟨hk.1.2.2.1, ⟨hk.1.2.2.2, hk.2⟩⟩⟩, hk.1.1⟩)) hg hat)
            have n1_ := AZ.mk (Kd.R_after (ok := (fun k_ => some k_ ≠ (u438001 : Value).ownBlock ∧ some k_ ≠ (u438003 : Value).ownBlock ∧ some k_ ≠ (.slice Ao78 x438004_9.length co78 : Value).ownBlock ∧ some k_ ≠ (.slice Ao83 y459.length co83 : Value).ownBlock)) (by (with_reducible repeat (first | apply Kd.R_alloc | apply Kd.R_drewN | apply Kd.R_drew)); exact Kd.R_mono HO_438002.out (fun _ hk => ⟨⟨hk.1.2.1, ⟨hk.1.2.2.1, ⟨hk.1.2.2.2, hk.2⟩⟩⟩, hk.1.1⟩)) hg hat)
            have n2_ := AZ.mk (Kd.R_after (ok := (fun k_ => some k_ ≠ (u438001 : Value).ownBlock ∧ some k_ ≠ (u438002 : Value).ownBlock ∧ some k_ ≠ (.slice Ao78 x438004_9.length co78 : Value).ownBlock ∧ some k_ ≠ (.slice Ao83 y459.length co83 : Value).ownBlock)) (by (with_reducible repeat (first | apply Kd.R_alloc | apply Kd.R_drewN | apply Kd.R_drew)); exact Kd.R_mono HO_438003.out (fun _ hk => ⟨⟨hk.1.2.1, ⟨hk.1.2.2.1, ⟨hk.1.2.2.2, hk.2⟩⟩⟩, hk.1.1⟩)) hg hat)
            have n3_ := AZ.mk (Kd.R_after (ok := (fun k_ => some k_ ≠ (u438001 : Value).ownBlock ∧ some k_ ≠ (u438002 : Value).ownBlock ∧ some k_ ≠ (u438003 : Value).ownBlock ∧ some k_ ≠ (.slice Ao83 y459.length co83 : Value).ownBlock)) (by (with_reducible repeat (first | apply Kd.R_alloc | apply Kd.R_drewN | apply Kd.R_drew)); exact Kd.R_mono HO_438004.out (fun _ hk => ⟨⟨hk.1.2.1, ⟨hk.1.2.2.1, ⟨hk.1.2.2.2, hk.2⟩⟩⟩, hk.1.1⟩)) hg hat)
            have n4_ := AZ.mk (blk_grown (g := gb433) (o := .cells #[.slice none 0 0, .slice none 0 0, .slice none 0 0, .slice none 0 0, .slice none 0 0] 91 (0, 0)) (by (with_reducible repeat (first | refine bn_ ?_ _ | refine bd_ ?_ | refine ba_ ?_ _)); exact BK433.out) hg (Kd.R_ne HO_438000.out BK433.out (by decide)))
            have n5_ := AZ.mk (blk_grown (g := gb437) (o := .cells #[.slice Ao77 x438000_9.length co77, u438001, u438002, u438003, .slice Ao78 x438004_9.length co78] 91 (0, 0)) (by (with_reducible repeat (first | refine bn_ ?_ _ | refine bd_ ?_ | refine ba_ ?_ _)); exact BK437.out) hg (Kd.R_ne HO_438000.out BK437.out (by decide)))
            have n6_ := AZ.mk (Kd.R_after (ok := (fun k_ => some k_ ≠ (u438001 : Value).ownBlock ∧ some k_ ≠ (u438002 : Value).ownBlock ∧ some k_ ≠ (u438003 : Value).ownBlock ∧ some k_ ≠ (.slice Ao78 x438004_9.length co78 : Value).ownBlock)) (by (with_reducible repeat (first | apply Kd.R_alloc | apply Kd.R_drewN | apply Kd.R_drew)); exact Kd.R_mono HO461.out (fun _ hk => ⟨⟨hk.1.1.1.2, ⟨hk.1.1.2, ⟨hk.1.2, hk.2⟩⟩⟩, hk.1.1.1.1.2⟩)) hg hat)
            have n7_ := AZ.mk (hb)
            have n8_ := AZ.mk (ho)
            clear HO_438001
            clear HO_438002
            clear HO_438003
            clear HO_438004
            clear BK433
            clear BK437
            clear HO461
            clear HB
            clear HO_438000
            have HO_438001 := n0_
            have HO_438002 := n1_
            have HO_438003 := n2_
            have HO_438004 := n3_
            have BK433 := n4_
            have BK437 := n5_
            have HO461 := n6_
            have HB := n7_
            have HO464 := n8_
            clear n0_ n1_ n2_ n3_ n4_ n5_ n6_ n7_ n8_
            clear ho hb hg hat
            refine hK.out _ _ ⟨(bc BK437.out 0).trans rfl, (bc BK437.out 1).trans rfl, (bc BK437.out 2).trans rfl, (bc BK437.out 3).trans rfl, (bc BK437.out 4).trans rfl⟩ (fun hHeld => ?_)
            clear hK K
            refine norm_ (a' := ?_) ?_ ?_
            rotate_left
            ·show Act.put _ (some 83) _ = _
             simp only [Act.put, sA, sB, sC, i64_w, i32_w]
             rfl
            refine pure_ (i := 10) (N := some 89) (v := ?_) (a' := ?_) (bz 14 1279) rfl rfl (any_of HT_.out (by kernel_rfl)) (fun _ _ _ h => h) (Or.inl ⟨by rfl, ?_⟩) ?_ ?_
            rotate_left
            ·intro w'
             go_simp
             with_reducible rfl
            rotate_left
            ·simp only [Act.put, sA, sB, sC, i64_w, i32_w]
             rfl
            refine one_ (i := 8) (N := some 87) (bz 14 1535) rfl rfl (one_of HT_.out (by kernel_rfl)) (by decide) (fun K hK => ?_)
            refine Kd.R_lit_step (Kd.int .i64) _ 2 ?hg (N := 87) ?hd (xs := ([x8_47] : List Int)) (inner := [.int .i64 x8_47]) (ok := fun _ => True) (okp := fun _ => True) ?hr ?hp (fun _ hk => hk) trivial (Below.refl _ _) (Nat.le_refl _) (by simp) ?_; (case hd => rfl); (case hg => rfl); (case hr => first | (go_simp; done) | (go_simp; rfl)); (case hp => exact (Reps.one (show Kd.M (Kd.int .i64) _ _ _ x8_47 [.int .i64 x8_47] from rfl) (Reps.none _ _)))
            intro v466 w84 ho85 hb hg_ hnew_
            clear hg_ hnew_
            (first | rw [← Ny465.out] at ho85 | (simp only [Int.reduceToNat] at ho85; rw [← Ny465.out] at ho85))
            have n0_ := AZ.mk (Kd.R_elder' (by (with_reducible repeat (first | apply Kd.R_alloc | apply Kd.R_drewN | apply Kd.R_drew)); exact HO_438001.out) (Kd.R_base ho85) hb)
            have n1_ := AZ.mk (Kd.R_elder' (by (with_reducible repeat (first | apply Kd.R_alloc | apply Kd.R_drewN | apply Kd.R_drew)); exact HO_438002.out) (Kd.R_base ho85) hb)
            have n2_ := AZ.mk (Kd.R_elder' (by (with_reducible repeat (first | apply Kd.R_alloc | apply Kd.R_drewN | apply Kd.R_drew)); exact HO_438003.out) (Kd.R_base ho85) hb)
            have n3_ := AZ.mk (Kd.R_elder' (by (with_reducible repeat (first | apply Kd.R_alloc | apply Kd.R_drewN | apply Kd.R_drew)); exact HO_438004.out) (Kd.R_base ho85) hb)
            have n4_ := AZ.mk (Kd.R_elder' (by (with_reducible repeat (first | apply Kd.R_alloc | apply Kd.R_drewN | apply Kd.R_drew)); exact HO461.out) (Kd.R_base ho85) hb)
            have n5_ := AZ.mk (Kd.R_elder' (by (with_reducible repeat (first | apply Kd.R_alloc | apply Kd.R_drewN | apply Kd.R_drew)); exact HO464.out) (Kd.R_base ho85) hb)
            have n6_ := AZ.mk (Kd.R_lower (Kd.R_new' (Kd.R_new' (Kd.R_new' (Kd.R_new' (Kd.R_new' (Kd.R_new' ho85 (Kd.R_lt (by (with_reducible repeat (first | apply Kd.R_alloc | apply Kd.R_drewN | apply Kd.R_drew)); exact HO_438001.out))) (Kd.R_lt (by (with_reducible repeat (first | apply Kd.R_alloc | apply Kd.R_drewN | apply Kd.R_drew)); exact HO_438002.out))) (Kd.R_lt (by (with_reducible repeat (first | apply Kd.R_alloc | apply Kd.R_drewN | apply Kd.R_drew)); exact HO_438003.out))) (Kd.R_lt (by (with_reducible repeat (first | apply Kd.R_alloc | apply Kd.R_drewN | apply Kd.R_drew)); exact HO_438004.out))) (Kd.R_lt (by (with_reducible repeat (first | apply Kd.R_alloc | apply Kd.R_drewN | apply Kd.R_drew)); exact HO461.out))) (Kd.R_lt (by (with_reducible repeat (first | apply Kd.R_alloc | apply Kd.R_drewN | apply Kd.R_drew)); exact HO464.out))) (pZ (by repeat (first | (with_reducible first | exact HB.out | apply pA | apply pN | apply pD | refine pS ?_ GE433.out | refine pS ?_ GE437.out) | exact HB.out))))
            have n7_ := AZ.mk (bb_ (g := gb433) (o := .cells #[.slice none 0 0, .slice none 0 0, .slice none 0 0, .slice none 0 0, .slice none 0 0] 91 (0, 0)) (by (with_reducible repeat (first | refine bn_ ?_ _ | refine bd_ ?_ | refine ba_ ?_ _)); exact BK433.out) hb)
            have n8_ := AZ.mk (bb_ (g := gb437) (o := .cells #[.slice Ao77 x438000_9.length co77, u438001, u438002, u438003, .slice Ao78 x438004_9.length co78] 91 (0, 0)) (by (with_reducible repeat (first | refine bn_ ?_ _ | refine bd_ ?_ | refine ba_ ?_ _)); exact BK437.out) hb)
            have n9_ := AZ.mk (pT (by repeat (first | (with_reducible first | exact HB.out | apply pA | apply pN | apply pD | refine pS ?_ GE433.out | refine pS ?_ GE437.out) | exact HB.out)) hb)
            clear HO_438001
            clear HO_438002
            clear HO_438003
            clear HO_438004
            clear HO461
            clear HO464
            clear BK433
            clear BK437
            clear HB
            have HO_438001 := n0_
            have HO_438002 := n1_
            have HO_438003 := n2_
            have HO_438004 := n3_
            have HO461 := n4_
            have HO464 := n5_
            have HO467 := n6_
            have BK433 := n7_
            have BK437 := n8_
            have HB := n9_
            clear n0_ n1_ n2_ n3_ n4_ n5_ n6_ n7_ n8_ n9_
            clear hb ho85
            refine hK.out _ _ ⟨(bc BK437.out 0).trans rfl, (bc BK437.out 1).trans rfl, (bc BK437.out 2).trans rfl, (bc BK437.out 3).trans rfl, (bc BK437.out 4).trans rfl⟩ (fun hHeld => ?_)
            clear hK K
            refine norm_ (a' := ?_) ?_ ?_
            rotate_left
            ·show Act.put _ (some 87) _ = _
             simp only [Act.put, sA, sB, sC, i64_w, i32_w]
             rfl
            exact norm_ (by simp only [putAll, Act.put, sA, sB, sC]) (hCont (.slice Ao83 y459.length co83, v463, v466) _ ⟨hHeld, (by (with_reducible repeat (first | apply Kd.R_alloc | apply Kd.R_drewN | apply Kd.R_drew)); exact Kd.R_mono HO461.out (fun _ hk => ⟨hk.1.2, ⟨hk.2, ⟨hk.1.1.1, ⟨hk.1.1.2.1, ⟨hk.1.1.2.2.1, hk.1.1.2.2.2⟩⟩⟩⟩⟩)), (by (with_reducible repeat (first | apply Kd.R_alloc | apply Kd.R_drewN | apply Kd.R_drew)); exact Kd.R_mono HO464.out (fun _ hk => ⟨hk.1.2.2.2.2, ⟨hk.2, ⟨hk.1.1, ⟨hk.1.2.1, ⟨hk.1.2.2.1, hk.1.2.2.2.1⟩⟩⟩⟩⟩)), (by (with_reducible repeat (first | apply Kd.R_alloc | apply Kd.R_drewN | apply Kd.R_drew)); exact Kd.R_mono HO467.out (fun _ hk => ⟨hk.1.2, ⟨hk.2, ⟨hk.1.1.1.1.1.2, ⟨hk.1.1.1.1.2, ⟨hk.1.1.1.2, hk.1.1.2⟩⟩⟩⟩⟩)), (by (with_reducible repeat (first | apply Kd.R_alloc | apply Kd.R_drewN | apply Kd.R_drew)); exact Kd.R_mono HO_438001.out (fun _ hk => ⟨hk.1.1.2.2.2, ⟨hk.1.2, ⟨hk.2, ⟨hk.1.1.1, ⟨hk.1.1.2.1, hk.1.1.2.2.1⟩⟩⟩⟩⟩)), (by (with_reducible repeat (first | apply Kd.R_alloc | apply Kd.R_drewN | apply Kd.R_drew)); exact Kd.R_mono HO_438002.out (fun _ hk => ⟨hk.1.1.2.2.2, ⟨hk.1.2, ⟨hk.2, ⟨hk.1.1.1, ⟨hk.1.1.2.1, hk.1.1.2.2.1⟩⟩⟩⟩⟩)), (by (with_reducible repeat (first | apply Kd.R_alloc | apply Kd.R_drewN | apply Kd.R_drew)); exact Kd.R_mono HO_438003.out (fun _ hk => ⟨hk.1.1.2.2.2, ⟨hk.1.2, ⟨hk.2, ⟨hk.1.1.1, ⟨hk.1.1.2.1, hk.1.1.2.2.1⟩⟩⟩⟩⟩)), (by (with_reducible repeat (first | apply Kd.R_alloc | apply Kd.R_drewN | apply Kd.R_drew)); exact Kd.R_mono HO_438004.out (fun _ hk => ⟨hk.1.1.2.2.2, ⟨hk.1.2, ⟨hk.2, ⟨hk.1.1.1, ⟨hk.1.1.2.1, hk.1.1.2.2.1⟩⟩⟩⟩⟩)), (by (with_reducible repeat (first | refine bn_ ?_ _ | refine bd_ ?_ | refine ba_ ?_ _)); exact BK433.out), (by (with_reducible repeat (first | refine bn_ ?_ _ | refine bd_ ?_ | refine ba_ ?_ _)); exact BK437.out), (by repeat (first | (with_reducible first | exact HB.out | apply pA | apply pN | apply pD | refine pS ?_ GE433.out | refine pS ?_ GE437.out) | exact HB.out))⟩)
           ·skip
            refine Kd.R_lit_step (Kd.int .i64) _ 2 ?hg (N := 87) ?hd (xs := ([x8_47] : List Int)) (inner := [.int .i64 x8_47]) (ok := fun _ => True) (okp := fun _ => True) ?hr ?hp (fun _ hk => hk) trivial (Below.refl _ _) (Nat.le_refl _) (by simp) ?_; (case hd => rfl); (case hg => rfl); (case hr => first | (go_simp; done) | (go_simp; rfl)); (case hp => exact (Reps.one (show Kd.M (Kd.int .i64) _ _ _ x8_47 [.int .i64 x8_47] from rfl) (Reps.none _ _)))
            intro v466 w82 ho83 hb hg_ hnew_
            clear hg_ hnew_
            (first | rw [← Ny465.out] at ho83 | (simp only [Int.reduceToNat] at ho83; rw [← Ny465.out] at ho83))
            have n0_ := AZ.mk (Kd.R_elder' (by (with_reducible repeat (first | apply Kd.R_alloc | apply Kd.R_drewN | apply Kd.R_drew)); exact HO_438000.out) (Kd.R_base ho83) hb)
            have n1_ := AZ.mk (Kd.R_elder' (by (with_reducible repeat (first | apply Kd.R_alloc | apply Kd.R_drewN | apply Kd.R_drew)); exact HO_438001.out) (Kd.R_base ho83) hb)
            have n2_ := AZ.mk (Kd.R_elder' (by (with_reducible repeat (first | apply Kd.R_alloc | apply Kd.R_drewN | apply Kd.R_drew)); exact HO_438002.out) (Kd.R_base ho83) hb)
            have n3_ := AZ.mk (Kd.R_elder' (by (with_reducible repeat (first | apply Kd.R_alloc | apply Kd.R_drewN | apply Kd.R_drew)); exact HO_438003.out) (Kd.R_base ho83) hb)
            have n4_ := AZ.mk (Kd.R_elder' (by (with_reducible repeat (first | apply Kd.R_alloc | apply Kd.R_drewN | apply Kd.R_drew)); exact HO_438004.out) (Kd.R_base ho83) hb)
            have n5_ := AZ.mk (Kd.R_elder' (by (with_reducible repeat (first | apply Kd.R_alloc | apply Kd.R_drewN | apply Kd.R_drew)); exact HO461.out) (Kd.R_base ho83) hb)
            have n6_ := AZ.mk (Kd.R_lower (Kd.R_new' (Kd.R_new' (Kd.R_new' (Kd.R_new' (Kd.R_new' (Kd.R_new' ho83 (Kd.R_lt (by (with_reducible repeat (first | apply Kd.R_alloc | apply Kd.R_drewN | apply Kd.R_drew)); exact HO_438000.out))) (Kd.R_lt (by (with_reducible repeat (first | apply Kd.R_alloc | apply Kd.R_drewN | apply Kd.R_drew)); exact HO_438001.out))) (Kd.R_lt (by (with_reducible repeat (first | apply Kd.R_alloc | apply Kd.R_drewN | apply Kd.R_drew)); exact HO_438002.out))) (Kd.R_lt (by (with_reducible repeat (first | apply Kd.R_alloc | apply Kd.R_drewN | apply Kd.R_drew)); exact HO_438003.out))) (Kd.R_lt (by (with_reducible repeat (first | apply Kd.R_alloc | apply Kd.R_drewN | apply Kd.R_drew)); exact HO_438004.out))) (Kd.R_lt (by (with_reducible repeat (first | apply Kd.R_alloc | apply Kd.R_drewN | apply Kd.R_drew)); exact HO461.out))) (pZ (by repeat (first | (with_reducible first | exact HB.out | apply pA | apply pN | apply pD | refine pS ?_ GE433.out | refine pS ?_ GE437.out) | exact HB.out))))
            have n7_ := AZ.mk (bb_ (g := gb433) (o := .cells #[.slice none 0 0, .slice none 0 0, .slice none 0 0, .slice none 0 0, .slice none 0 0] 91 (0, 0)) (by (with_reducible repeat (first | refine bn_ ?_ _ | refine bd_ ?_ | refine ba_ ?_ _)); exact BK433.out) hb)
            have n8_ := AZ.mk (bb_ (g := gb437) (o := .cells #[.slice Ao77 x438000_9.length co77, u438001, u438002, u438003, .slice Ao78 x438004_9.length co78] 91 (0, 0)) (by (with_reducible repeat (first | refine bn_ ?_ _ | refine bd_ ?_ | refine ba_ ?_ _)); exact BK437.out) hb)
            have n9_ := AZ.mk (pT (by repeat (first | (with_reducible first | exact HB.out | apply pA | apply pN | apply pD | refine pS ?_ GE433.out | refine pS ?_ GE437.out) | exact HB.out)) hb)
            clear HO_438000
            clear HO_438001
            clear HO_438002
            clear HO_438003
            clear HO_438004
            clear HO461
            clear BK433
            clear BK437
            clear HB
            have HO_438000 := n0_
            have HO_438001 := n1_
            have HO_438002 := n2_
            have HO_438003 := n3_
            have HO_438004 := n4_
            have HO461 := n5_
            have HO467 := n6_
            have BK433 := n7_
            have BK437 := n8_
            have HB := n9_
            clear n0_ n1_ n2_ n3_ n4_ n5_ n6_ n7_ n8_ n9_
            clear hb ho83
            obtain ⟨Ao85, co85, eo85⟩ := Kd.R_slice HO461.out
            (first | subst eo85 | (injection eo85 with f1_ f2_ f3_; have f4_ := f1_.symm; have f5_ := f3_.symm; clear f1_ f2_ f3_; subst f4_; subst f5_))
            refine hK.out _ _ ⟨(bc BK437.out 0).trans rfl, (bc BK437.out 1).trans rfl, (bc BK437.out 2).trans rfl, (bc BK437.out 3).trans rfl, (bc BK437.out 4).trans rfl⟩ (fun hHeld => ?_)
            clear hK K
            refine norm_ (a' := ?_) ?_ ?_
            rotate_left
            ·show Act.put _ (some 87) _ = _
             simp only [Act.put, sA, sB, sC, i64_w, i32_w]
             rfl
            refine one_ (i := 4) (N := some 83) (bz 14 511) rfl rfl (one_of HT_.out (by kernel_rfl)) (by decide) (fun K hK => ?_)
            refine Kd.R_append_rows_step (Kd.int .i64) (w0 := w) w.heap.size (by rfl) (.tmp 80) (.tmp 82) 23 2 (.int .i64 0) 8 rfl Try.underlying23 info2 rfl (by decide) (by omega) (.slice Ao77 x438000_9.length co77) x438000_9 y459 _ _ _ (fun k_ => some k_ ≠ (u438001 : Value).ownBlock ∧ some k_ ≠ (u438002 : Value).ownBlock ∧ some k_ ≠ (u438003 : Value).ownBlock ∧ some k_ ≠ (.slice Ao78 x438004_9.length co78 : Value).ownBlock ∧ some k_ ≠ (.slice Ao85 y459.length co85 : Value).ownBlock ∧ some k_ ≠ (v466 : Value).ownBlock) (fun _ => False) rfl rfl ?aO ?aR (fun _ _ h => h) (fun _ h => h.elim) ?aF ?aB ?aS ?aL ?_
            (case aR => repeat (first | exact (Kd.R_reads' HO461.out).2.2 | (with_reducible refine Kd.C_alloc ?_ _) | (with_reducible refine Kd.C_drewN ?_ _) | (with_reducible refine Kd.C_drew ?_)))
            (case aB => exact (by repeat (first | (with_reducible first | exact HB.out | apply pA | apply pN | apply pD | refine pS ?_ GE433.out | refine pS ?_ GE437.out) | exact HB.out)))
            (case aF => exact (fun k_ hk => ⟨Kd.fresh' (Kd.R_lt (by (with_reducible repeat (first | apply Kd.R_alloc | apply Kd.R_drewN | apply Kd.R_drew)); exact HO_438001.out)) k_ hk, Kd.fresh' (Kd.R_lt (by (with_reducible repeat (first | apply Kd.R_alloc | apply Kd.R_drewN | apply Kd.R_drew)); exact HO_438002.out)) k_ hk, Kd.fresh' (Kd.R_lt (by (with_reducible repeat (first | apply Kd.R_alloc | apply Kd.R_drewN | apply Kd.R_drew)); exact HO_438003.out)) k_ hk, Kd.fresh' (Kd.R_lt (by (with_reducible repeat (first | apply Kd.R_alloc | apply Kd.R_drewN | apply Kd.R_drew)); exact HO_438004.out)) k_ hk, Kd.fresh' (Kd.R_lt (by (with_reducible repeat (first | apply Kd.R_alloc | apply Kd.R_drewN | apply Kd.R_drew)); exact HO461.out)) k_ hk, Kd.fresh' (Kd.R_lt (by (with_reducible repeat (first | apply Kd.R_alloc | apply Kd.R_drewN | apply Kd.R_drew)); exact HO467.out)) k_ hk⟩))
            (case aO => exact (by (with_reducible repeat (first | apply Kd.R_alloc | apply Kd.R_drewN | apply Kd.R_drew)); exact Kd.R_mono HO_438000.out (fun _ hk => ⟨hk.1.1.1, ⟨hk.1.1.2.1, ⟨hk.1.1.2.2.1, ⟨hk.1.1.2.2.2, ⟨hk.1.2, hk.2⟩⟩⟩⟩⟩)))
            (case aS => exact (pZ (by repeat (first | (with_reducible first | exact HB.out | apply pA | apply pN | apply pD | refine pS ?_ GE433.out | refine pS ?_ GE437.out) | exact HB.out))))
            (case aL => have := LMc73.out; omega)
            intro v463 w84 ho hb hg hat
            rw [← Ny462.out] at ho
            have n0_ := AZ.mk (Kd.R_after (ok := (fun k_ => some k_ ≠ (u438002 : Value).ownBlock ∧ some k_ ≠ (u438003 : Value).ownBlock ∧ some k_ ≠ (.slice Ao78 x438004_9.length co78 : Value).ownBlock ∧ some k_ ≠ (.slice Ao85 y459.length co85 : Value).ownBlock ∧ some k_ ≠ (v466 : Value).ownBlock)) (by (with_reducible repeat (first | apply Kd.R_alloc | apply Kd.R_drewN | apply Kd.R_drew)); exact Kd.R_mono HO_438001.out (fun _ hk => ⟨⟨hk.1.1.2.1, ⟨hk.1.1.2.2.1, ⟨hk.1.1.2.2.2, ⟨hk.1.2, hk.2⟩⟩⟩⟩, hk.1.1.1⟩)) hg hat)
            have n1_ := AZ.mk (Kd.R_after (ok := (fun k_ => some k_ ≠ (u438001 : Value).ownBlock ∧ some k_ ≠ (u438003 : Value).ownBlock ∧ some k_ ≠ (.slice Ao78 x438004_9.length co78 : Value).ownBlock ∧ some k_ ≠ (.slice Ao85 y459.length co85 : Value).ownBlock ∧ some k_ ≠ (v466 : Value).ownBlock)) (by (with_reducible repeat (first | apply Kd.R_alloc | apply Kd.R_drewN | apply Kd.R_drew)); exact Kd.R_mono HO_438002.out (fun _ hk => ⟨⟨hk.1.1.2.1, ⟨hk.1.1.2.2.1, ⟨hk.1.1.2.2.2, ⟨hk.1.2, hk.2⟩⟩⟩⟩, hk.1.1.1⟩)) hg hat)
            have n2_ := AZ.mk (Kd.R_after (ok := (fun k_ => some k_ ≠ (u438001 : Value).ownBlock ∧ some k_ ≠ (u438002 : Value).ownBlock ∧ some k_ ≠ (.slice Ao78 x438004_9.length co78 : Value).ownBlock ∧ some k_ ≠ (.slice Ao85 y459.length co85 : Value).ownBlock ∧ some k_ ≠ (v466 : Value).ownBlock)) (by (with_reducible repeat (first | apply Kd.R_alloc | apply Kd.R_drewN | apply Kd.R_drew)); exact Kd.R_mono HO_438003.out (fun _ hk => ⟨⟨hk.1.1.2.1, ⟨hk.1.1.2.2.1, ⟨hk.1.1.2.2.2, ⟨hk.1.2, hk.2⟩⟩⟩⟩, hk.1.1.1⟩)) hg hat)
            have n3_ := AZ.mk (Kd.R_after (ok := (fun k_ => some k_ ≠ (u438001 : Value).ownBlock ∧ some k_ ≠ (u438002 : Value).ownBlock ∧ some k_ ≠ (u438003 : Value).ownBlock ∧ some k_ ≠ (.slice Ao85 y459.length co85 : Value).ownBlock ∧ some k_ ≠ (v466 : Value).ownBlock)) (by (with_reducible repeat (first | apply Kd.R_alloc | apply Kd.R_drewN | apply Kd.R_drew)); exact Kd.R_mono HO_438004.out (fun _ hk => ⟨⟨hk.1.1.2.1, ⟨hk.1.1.2.2.1, ⟨hk.1.1.2.2.2, ⟨hk.1.2, hk.2⟩⟩⟩⟩, hk.1.1.1⟩)) hg hat)
            have n4_ := AZ.mk (blk_grown (g := gb433) (o := .cells #[.slice none 0 0, .slice none 0 0, .slice none 0 0, .slice none 0 0, .slice none 0 0] 91 (0, 0)) (by (with_reducible repeat (first | refine bn_ ?_ _ | refine bd_ ?_ | refine ba_ ?_ _)); exact BK433.out) hg (Kd.R_ne HO_438000.out BK433.out (by decide)))
            have n5_ := AZ.mk (blk_grown (g := gb437) (o := .cells #[.slice Ao77 x438000_9.length co77, u438001, u438002, u438003, .slice Ao78 x438004_9.length co78] 91 (0, 0)) (by (with_reducible repeat (first | refine bn_ ?_ _ | refine bd_ ?_ | refine ba_ ?_ _)); exact BK437.out) hg (Kd.R_ne HO_438000.out BK437.out (by decide)))
            have n6_ := AZ.mk (Kd.R_after (ok := (fun k_ => some k_ ≠ (u438001 : Value).ownBlock ∧ some k_ ≠ (u438002 : Value).ownBlock ∧ some k_ ≠ (u438003 : Value).ownBlock ∧ some k_ ≠ (.slice Ao78 x438004_9.length co78 : Value).ownBlock ∧ some k_ ≠ (v466 : Value).ownBlock)) (by (with_reducible repeat (first | apply Kd.R_alloc | apply Kd.R_drewN | apply Kd.R_drew)); exact Kd.R_mono HO461.out (fun _ hk => ⟨⟨hk.1.1.1.1.2, ⟨hk.1.1.1.2, ⟨hk.1.1.2, ⟨hk.1.2, hk.2⟩⟩⟩⟩, hk.1.1.1.1.1.2⟩)) hg hat)
            have n7_ := AZ.mk (Kd.R_after (ok := (fun k_ => some k_ ≠ (u438001 : Value).ownBlock ∧ some k_ ≠ (u438002 : Value).ownBlock ∧ some k_ ≠ (u438003 : Value).ownBlock ∧ some k_ ≠ (.slice Ao78 x438004_9.length co78 : Value).ownBlock ∧ some k_ ≠ (.slice Ao85 y459.length co85 : Value).ownBlock)) (by (with_reducible repeat (first | apply Kd.R_alloc | apply Kd.R_drewN | apply Kd.R_drew)); exact Kd.R_mono HO467.out (fun _ hk => ⟨⟨hk.1.1.1.1.2, ⟨hk.1.1.1.2, ⟨hk.1.1.2, ⟨hk.1.2, hk.2⟩⟩⟩⟩, hk.1.1.1.1.1.2⟩)) hg hat)
            have n8_ := AZ.mk (hb)
            have n9_ := AZ.mk (ho)
            clear HO_438001
            clear HO_438002
            clear HO_438003
            clear HO_438004
            clear BK433
            clear BK437
            clear HO461
            clear HO467
            clear HB
            clear HO_438000
            have HO_438001 := n0_
            have HO_438002 := n1_
            have HO_438003 := n2_
            have HO_438004 := n3_
            have BK433 := n4_
            have BK437 := n5_
            have HO461 := n6_
            have HO467 := n7_
            have HB := n8_
            have HO464 := n9_
            clear n0_ n1_ n2_ n3_ n4_ n5_ n6_ n7_ n8_ n9_
            clear ho hb hg hat
            refine hK.out _ _ ⟨(bc BK437.out 0).trans rfl, (bc BK437.out 1).trans rfl, (bc BK437.out 2).trans rfl, (bc BK437.out 3).trans rfl, (bc BK437.out 4).trans rfl⟩ (fun hHeld => ?_)
            clear hK K
            refine norm_ (a' := ?_) ?_ ?_
            rotate_left
            ·show Act.put _ (some 83) _ = _
             simp only [Act.put, sA, sB, sC, i64_w, i32_w]
             rfl
            refine pure_ (i := 10) (N := some 89) (v := ?_) (a' := ?_) (bz 14 1535) rfl rfl (any_of HT_.out (by kernel_rfl)) (fun _ _ _ h => h) (Or.inl ⟨by rfl, ?_⟩) ?_ ?_
            rotate_left
            ·intro w'
             go_simp
             with_reducible rfl
            rotate_left
            ·simp only [Act.put, sA, sB, sC, i64_w, i32_w]
             rfl
            exact norm_ (by simp only [putAll, Act.put, sA, sB, sC]) (hCont (.slice Ao85 y459.length co85, v463, v466) _ ⟨hHeld, (by (with_reducible repeat (first | apply Kd.R_alloc | apply Kd.R_drewN | apply Kd.R_drew)); exact Kd.R_mono HO461.out (fun _ hk => ⟨hk.2, ⟨hk.1.2.2.2.2, ⟨hk.1.1, ⟨hk.1.2.1, ⟨hk.1.2.2.1, hk.1.2.2.2.1⟩⟩⟩⟩⟩)), (by (with_reducible repeat (first | apply Kd.R_alloc | apply Kd.R_drewN | apply Kd.R_drew)); exact Kd.R_mono HO464.out (fun _ hk => ⟨hk.2.2.2.2.1, ⟨hk.2.2.2.2.2, ⟨hk.1, ⟨hk.2.1, ⟨hk.2.2.1, hk.2.2.2.1⟩⟩⟩⟩⟩)), (by (with_reducible repeat (first | apply Kd.R_alloc | apply Kd.R_drewN | apply Kd.R_drew)); exact Kd.R_mono HO467.out (fun _ hk => ⟨hk.1.2.2.2.2, ⟨hk.2, ⟨hk.1.1, ⟨hk.1.2.1, ⟨hk.1.2.2.1, hk.1.2.2.2.1⟩⟩⟩⟩⟩)), (by (with_reducible repeat (first | apply Kd.R_alloc | apply Kd.R_drewN | apply Kd.R_drew)); exact Kd.R_mono HO_438001.out (fun _ hk => ⟨hk.1.2.2.2.1, ⟨hk.2, ⟨hk.1.2.2.2.2, ⟨hk.1.1, ⟨hk.1.2.1, hk.1.2.2.1⟩⟩⟩⟩⟩)), (by (with_reducible repeat (first | apply Kd.R_alloc | apply Kd.R_drewN | apply Kd.R_drew)); exact Kd.R_mono HO_438002.out (fun _ hk => ⟨hk.1.2.2.2.1, ⟨hk.2, ⟨hk.1.2.2.2.2, ⟨hk.1.1, ⟨hk.1.2.1, hk.1.2.2.1⟩⟩⟩⟩⟩)), (by (with_reducible repeat (first | apply Kd.R_alloc | apply Kd.R_drewN | apply Kd.R_drew)); exact Kd.R_mono HO_438003.out (fun _ hk => ⟨hk.1.2.2.2.1, ⟨hk.2, ⟨hk.1.2.2.2.2, ⟨hk.1.1, ⟨hk.1.2.1, hk.1.2.2.1⟩⟩⟩⟩⟩)), (by (with_reducible repeat (first | apply Kd.R_alloc | apply Kd.R_drewN | apply Kd.R_drew)); exact Kd.R_mono HO_438004.out (fun _ hk => ⟨hk.1.2.2.2.1, ⟨hk.2, ⟨hk.1.2.2.2.2, ⟨hk.1.1, ⟨hk.1.2.1, hk.1.2.2.1⟩⟩⟩⟩⟩)), (by (with_reducible repeat (first | refine bn_ ?_ _ | refine bd_ ?_ | refine ba_ ?_ _)); exact BK433.out), (by (with_reducible repeat (first | refine bn_ ?_ _ | refine bd_ ?_ | refine ba_ ?_ _)); exact BK437.out), (by repeat (first | (with_reducible first | exact HB.out | apply pA | apply pN | apply pD | refine pS ?_ GE433.out | refine pS ?_ GE437.out) | exact HB.out))⟩)
          ·skip
           refine Kd.R_lit_step (Kd.int .i64) _ 2 ?hg (N := 87) ?hd (xs := ([x8_47] : List Int)) (inner := [.int .i64 x8_47]) (ok := fun _ => True) (okp := fun _ => True) ?hr ?hp (fun _ hk => hk) trivial (Below.refl _ _) (Nat.le_refl _) (by simp) ?_; (case hd => rfl); (case hg => rfl); (case hr => first | (go_simp; done) | (go_simp; rfl)); (case hp => exact (Reps.one (show Kd.M (Kd.int .i64) _ _ _ x8_47 [.int .i64 x8_47] from rfl) (Reps.none _ _)))
           intro v466 w80 ho81 hb hg_ hnew_
           clear hg_ hnew_
           (first | rw [← Ny465.out] at ho81 | (simp only [Int.reduceToNat] at ho81; rw [← Ny465.out] at ho81))
           have n0_ := AZ.mk (Kd.R_elder' (by (with_reducible repeat (first | apply Kd.R_alloc | apply Kd.R_drewN | apply Kd.R_drew)); exact HO_438000.out) (Kd.R_base ho81) hb)
           have n1_ := AZ.mk (Kd.R_elder' (by (with_reducible repeat (first | apply Kd.R_alloc | apply Kd.R_drewN | apply Kd.R_drew)); exact HO_438001.out) (Kd.R_base ho81) hb)
           have n2_ := AZ.mk (Kd.R_elder' (by (with_reducible repeat (first | apply Kd.R_alloc | apply Kd.R_drewN | apply Kd.R_drew)); exact HO_438002.out) (Kd.R_base ho81) hb)
           have n3_ := AZ.mk (Kd.R_elder' (by (with_reducible repeat (first | apply Kd.R_alloc | apply Kd.R_drewN | apply Kd.R_drew)); exact HO_438003.out) (Kd.R_base ho81) hb)
           have n4_ := AZ.mk (Kd.R_elder' (by (with_reducible repeat (first | apply Kd.R_alloc | apply Kd.R_drewN | apply Kd.R_drew)); exact HO_438004.out) (Kd.R_base ho81) hb)
           have n5_ := AZ.mk (Kd.R_lower (Kd.R_new' (Kd.R_new' (Kd.R_new' (Kd.R_new' (Kd.R_new' ho81 (Kd.R_lt (by (with_reducible repeat (first | apply Kd.R_alloc | apply Kd.R_drewN | apply Kd.R_drew)); exact HO_438000.out))) (Kd.R_lt (by (with_reducible repeat (first | apply Kd.R_alloc | apply Kd.R_drewN | apply Kd.R_drew)); exact HO_438001.out))) (Kd.R_lt (by (with_reducible repeat (first | apply Kd.R_alloc | apply Kd.R_drewN | apply Kd.R_drew)); exact HO_438002.out))) (Kd.R_lt (by (with_reducible repeat (first | apply Kd.R_alloc | apply Kd.R_drewN | apply Kd.R_drew)); exact HO_438003.out))) (Kd.R_lt (by (with_reducible repeat (first | apply Kd.R_alloc | apply Kd.R_drewN | apply Kd.R_drew)); exact HO_438004.out))) (pZ (by repeat (first | (with_reducible first | exact HB.out | apply pA | apply pN | apply pD | refine pS ?_ GE433.out | refine pS ?_ GE437.out) | exact HB.out))))
           have n6_ := AZ.mk (bb_ (g := gb433) (o := .cells #[.slice none 0 0, .slice none 0 0, .slice none 0 0, .slice none 0 0, .slice none 0 0] 91 (0, 0)) (by (with_reducible repeat (first | refine bn_ ?_ _ | refine bd_ ?_ | refine ba_ ?_ _)); exact BK433.out) hb)
           have n7_ := AZ.mk (bb_ (g := gb437) (o := .cells #[.slice Ao77 x438000_9.length co77, u438001, u438002, u438003, .slice Ao78 x438004_9.length co78] 91 (0, 0)) (by (with_reducible repeat (first | refine bn_ ?_ _ | refine bd_ ?_ | refine ba_ ?_ _)); exact BK437.out) hb)
           have n8_ := AZ.mk (pT (by repeat (first | (with_reducible first | exact HB.out | apply pA | apply pN | apply pD | refine pS ?_ GE433.out | refine pS ?_ GE437.out) | exact HB.out)) hb)
           clear HO_438000
           clear HO_438001
           clear HO_438002
           clear HO_438003
           clear HO_438004
           clear BK433
           clear BK437
           clear HB
           have HO_438000 := n0_
           have HO_438001 := n1_
           have HO_438002 := n2_
           have HO_438003 := n3_
           have HO_438004 := n4_
           have HO467 := n5_
           have BK433 := n6_
           have BK437 := n7_
           have HB := n8_
           clear n0_ n1_ n2_ n3_ n4_ n5_ n6_ n7_ n8_
           clear hb ho81
           refine hK.out _ _ ⟨(bc BK437.out 0).trans rfl, (bc BK437.out 1).trans rfl, (bc BK437.out 2).trans rfl, (bc BK437.out 3).trans rfl, (bc BK437.out 4).trans rfl⟩ (fun hHeld => ?_)
           clear hK K
           refine norm_ (a' := ?_) ?_ ?_
           rotate_left
           ·show Act.put _ (some 87) _ = _
            simp only [Act.put, sA, sB, sC, i64_w, i32_w]
            rfl
           refine one_ (i := 3) (N := some 82) (bz 14 495) rfl rfl (one_of HT_.out (by kernel_rfl)) (by decide) (fun K hK => ?_)
           refine Kd.R_lit_step (Kd.int .i64) _ 2 ?hg (N := 82) ?hd (xs := ([x6_61] : List Int)) (inner := [.int .i64 x6_61]) (ok := fun _ => True) (okp := fun _ => True) ?hr ?hp (fun _ hk => hk) trivial (Below.refl _ _) (Nat.le_refl _) (by simp) ?_; (case hd => rfl); (case hg => rfl); (case hr => first | (go_simp; done) | (go_simp; rfl)); (case hp => exact (Reps.one (show Kd.M (Kd.int .i64) _ _ _ x6_61 [.int .i64 x6_61] from rfl) (Reps.none _ _)))
           intro v460 w82 ho83 hb hg_ hnew_
           clear hg_ hnew_
           (first | rw [← Ny459.out] at ho83 | (simp only [Int.reduceToNat] at ho83; rw [← Ny459.out] at ho83))
           have n0_ := AZ.mk (Kd.R_elder' (by (with_reducible repeat (first | apply Kd.R_alloc | apply Kd.R_drewN | apply Kd.R_drew)); exact HO_438000.out) (Kd.R_base ho83) hb)
           have n1_ := AZ.mk (Kd.R_elder' (by (with_reducible repeat (first | apply Kd.R_alloc | apply Kd.R_drewN | apply Kd.R_drew)); exact HO_438001.out) (Kd.R_base ho83) hb)
           have n2_ := AZ.mk (Kd.R_elder' (by (with_reducible repeat (first | apply Kd.R_alloc | apply Kd.R_drewN | apply Kd.R_drew)); exact HO_438002.out) (Kd.R_base ho83) hb)
           have n3_ := AZ.mk (Kd.R_elder' (by (with_reducible repeat (first | apply Kd.R_alloc | apply Kd.R_drewN | apply Kd.R_drew)); exact HO_438003.out) (Kd.R_base ho83) hb)
           have n4_ := AZ.mk (Kd.R_elder' (by (with_reducible repeat (first | apply Kd.R_alloc | apply Kd.R_drewN | apply Kd.R_drew)); exact HO_438004.out) (Kd.R_base ho83) hb)
           have n5_ := AZ.mk (Kd.R_elder' (by (with_reducible repeat (first | apply Kd.R_alloc | apply Kd.R_drewN | apply Kd.R_drew)); exact HO467.out) (Kd.R_base ho83) hb)
           have n6_ := AZ.mk (Kd.R_lower (Kd.R_new' (Kd.R_new' (Kd.R_new' (Kd.R_new' (Kd.R_new' (Kd.R_new' ho83 (Kd.R_lt (by (with_reducible repeat (first | apply Kd.R_alloc | apply Kd.R_drewN | apply Kd.R_drew)); exact HO_438000.out))) (Kd.R_lt (by (with_reducible repeat (first | apply Kd.R_alloc | apply Kd.R_drewN | apply Kd.R_drew)); exact HO_438001.out))) (Kd.R_lt (by (with_reducible repeat (first | apply Kd.R_alloc | apply Kd.R_drewN | apply Kd.R_drew)); exact HO_438002.out))) (Kd.R_lt (by (with_reducible repeat (first | apply Kd.R_alloc | apply Kd.R_drewN | apply Kd.R_drew)); exact HO_438003.out))) (Kd.R_lt (by (with_reducible repeat (first | apply Kd.R_alloc | apply Kd.R_drewN | apply Kd.R_drew)); exact HO_438004.out))) (Kd.R_lt (by (with_reducible repeat (first | apply Kd.R_alloc | apply Kd.R_drewN | apply Kd.R_drew)); exact HO467.out))) (pZ (by repeat (first | (with_reducible first | exact HB.out | apply pA | apply pN | apply pD | refine pS ?_ GE433.out | refine pS ?_ GE437.out) | exact HB.out))))
           have n7_ := AZ.mk (bb_ (g := gb433) (o := .cells #[.slice none 0 0, .slice none 0 0, .slice none 0 0, .slice none 0 0, .slice none 0 0] 91 (0, 0)) (by (with_reducible repeat (first | refine bn_ ?_ _ | refine bd_ ?_ | refine ba_ ?_ _)); exact BK433.out) hb)
           have n8_ := AZ.mk (bb_ (g := gb437) (o := .cells #[.slice Ao77 x438000_9.length co77, u438001, u438002, u438003, .slice Ao78 x438004_9.length co78] 91 (0, 0)) (by (with_reducible repeat (first | refine bn_ ?_ _ | refine bd_ ?_ | refine ba_ ?_ _)); exact BK437.out) hb)
           have n9_ := AZ.mk (pT (by repeat (first | (with_reducible first | exact HB.out | apply pA | apply pN | apply pD | refine pS ?_ GE433.out | refine pS ?_ GE437.out) | exact HB.out)) hb)
           clear HO_438000
           clear HO_438001
           clear HO_438002
           clear HO_438003
           clear HO_438004
           clear HO467
           clear BK433
           clear BK437
           clear HB
           have HO_438000 := n0_
           have HO_438001 := n1_
           have HO_438002 := n2_
           have HO_438003 := n3_
           have HO_438004 := n4_
           have HO467 := n5_
           have HO461 := n6_
           have BK433 := n7_
           have BK437 := n8_
           have HB := n9_
           clear n0_ n1_ n2_ n3_ n4_ n5_ n6_ n7_ n8_ n9_
           clear hb ho83
           obtain ⟨Ao85, co85, eo85⟩ := Kd.R_slice HO461.out
           (first | subst eo85 | (injection eo85 with f1_ f2_ f3_; have f4_ := f1_.symm; have f5_ := f3_.symm; clear f1_ f2_ f3_; subst f4_; subst f5_))
           refine hK.out _ _ ⟨(bc BK437.out 0).trans rfl, (bc BK437.out 1).trans rfl, (bc BK437.out 2).trans rfl, (bc BK437.out 3).trans rfl, (bc BK437.out 4).trans rfl⟩ (fun hHeld => ?_)
           clear hK K
           refine norm_ (a' := ?_) ?_ ?_
           rotate_left
           ·show Act.put _ (some 82) _ = _
            simp only [Act.put, sA, sB, sC, i64_w, i32_w]
            rfl
           refine one_ (i := 4) (N := some 83) (bz 14 511) rfl rfl (one_of HT_.out (by kernel_rfl)) (by decide) (fun K hK => ?_)
           refine Kd.R_append_rows_step (Kd.int .i64) (w0 := w) w.heap.size (by rfl) (.tmp 80) (.tmp 82) 23 2 (.int .i64 0) 8 rfl Try.underlying23 info2 rfl (by decide) (by omega) (.slice Ao77 x438000_9.length co77) x438000_9 y459 _ _ _ (fun k_ => some k_ ≠ (u438001 : Value).ownBlock ∧ some k_ ≠ (u438002 : Value).ownBlock ∧ some k_ ≠ (u438003 : Value).ownBlock ∧ some k_ ≠ (.slice Ao78 x438004_9.length co78 : Value).ownBlock ∧ some k_ ≠ (v466 : Value).ownBlock ∧ some k_ ≠ (.slice Ao85 y459.length co85 : Value).ownBlock) (fun _ => False) rfl rfl ?aO ?aR (fun _ _ h => h) (fun _ h => h.elim) ?aF ?aB ?aS ?aL ?_
           (case aR => repeat (first | exact (Kd.R_reads' HO461.out).2.2 | (with_reducible refine Kd.C_alloc ?_ _) | (with_reducible refine Kd.C_drewN ?_ _) | (with_reducible refine Kd.C_drew ?_)))
           (case aB => exact (by repeat (first | (with_reducible first | exact HB.out | apply pA | apply pN | apply pD | refine pS ?_ GE433.out | refine pS ?_ GE437.out) | exact HB.out)))
           (case aF => exact (fun k_ hk => ⟨Kd.fresh' (Kd.R_lt (by (with_reducible repeat (first | apply Kd.R_alloc | apply Kd.R_drewN | apply Kd.R_drew)); exact HO_438001.out)) k_ hk, Kd.fresh' (Kd.R_lt (by (with_reducible repeat (first | apply Kd.R_alloc | apply Kd.R_drewN | apply Kd.R_drew)); exact HO_438002.out)) k_ hk, Kd.fresh' (Kd.R_lt (by (with_reducible repeat (first | apply Kd.R_alloc | apply Kd.R_drewN | apply Kd.R_drew)); exact HO_438003.out)) k_ hk, Kd.fresh' (Kd.R_lt (by (with_reducible repeat (first | apply Kd.R_alloc | apply Kd.R_drewN | apply Kd.R_drew)); exact HO_438004.out)) k_ hk, Kd.fresh' (Kd.R_lt (by (with_reducible repeat (first | apply Kd.R_alloc | apply Kd.R_drewN | apply Kd.R_drew)); exact HO467.out)) k_ hk, Kd.fresh' (Kd.R_lt (by (with_reducible repeat (first | apply Kd.R_alloc | apply Kd.R_drewN | apply Kd.R_drew)); exact HO461.out)) k_ hk⟩))
           (case aO => exact (by (with_reducible repeat (first | apply Kd.R_alloc | apply Kd.R_drewN | apply Kd.R_drew)); exact Kd.R_mono HO_438000.out (fun _ hk => ⟨hk.1.1.1, ⟨hk.1.1.2.1, ⟨hk.1.1.2.2.1, ⟨hk.1.1.2.2.2, ⟨hk.1.2, hk.2⟩⟩⟩⟩⟩)))
           (case aS => exact (pZ (by repeat (first | (with_reducible first | exact HB.out | apply pA | apply pN | apply pD | refine pS ?_ GE433.out | refine pS ?_ GE437.out) | exact HB.out))))
           (case aL => have := LMc73.out; omega)
           intro v463 w84 ho hb hg hat
           rw [← Ny462.out] at ho
           have n0_ := AZ.mk (Kd.R_after (ok := (fun k_ => some k_ ≠ (u438002 : Value).ownBlock ∧ some k_ ≠ (u438003 : Value).ownBlock ∧ some k_ ≠ (.slice Ao78 x438004_9.length co78 : Value).ownBlock ∧ some k_ ≠ (v466 : Value).ownBlock ∧ some k_ ≠ (.slice Ao85 y459.length co85 : Value).ownBlock)) (by (with_reducible repeat (first | apply Kd.R_alloc | apply Kd.R_drewN | apply Kd.R_drew)); exact Kd.R_mono HO_438001.out (fun _ hk => ⟨⟨hk.1.1.2.1, ⟨hk.1.1.2.2.1, ⟨hk.1.1.2.2.2, ⟨hk.1.2, hk.2⟩⟩⟩⟩, hk.1.1.1⟩)) hg hat)
           have n1_ := AZ.mk (Kd.R_after (ok := (fun k_ => some k_ ≠ (u438001 : Value).ownBlock ∧ some k_ ≠ (u438003 : Value).ownBlock ∧ some k_ ≠ (.slice Ao78 x438004_9.length co78 : Value).ownBlock ∧ some k_ ≠ (v466 : Value).ownBlock ∧ some k_ ≠ (.slice Ao85 y459.length co85 : Value).ownBlock)) (by (with_reducible repeat (first | apply Kd.R_alloc | apply Kd.R_drewN | apply Kd.R_drew)); exact Kd.R_mono HO_438002.out (fun _ hk => ⟨⟨hk.1.1.2.1, ⟨hk.1.1.2.2.1, ⟨hk.1.1.2.2.2, ⟨hk.1.2, hk.2⟩⟩⟩⟩, hk.1.1.1⟩)) hg hat)
           have n2_ := AZ.mk (Kd.R_after (ok := (fun k_ => some k_ ≠ (u438001 : Value).ownBlock ∧ some k_ ≠ (u438002 : Value).ownBlock ∧ some k_ ≠ (.slice Ao78 x438004_9.length co78 : Value).ownBlock ∧ some k_ ≠ (v466 : Value).ownBlock ∧ some k_ ≠ (.slice Ao85 y459.length co85 : Value).ownBlock)) (by (with_reducible repeat (first | apply Kd.R_alloc | apply Kd.R_drewN | apply Kd.R_drew)); exact Kd.R_mono HO_438003.out (fun _ hk => ⟨⟨hk.1.1.2.1, ⟨hk.1.1.2.2.1, ⟨hk.1.1.2.2.2, ⟨hk.1.2, hk.2⟩⟩⟩⟩, hk.1.1.1⟩)) hg hat)
           have n3_ := AZ.mk (Kd.R_after (ok := (fun k_ => some k_ ≠ (u438001 : Value).ownBlock ∧ some k_ ≠ (u438002 : Value).ownBlock ∧ some k_ ≠ (u438003 : Value).ownBlock ∧ some k_ ≠ (v466 : Value).ownBlock ∧ some k_ ≠ (.slice Ao85 y459.length co85 : Value).ownBlock)) (by (with_reducible repeat (first | apply Kd.R_alloc | apply Kd.R_drewN | apply Kd.R_drew)); exact Kd.R_mono HO_438004.out (fun _ hk => ⟨⟨hk.1.1.2.1, ⟨hk.1.1.2.2.1, ⟨hk.1.1.2.2.2, ⟨hk.1.2, hk.2⟩⟩⟩⟩, hk.1.1.1⟩)) hg hat)
           have n4_ := AZ.mk (blk_grown (g := gb433) (o := .cells #[.slice none 0 0, .slice none 0 0, .slice none 0 0, .slice none 0 0, .slice none 0 0] 91 (0, 0)) (by (with_reducible repeat (first | refine bn_ ?_ _ | refine bd_ ?_ | refine ba_ ?_ _)); exact BK433.out) hg (Kd.R_ne HO_438000.out BK433.out (by decide)))
           have n5_ := AZ.mk (blk_grown (g := gb437) (o := .cells #[.slice Ao77 x438000_9.length co77, u438001, u438002, u438003, .slice Ao78 x438004_9.length co78] 91 (0, 0)) (by (with_reducible repeat (first | refine bn_ ?_ _ | refine bd_ ?_ | refine ba_ ?_ _)); exact BK437.out) hg (Kd.R_ne HO_438000.out BK437.out (by decide)))
           have n6_ := AZ.mk (Kd.R_after (ok := (fun k_ => some k_ ≠ (u438001 : Value).ownBlock ∧ some k_ ≠ (u438002 : Value).ownBlock ∧ some k_ ≠ (u438003 : Value).ownBlock ∧ some k_ ≠ (.slice Ao78 x438004_9.length co78 : Value).ownBlock ∧ some k_ ≠ (.slice Ao85 y459.length co85 : Value).ownBlock)) (by (with_reducible repeat (first | apply Kd.R_alloc | apply Kd.R_drewN | apply Kd.R_drew)); exact Kd.R_mono HO467.out (fun _ hk => ⟨⟨hk.1.1.1.1.2, ⟨hk.1.1.1.2, ⟨hk.1.1.2, ⟨hk.1.2, hk.2⟩⟩⟩⟩, hk.1.1.1.1.1.2⟩)) hg hat)
           have n7_ := AZ.mk (Kd.R_after (ok := (fun k_ => some k_ ≠ (u438001 : Value).ownBlock ∧ some k_ ≠ (u438002 : Value).ownBlock ∧ some k_ ≠ (u438003 : Value).ownBlock ∧ some k_ ≠ (.slice Ao78 x438004_9.length co78 : Value).ownBlock ∧ some k_ ≠ (v466 : Value).ownBlock)) (by (with_reducible repeat (first | apply Kd.R_alloc | apply Kd.R_drewN | apply Kd.R_drew)); exact Kd.R_mono HO461.out (fun _ hk => ⟨⟨hk.1.1.1.1.2, ⟨hk.1.1.1.2, ⟨hk.1.1.2, ⟨hk.1.2, hk.2⟩⟩⟩⟩, hk.1.1.1.1.1.2⟩)) hg hat)
           have n8_ := AZ.mk (hb)
           have n9_ := AZ.mk (ho)
           clear HO_438001
           clear HO_438002
           clear HO_438003
           clear HO_438004
           clear BK433
           clear BK437
           clear HO467
           clear HO461
           clear HB
           clear HO_438000
           have HO_438001 := n0_
           have HO_438002 := n1_
           have HO_438003 := n2_
           have HO_438004 := n3_
           have BK433 := n4_
           have BK437 := n5_
           have HO467 := n6_
           have HO461 := n7_
           have HB := n8_
           have HO464 := n9_
           clear n0_ n1_ n2_ n3_ n4_ n5_ n6_ n7_ n8_ n9_
           clear ho hb hg hat
           refine hK.out _ _ ⟨(bc BK437.out 0).trans rfl, (bc BK437.out 1).trans rfl, (bc BK437.out 2).trans rfl, (bc BK437.out 3).trans rfl, (bc BK437.out 4).trans rfl⟩ (fun hHeld => ?_)
           clear hK K
           refine norm_ (a' := ?_) ?_ ?_
           rotate_left
           ·show Act.put _ (some 83) _ = _
            simp only [Act.put, sA, sB, sC, i64_w, i32_w]
            rfl
           refine pure_ (i := 10) (N := some 89) (v := ?_) (a' := ?_) (bz 14 1535) rfl rfl (any_of HT_.out (by kernel_rfl)) (fun _ _ _ h => h) (Or.inl ⟨by rfl, ?_⟩) ?_ ?_
           rotate_left
           ·intro w'
            go_simp
            with_reducible rfl
           rotate_left
           ·simp only [Act.put, sA, sB, sC, i64_w, i32_w]
            rfl
           exact norm_ (by simp only [putAll, Act.put, sA, sB, sC]) (hCont (.slice Ao85 y459.length co85, v463, v466) _ ⟨hHeld, (by (with_reducible repeat (first | apply Kd.R_alloc | apply Kd.R_drewN | apply Kd.R_drew)); exact Kd.R_mono HO461.out (fun _ hk => ⟨hk.2, ⟨hk.1.2.2.2.2, ⟨hk.1.1, ⟨hk.1.2.1, ⟨hk.1.2.2.1, hk.1.2.2.2.1⟩⟩⟩⟩⟩)), (by (with_reducible repeat (first | apply Kd.R_alloc | apply Kd.R_drewN | apply Kd.R_drew)); exact Kd.R_mono HO464.out (fun _ hk => ⟨hk.2.2.2.2.2, ⟨hk.2.2.2.2.1, ⟨hk.1, ⟨hk.2.1, ⟨hk.2.2.1, hk.2.2.2.1⟩⟩⟩⟩⟩)), (by (with_reducible repeat (first | apply Kd.R_alloc | apply Kd.R_drewN | apply Kd.R_drew)); exact Kd.R_mono HO467.out (fun _ hk => ⟨hk.1.2.2.2.2, ⟨hk.2, ⟨hk.1.1, ⟨hk.1.2.1, ⟨hk.1.2.2.1, hk.1.2.2.2.1⟩⟩⟩⟩⟩)), (by (with_reducible repeat (first | apply Kd.R_alloc | apply Kd.R_drewN | apply Kd.R_drew)); exact Kd.R_mono HO_438001.out (fun _ hk => ⟨hk.1.2.2.2.2, ⟨hk.2, ⟨hk.1.2.2.2.1, ⟨hk.1.1, ⟨hk.1.2.1, hk.1.2.2.1⟩⟩⟩⟩⟩)), (by (with_reducible repeat (first | apply Kd.R_alloc | apply Kd.R_drewN | apply Kd.R_drew)); exact Kd.R_mono HO_438002.out (fun _ hk => ⟨hk.1.2.2.2.2, ⟨hk.2, ⟨hk.1.2.2.2.1, ⟨hk.1.1, ⟨hk.1.2.1, hk.1.2.2.1⟩⟩⟩⟩⟩)), (by (with_reducible repeat (first | apply Kd.R_alloc | apply Kd.R_drewN | apply Kd.R_drew)); exact Kd.R_mono HO_438003.out (fun _ hk => ⟨hk.1.2.2.2.2, ⟨hk.2, ⟨hk.1.2.2.2.1, ⟨hk.1.1, ⟨hk.1.2.1, hk.1.2.2.1⟩⟩⟩⟩⟩)), (by (with_reducible repeat (first | apply Kd.R_alloc | apply Kd.R_drewN | apply Kd.R_drew)); exact Kd.R_mono HO_438004.out (fun _ hk => ⟨hk.1.2.2.2.2, ⟨hk.2, ⟨hk.1.2.2.2.1, ⟨hk.1.1, ⟨hk.1.2.1, hk.1.2.2.1⟩⟩⟩⟩⟩)), (by (with_reducible repeat (first | refine bn_ ?_ _ | refine bd_ ?_ | refine ba_ ?_ _)); exact BK433.out), (by (with_reducible repeat (first | refine bn_ ?_ _ | refine bd_ ?_ | refine ba_ ?_ _)); exact BK437.out), (by repeat (first | (with_reducible first | exact HB.out | apply pA | apply pN | apply pD | refine pS ?_ GE433.out | refine pS ?_ GE437.out) | exact HB.out))⟩)
         rintro ⟨v460, v463, v466⟩ w86 ⟨hS_, h0_, h1_, h2_, h3_, h4_, h5_, h6_, h7_, h8_, h9_⟩
         have n0_ : AZ (Kd.R (Kd.int .i64) 2 w86 w.heap.size (fun k_ => some k_ ≠ (v463 : Value).ownBlock ∧ some k_ ≠ (v466 : Value).ownBlock ∧ some k_ ≠ (u438001 : Value).ownBlock ∧ some k_ ≠ (u438002 : Value).ownBlock ∧ some k_ ≠ (u438003 : Value).ownBlock ∧ some k_ ≠ (.slice Ao78 x438004_9.length co78 : Value).ownBlock) v460 y459) := ⟨h0_⟩
         have n1_ : AZ (Kd.R (Kd.int .i64) 2 w86 w.heap.size (fun k_ => some k_ ≠ (v460 : Value).ownBlock ∧ some k_ ≠ (v466 : Value).ownBlock ∧ some k_ ≠ (u438001 : Value).ownBlock ∧ some k_ ≠ (u438002 : Value).ownBlock ∧ some k_ ≠ (u438003 : Value).ownBlock ∧ some k_ ≠ (.slice Ao78 x438004_9.length co78 : Value).ownBlock) v463 y462) := ⟨h1_⟩
         have n2_ : AZ (Kd.R (Kd.int .i64) 2 w86 w.heap.size (fun k_ => some k_ ≠ (v460 : Value).ownBlock ∧ some k_ ≠ (v463 : Value).ownBlock ∧ some k_ ≠ (u438001 : Value).ownBlock ∧ some k_ ≠ (u438002 : Value).ownBlock ∧ some k_ ≠ (u438003 : Value).ownBlock ∧ some k_ ≠ (.slice Ao78 x438004_9.length co78 : Value).ownBlock) v466 y465) := ⟨h2_⟩
         have n3_ : AZ (Kd.R (Kd.int .i64) 2 w86 w.heap.size (fun k_ => some k_ ≠ (v460 : Value).ownBlock ∧ some k_ ≠ (v463 : Value).ownBlock ∧ some k_ ≠ (v466 : Value).ownBlock ∧ some k_ ≠ (u438002 : Value).ownBlock ∧ some k_ ≠ (u438003 : Value).ownBlock ∧ some k_ ≠ (.slice Ao78 x438004_9.length co78 : Value).ownBlock) u438001 x438001_9) := ⟨h3_⟩
         have n4_ : AZ (Kd.R (Kd.int .i64) 2 w86 w.heap.size (fun k_ => some k_ ≠ (v460 : Value).ownBlock ∧ some k_ ≠ (v463 : Value).ownBlock ∧ some k_ ≠ (v466 : Value).ownBlock ∧ some k_ ≠ (u438001 : Value).ownBlock ∧ some k_ ≠ (u438003 : Value).ownBlock ∧ some k_ ≠ (.slice Ao78 x438004_9.length co78 : Value).ownBlock) u438002 x438002_61) := ⟨h4_⟩
         have n5_ : AZ (Kd.R (Kd.int .i64) 2 w86 w.heap.size (fun k_ => some k_ ≠ (v460 : Value).ownBlock ∧ some k_ ≠ (v463 : Value).ownBlock ∧ some k_ ≠ (v466 : Value).ownBlock ∧ some k_ ≠ (u438001 : Value).ownBlock ∧ some k_ ≠ (u438002 : Value).ownBlock ∧ some k_ ≠ (.slice Ao78 x438004_9.length co78 : Value).ownBlock) u438003 x438003_9) := ⟨h5_⟩
         have n6_ : AZ (Kd.R (Kd.int .i64) 2 w86 w.heap.size (fun k_ => some k_ ≠ (v460 : Value).ownBlock ∧ some k_ ≠ (v463 : Value).ownBlock ∧ some k_ ≠ (v466 : Value).ownBlock ∧ some k_ ≠ (u438001 : Value).ownBlock ∧ some k_ ≠ (u438002 : Value).ownBlock ∧ some k_ ≠ (u438003 : Value).ownBlock) (.slice Ao78 x438004_9.length co78) x438004_9) := ⟨h6_⟩
         have n7_ : AZ (w86.heap[gb433]? = some (.cells #[.slice none 0 0, .slice none 0 0, .slice none 0 0, .slice none 0 0, .slice none 0 0] 91 (0, 0))) := ⟨h7_⟩
         have n8_ : AZ (w86.heap[gb437]? = some (.cells #[.slice Ao77 x438000_9.length co77, u438001, u438002, u438003, .slice Ao78 x438004_9.length co78] 91 (0, 0))) := ⟨h8_⟩
         have n9_ : AZ (Below w.heap.size w w86) := ⟨h9_⟩
         clear HO_438000
         clear HO_438001
         clear HO_438002
         clear HO_438003
         clear HO_438004
         clear BK433
         clear BK437
         clear HB
         clear h0_ h1_ h2_ h3_ h4_ h5_ h6_ h7_ h8_ h9_
         have HO461 := n0_
         have HO464 := n1_
         have HO467 := n2_
         have HO_438001 := n3_
         have HO_438002 := n4_
         have HO_438003 := n5_
         have HO_438004 := n6_
         have BK433 := n7_
         have BK437 := n8_
         have HB := n9_
         clear n0_ n1_ n2_ n3_ n4_ n5_ n6_ n7_ n8_ n9_
         have hHeld : w86.cell? ⟨gb437, 0, none⟩ = some (.slice Ao77 x438000_9.length co77) ∧ w86.cell? ⟨gb437, 1, none⟩ = some (u438001) ∧ w86.cell? ⟨gb437, 2, none⟩ = some (u438002) ∧ w86.cell? ⟨gb437, 3, none⟩ = some (u438003) ∧ w86.cell? ⟨gb437, 4, none⟩ = some (.slice Ao78 x438004_9.length co78) := hS_
         obtain ⟨Ao88, co88, eo88⟩ := Kd.R_slice HO467.out
         (first | subst eo88 | (injection eo88 with f1_ f2_ f3_; have f4_ := f1_.symm; have f5_ := f3_.symm; clear f1_ f2_ f3_; subst f4_; subst f5_))
         refine norm_ (a' := ?_) ?_ ?_
         rotate_left
         ·simp only [putAll, Act.put, sA, sB, sC]
          rfl
         refine one_ (i := 9) (N := some 88) (bz 14 2047) rfl rfl (one_of HT_.out (by kernel_rfl)) (by decide) (fun K hK => ?_)
         refine Kd.R_append_rows_step (Kd.int .i64) (w0 := w) w.heap.size (by rfl) (.tmp 85) (.tmp 87) 23 2 (.int .i64 0) 8 rfl Try.underlying23 info2 rfl (by decide) (by omega) (.slice Ao78 x438004_9.length co78) x438004_9 y465 _ _ _ (fun k_ => some k_ ≠ (u438001 : Value).ownBlock ∧ some k_ ≠ (u438002 : Value).ownBlock ∧ some k_ ≠ (u438003 : Value).ownBlock ∧ some k_ ≠ (v460 : Value).ownBlock ∧ some k_ ≠ (v463 : Value).ownBlock ∧ some k_ ≠ (.slice Ao88 y465.length co88 : Value).ownBlock) (fun _ => False) rfl rfl ?aO ?aR (fun _ _ h => h) (fun _ h => h.elim) ?aF ?aB ?aS ?aL ?_
         (case aR => repeat (first | exact (Kd.R_reads' HO467.out).2.2 | (with_reducible refine Kd.C_alloc ?_ _) | (with_reducible refine Kd.C_drewN ?_ _) | (with_reducible refine Kd.C_drew ?_)))
         (case aB => exact (by repeat (first | (with_reducible first | exact HB.out | apply pA | apply pN | apply pD | refine pS ?_ GE433.out | refine pS ?_ GE437.out) | exact HB.out)))
         (case aF => exact (fun k_ hk => ⟨Kd.fresh' (Kd.R_lt (by (with_reducible repeat (first | apply Kd.R_alloc | apply Kd.R_drewN | apply Kd.R_drew)); exact HO_438001.out)) k_ hk, Kd.fresh' (Kd.R_lt (by (with_reducible repeat (first | apply Kd.R_alloc | apply Kd.R_drewN | apply Kd.R_drew)); exact HO_438002.out)) k_ hk, Kd.fresh' (Kd.R_lt (by (with_reducible repeat (first | apply Kd.R_alloc | apply Kd.R_drewN | apply Kd.R_drew)); exact HO_438003.out)) k_ hk, Kd.fresh' (Kd.R_lt (by (with_reducible repeat (first | apply Kd.R_alloc | apply Kd.R_drewN | apply Kd.R_drew)); exact HO461.out)) k_ hk, Kd.fresh' (Kd.R_lt (by (with_reducible repeat (first | apply Kd.R_alloc | apply Kd.R_drewN | apply Kd.R_drew)); exact HO464.out)) k_ hk, Kd.fresh' (Kd.R_lt (by (with_reducible repeat (first | apply Kd.R_alloc | apply Kd.R_drewN | apply Kd.R_drew)); exact HO467.out)) k_ hk⟩))
         (case aO => exact (by (with_reducible repeat (first | apply Kd.R_alloc | apply Kd.R_drewN | apply Kd.R_drew)); exact Kd.R_mono HO_438004.out (fun _ hk => ⟨hk.2.2.2.1, ⟨hk.2.2.2.2.1, ⟨hk.2.2.2.2.2, ⟨hk.1, ⟨hk.2.1, hk.2.2.1⟩⟩⟩⟩⟩)))
         (case aS => exact (pZ (by repeat (first | (with_reducible first | exact HB.out | apply pA | apply pN | apply pD | refine pS ?_ GE433.out | refine pS ?_ GE437.out) | exact HB.out))))
         (case aL => have := LMc74.out; omega)
         intro v469 w87 ho hb hg hat
         rw [← Ny468.out] at ho
         have n0_ := AZ.mk (Kd.R_after (ok := (fun k_ => some k_ ≠ (u438002 : Value).ownBlock ∧ some k_ ≠ (u438003 : Value).ownBlock ∧ some k_ ≠ (v460 : Value).ownBlock ∧ some k_ ≠ (v463 : Value).ownBlock ∧ some k_ ≠ (.slice Ao88 y465.length co88 : Value).ownBlock)) (by (with_reducible repeat (first | apply Kd.R_alloc | apply Kd.R_drewN | apply Kd.R_drew)); exact Kd.R_mono HO_438001.out (fun _ hk => ⟨⟨hk.2.2.2.1, ⟨hk.2.2.2.2.1, ⟨hk.1, ⟨hk.2.1, hk.2.2.1⟩⟩⟩⟩, hk.2.2.2.2.2⟩)) hg hat)
         have n1_ := AZ.mk (Kd.R_after (ok := (fun k_ => some k_ ≠ (u438001 : Value).ownBlock ∧ some k_ ≠ (u438003 : Value).ownBlock ∧ some k_ ≠ (v460 : Value).ownBlock ∧ some k_ ≠ (v463 : Value).ownBlock ∧ some k_ ≠ (.slice Ao88 y465.length co88 : Value).ownBlock)) (by (with_reducible repeat (first | apply Kd.R_alloc | apply Kd.R_drewN | apply Kd.R_drew)); exact Kd.R_mono HO_438002.out (fun _ hk => ⟨⟨hk.2.2.2.1, ⟨hk.2.2.2.2.1, ⟨hk.1, ⟨hk.2.1, hk.2.2.1⟩⟩⟩⟩, hk.2.2.2.2.2⟩)) hg hat)
         have n2_ := AZ.mk (Kd.R_after (ok := (fun k_ => some k_ ≠ (u438001 : Value).ownBlock ∧ some k_ ≠ (u438002 : Value).ownBlock ∧ some k_ ≠ (v460 : Value).ownBlock ∧ some k_ ≠ (v463 : Value).ownBlock ∧ some k_ ≠ (.slice Ao88 y465.length co88 : Value).ownBlock)) (by (with_reducible repeat (first | apply Kd.R_alloc | apply Kd.R_drewN | apply Kd.R_drew)); exact Kd.R_mono HO_438003.out (fun _ hk => ⟨⟨hk.2.2.2.1, ⟨hk.2.2.2.2.1, ⟨hk.1, ⟨hk.2.1, hk.2.2.1⟩⟩⟩⟩, hk.2.2.2.2.2⟩)) hg hat)
         have n3_ := AZ.mk (blk_grown (g := gb433) (o := .cells #[.slice none 0 0, .slice none 0 0, .slice none 0 0, .slice none 0 0, .slice none 0 0] 91 (0, 0)) (by (with_reducible repeat (first | refine bn_ ?_ _ | refine bd_ ?_ | refine ba_ ?_ _)); exact BK433.out) hg (Kd.R_ne HO_438004.out BK433.out (by decide)))
         have n4_ := AZ.mk (blk_grown (g := gb437) (o := .cells #[.slice Ao77 x438000_9.length co77, u438001, u438002, u438003, .slice Ao78 x438004_9.length co78] 91 (0, 0)) (by (with_reducible repeat (first | refine bn_ ?_ _ | refine bd_ ?_ | refine ba_ ?_ _)); exact BK437.out) hg (Kd.R_ne HO_438004.out BK437.out (by decide)))
         have n5_ := AZ.mk (Kd.R_after (ok := (fun k_ => some k_ ≠ (u438001 : Value).ownBlock ∧ some k_ ≠ (u438002 : Value).ownBlock ∧ some k_ ≠ (u438003 : Value).ownBlock ∧ some k_ ≠ (v463 : Value).ownBlock ∧ some k_ ≠ (.slice Ao88 y465.length co88 : Value).ownBlock)) (by (with_reducible repeat (first | apply Kd.R_alloc | apply Kd.R_drewN | apply Kd.R_drew)); exact Kd.R_mono HO461.out (fun _ hk => ⟨⟨hk.2.2.1, ⟨hk.2.2.2.1, ⟨hk.2.2.2.2.1, ⟨hk.1, hk.2.1⟩⟩⟩⟩, hk.2.2.2.2.2⟩)) hg hat)
         have n6_ := AZ.mk (Kd.R_after (ok := (fun k_ => some k_ ≠ (u438001 : Value).ownBlock ∧ some k_ ≠ (u438002 : Value).ownBlock ∧ some k_ ≠ (u438003 : Value).ownBlock ∧ some k_ ≠ (v460 : Value).ownBlock ∧ some k_ ≠ (.slice Ao88 y465.length co88 : Value).ownBlock)) (by (with_reducible repeat (first | apply Kd.R_alloc | apply Kd.R_drewN | apply Kd.R_drew)); exact Kd.R_mono HO464.out (fun _ hk => ⟨⟨hk.2.2.1, ⟨hk.2.2.2.1, ⟨hk.2.2.2.2.1, ⟨hk.1, hk.2.1⟩⟩⟩⟩, hk.2.2.2.2.2⟩)) hg hat)
         have n7_ := AZ.mk (Kd.R_after (ok := (fun k_ => some k_ ≠ (u438001 : Value).ownBlock ∧ some k_ ≠ (u438002 : Value).ownBlock ∧ some k_ ≠ (u438003 : Value).ownBlock ∧ some k_ ≠ (v460 : Value).ownBlock ∧ some k_ ≠ (v463 : Value).ownBlock)) (by (with_reducible repeat (first | apply Kd.R_alloc | apply Kd.R_drewN | apply Kd.R_drew)); exact Kd.R_mono HO467.out (fun _ hk => ⟨⟨hk.2.2.1, ⟨hk.2.2.2.1, ⟨hk.2.2.2.2.1, ⟨hk.1, hk.2.1⟩⟩⟩⟩, hk.2.2.2.2.2⟩)) hg hat)
         have n8_ := AZ.mk (hb)
         have n9_ := AZ.mk (ho)
         clear HO_438001
         clear HO_438002
         clear HO_438003
         clear BK433
         clear BK437
         clear HO461
         clear HO464
         clear HO467
         clear HB
         clear HO_438004
         have HO_438001 := n0_
         have HO_438002 := n1_
         have HO_438003 := n2_
         have BK433 := n3_
         have BK437 := n4_
         have HO461 := n5_
         have HO464 := n6_
         have HO467 := n7_
         have HB := n8_
         have HO470 := n9_
         clear n0_ n1_ n2_ n3_ n4_ n5_ n6_ n7_ n8_ n9_
         clear ho hb hg hat
         obtain ⟨Ao89, co89, eo89⟩ := Kd.R_slice HO464.out
         (first | subst eo89 | (injection eo89 with f1_ f2_ f3_; have f4_ := f1_.symm; have f5_ := f3_.symm; clear f1_ f2_ f3_; subst f4_; subst f5_))
         obtain ⟨Ao91, co91, eo91⟩ := Kd.R_slice HO470.out
         (first | subst eo91 | (injection eo91 with f1_ f2_ f3_; have f4_ := f1_.symm; have f5_ := f3_.symm; clear f1_ f2_ f3_; subst f4_; subst f5_))
         refine hK.out _ _ ⟨(bc BK437.out 0).trans rfl, (bc BK437.out 1).trans rfl, (bc BK437.out 2).trans rfl, (bc BK437.out 3).trans rfl, (bc BK437.out 4).trans rfl⟩ (fun hHeld => ?_)
         clear hK K
         refine norm_ (a' := ?_) ?_ ?_
         rotate_left
         ·show Act.put _ (some 88) _ = _
          simp only [Act.put, sA, sB, sC, i64_w, i32_w]
          rfl
         refine last_ (i := 11) (N := none) (bz 14 4095) rfl rfl (one_of HT_.out (by kernel_rfl)) (by decide) (fun K hK => ?_)
         have hs90 : w87.cell? ⟨gb437, 0, none⟩ = some (.slice Ao77 x438000_9.length co77) := (bc BK437.out 0).trans rfl
         have hfs90 := bf BK437.out 0
         have hns90_0 := NB433_437.out
         have hms90_0 := NB437_433.out
         refine skip_ (w1 := ?_) (by rfl) rfl ?_ ?_
         rotate_left
         ·go_simp
          rfl
         refine hK.out _ _ ?_
         clear hK K
         refine pure_ (i := 12) (N := some 90) (v := ?_) (a' := ?_) (bz 14 8191) rfl rfl (any_of HT_.out (by kernel_rfl)) (fun _ _ _ h => h) (Or.inl ⟨by rfl, ?_⟩) ?_ ?_
         rotate_left
         ·intro w'
          go_simp
          with_reducible rfl
         rotate_left
         ·simp only [Act.put, sA, sB, sC, i64_w, i32_w]
          rfl
         refine last_ (i := 13) (N := none) (bz 14 16383) rfl rfl (one_of HT_.out (by kernel_rfl)) (by decide) (fun K hK => ?_)
         have hs92 : w87.cell? ⟨gb437, 4, none⟩ = some (.slice Ao78 x438004_9.length co78) := (bc BK437.out 4).trans rfl
         have hfs92 := bf BK437.out 4
         have hns92_0 := NB433_437.out
         have hms92_0 := NB437_433.out
         refine skip_ (w1 := ?_) (by rfl) rfl ?_ ?_
         rotate_left
         ·go_simp
          rfl
         refine hK.out _ _ ?_
         clear hK K
         refine done_ (done_of HT_.out (by kernel_rfl)) ?_
         try go_wp2
         have n0_ : AZ (Kd.R (Kd.int .i64) 2 ((w87.setCell ⟨gb437, 0, none⟩ (.slice Ao89 y462.length co89)).setCell ⟨gb437, 4, none⟩ (.slice Ao91 y468.length co91)) w.heap.size (fun k_ => some k_ ≠ (u438002 : Value).ownBlock ∧ some k_ ≠ (u438003 : Value).ownBlock ∧ some k_ ≠ (v460 : Value).ownBlock ∧ some k_ ≠ (.slice Ao89 y462.length co89 : Value).ownBlock ∧ some k_ ≠ (.slice Ao88 y465.length co88 : Value).ownBlock ∧ some k_ ≠ (.slice Ao91 y468.length co91 : Value).ownBlock) u438001 x438001_9) := ⟨by (with_reducible repeat (first | apply Kd.R_alloc | apply Kd.R_drewN | apply Kd.R_drew)); exact Kd.R_mono (Kd.R_far (p := ⟨gb437, 4, none⟩) (Kd.R_far (p := ⟨gb437, 0, none⟩) (Kd.R_types HO_438001.out BK437.out (by decide)) (fun _ hk => hk.2) (.slice Ao89 y462.length co89)) (fun _ hk => hk.2) (.slice Ao91 y468.length co91)) (fun _ hk => ⟨hk.1.1.1, ⟨hk.1.1.2.1, ⟨hk.1.1.2.2.1, ⟨hk.1.1.2.2.2.1, ⟨hk.1.1.2.2.2.2, hk.1.2⟩⟩⟩⟩⟩)⟩
         have n1_ : AZ (Kd.R (Kd.int .i64) 2 ((w87.setCell ⟨gb437, 0, none⟩ (.slice Ao89 y462.length co89)).setCell ⟨gb437, 4, none⟩ (.slice Ao91 y468.length co91)) w.heap.size (fun k_ => some k_ ≠ (u438001 : Value).ownBlock ∧ some k_ ≠ (u438003 : Value).ownBlock ∧ some k_ ≠ (v460 : Value).ownBlock ∧ some k_ ≠ (.slice Ao89 y462.length co89 : Value).ownBlock ∧ some k_ ≠ (.slice Ao88 y465.length co88 : Value).ownBlock ∧ some k_ ≠ (.slice Ao91 y468.length co91 : Value).ownBlock) u438002 x438002_61) := ⟨by (with_reducible repeat (first | apply Kd.R_alloc | apply Kd.R_drewN | apply Kd.R_drew)); exact Kd.R_mono (Kd.R_far (p := ⟨gb437, 4, none⟩) (Kd.R_far (p := ⟨gb437, 0, none⟩) (Kd.R_types HO_438002.out BK437.out (by decide)) (fun _ hk => hk.2) (.slice Ao89 y462.length co89)) (fun _ hk => hk.2) (.slice Ao91 y468.length co91)) (fun _ hk => ⟨hk.1.1.1, ⟨hk.1.1.2.1, ⟨hk.1.1.2.2.1, ⟨hk.1.1.2.2.2.1, ⟨hk.1.1.2.2.2.2, hk.1.2⟩⟩⟩⟩⟩)⟩
         have n2_ : AZ (Kd.R (Kd.int .i64) 2 ((w87.setCell ⟨gb437, 0, none⟩ (.slice Ao89 y462.length co89)).setCell ⟨gb437, 4, none⟩ (.slice Ao91 y468.length co91)) w.heap.size (fun k_ => some k_ ≠ (u438001 : Value).ownBlock ∧ some k_ ≠ (u438002 : Value).ownBlock ∧ some k_ ≠ (v460 : Value).ownBlock ∧ some k_ ≠ (.slice Ao89 y462.length co89 : Value).ownBlock ∧ some k_ ≠ (.slice Ao88 y465.length co88 : Value).ownBlock ∧ some k_ ≠ (.slice Ao91 y468.length co91 : Value).ownBlock) u438003 x438003_9) := ⟨by (with_reducible repeat (first | apply Kd.R_alloc | apply Kd.R_drewN | apply Kd.R_drew)); exact Kd.R_mono (Kd.R_far (p := ⟨gb437, 4, none⟩) (Kd.R_far (p := ⟨gb437, 0, none⟩) (Kd.R_types HO_438003.out BK437.out (by decide)) (fun _ hk => hk.2) (.slice Ao89 y462.length co89)) (fun _ hk => hk.2) (.slice Ao91 y468.length co91)) (fun _ hk => ⟨hk.1.1.1, ⟨hk.1.1.2.1, ⟨hk.1.1.2.2.1, ⟨hk.1.1.2.2.2.1, ⟨hk.1.1.2.2.2.2, hk.1.2⟩⟩⟩⟩⟩)⟩
         have n3_ : AZ (Kd.R (Kd.int .i64) 2 ((w87.setCell ⟨gb437, 0, none⟩ (.slice Ao89 y462.length co89)).setCell ⟨gb437, 4, none⟩ (.slice Ao91 y468.length co91)) w.heap.size (fun k_ => some k_ ≠ (u438001 : Value).ownBlock ∧ some k_ ≠ (u438002 : Value).ownBlock ∧ some k_ ≠ (u438003 : Value).ownBlock ∧ some k_ ≠ (.slice Ao89 y462.length co89 : Value).ownBlock ∧ some k_ ≠ (.slice Ao88 y465.length co88 : Value).ownBlock ∧ some k_ ≠ (.slice Ao91 y468.length co91 : Value).ownBlock) v460 y459) := ⟨by (with_reducible repeat (first | apply Kd.R_alloc | apply Kd.R_drewN | apply Kd.R_drew)); exact Kd.R_mono (Kd.R_far (p := ⟨gb437, 4, none⟩) (Kd.R_far (p := ⟨gb437, 0, none⟩) (Kd.R_types HO461.out BK437.out (by decide)) (fun _ hk => hk.2) (.slice Ao89 y462.length co89)) (fun _ hk => hk.2) (.slice Ao91 y468.length co91)) (fun _ hk => ⟨hk.1.1.1, ⟨hk.1.1.2.1, ⟨hk.1.1.2.2.1, ⟨hk.1.1.2.2.2.1, ⟨hk.1.1.2.2.2.2, hk.1.2⟩⟩⟩⟩⟩)⟩
         have n4_ : AZ (Kd.R (Kd.int .i64) 2 ((w87.setCell ⟨gb437, 0, none⟩ (.slice Ao89 y462.length co89)).setCell ⟨gb437, 4, none⟩ (.slice Ao91 y468.length co91)) w.heap.size (fun k_ => some k_ ≠ (u438001 : Value).ownBlock ∧ some k_ ≠ (u438002 : Value).ownBlock ∧ some k_ ≠ (u438003 : Value).ownBlock ∧ some k_ ≠ (v460 : Value).ownBlock ∧ some k_ ≠ (.slice Ao88 y465.length co88 : Value).ownBlock ∧ some k_ ≠ (.slice Ao91 y468.length co91 : Value).ownBlock) (.slice Ao89 y462.length co89) y462) := ⟨by (with_reducible repeat (first | apply Kd.R_alloc | apply Kd.R_drewN | apply Kd.R_drew)); exact Kd.R_mono (Kd.R_far (p := ⟨gb437, 4, none⟩) (Kd.R_far (p := ⟨gb437, 0, none⟩) (Kd.R_types HO464.out BK437.out (by decide)) (fun _ hk => hk.2) (.slice Ao89 y462.length co89)) (fun _ hk => hk.2) (.slice Ao91 y468.length co91)) (fun _ hk => ⟨hk.1.1.1, ⟨hk.1.1.2.1, ⟨hk.1.1.2.2.1, ⟨hk.1.1.2.2.2.1, ⟨hk.1.1.2.2.2.2, hk.1.2⟩⟩⟩⟩⟩)⟩
         have n5_ : AZ (Kd.R (Kd.int .i64) 2 ((w87.setCell ⟨gb437, 0, none⟩ (.slice Ao89 y462.length co89)).setCell ⟨gb437, 4, none⟩ (.slice Ao91 y468.length co91)) w.heap.size (fun k_ => some k_ ≠ (u438001 : Value).ownBlock ∧ some k_ ≠ (u438002 : Value).ownBlock ∧ some k_ ≠ (u438003 : Value).ownBlock ∧ some k_ ≠ (v460 : Value).ownBlock ∧ some k_ ≠ (.slice Ao89 y462.length co89 : Value).ownBlock ∧ some k_ ≠ (.slice Ao91 y468.length co91 : Value).ownBlock) (.slice Ao88 y465.length co88) y465) := ⟨by (with_reducible repeat (first | apply Kd.R_alloc | apply Kd.R_drewN | apply Kd.R_drew)); exact Kd.R_mono (Kd.R_far (p := ⟨gb437, 4, none⟩) (Kd.R_far (p := ⟨gb437, 0, none⟩) (Kd.R_types HO467.out BK437.out (by decide)) (fun _ hk => hk.2) (.slice Ao89 y462.length co89)) (fun _ hk => hk.2) (.slice Ao91 y468.length co91)) (fun _ hk => ⟨hk.1.1.1, ⟨hk.1.1.2.1, ⟨hk.1.1.2.2.1, ⟨hk.1.1.2.2.2.1, ⟨hk.1.1.2.2.2.2, hk.1.2⟩⟩⟩⟩⟩)⟩
         have n6_ : AZ (Kd.R (Kd.int .i64) 2 ((w87.setCell ⟨gb437, 0, none⟩ (.slice Ao89 y462.length co89)).setCell ⟨gb437, 4, none⟩ (.slice Ao91 y468.length co91)) w.heap.size (fun k_ => some k_ ≠ (u438001 : Value).ownBlock ∧ some k_ ≠ (u438002 : Value).ownBlock ∧ some k_ ≠ (u438003 : Value).ownBlock ∧ some k_ ≠ (v460 : Value).ownBlock ∧ some k_ ≠ (.slice Ao89 y462.length co89 : Value).ownBlock ∧ some k_ ≠ (.slice Ao88 y465.length co88 : Value).ownBlock) (.slice Ao91 y468.length co91) y468) := ⟨by (with_reducible repeat (first | apply Kd.R_alloc | apply Kd.R_drewN | apply Kd.R_drew)); exact Kd.R_mono (Kd.R_far (p := ⟨gb437, 4, none⟩) (Kd.R_far (p := ⟨gb437, 0, none⟩) (Kd.R_types HO470.out BK437.out (by decide)) (fun _ hk => hk.2) (.slice Ao89 y462.length co89)) (fun _ hk => hk.2) (.slice Ao91 y468.length co91)) (fun _ hk => ⟨hk.1.1, ⟨hk.1.2.1, ⟨hk.1.2.2.1, ⟨hk.1.2.2.2.1, ⟨hk.1.2.2.2.2.1, hk.1.2.2.2.2.2⟩⟩⟩⟩⟩)⟩
         have n7_ : AZ (((w87.setCell ⟨gb437, 0, none⟩ (.slice Ao89 y462.length co89)).setCell ⟨gb437, 4, none⟩ (.slice Ao91 y468.length co91)).heap[gb433]? = some (.cells #[.slice none 0 0, .slice none 0 0, .slice none 0 0, .slice none 0 0, .slice none 0 0] 91 (0, 0))) := ⟨by (with_reducible repeat (first | refine bn_ ?_ _ | refine bd_ ?_ | refine ba_ ?_ _)); refine blk_far ?_ NB433_437.out _; (with_reducible repeat (first | refine bn_ ?_ _ | refine bd_ ?_ | refine ba_ ?_ _)); refine blk_far ?_ NB433_437.out _; (with_reducible repeat (first | refine bn_ ?_ _ | refine bd_ ?_ | refine ba_ ?_ _)); exact BK433.out⟩
         have n8_ : AZ (((w87.setCell ⟨gb437, 0, none⟩ (.slice Ao89 y462.length co89)).setCell ⟨gb437, 4, none⟩ (.slice Ao91 y468.length co91)).heap[gb437]? = some (.cells #[.slice Ao89 y462.length co89, u438001, u438002, u438003, .slice Ao91 y468.length co91] 91 (0, 0))) := ⟨by (with_reducible repeat (first | refine bn_ ?_ _ | refine bd_ ?_ | refine ba_ ?_ _)); refine blk_put (cs := #[.slice Ao89 y462.length co89, u438001, u438002, u438003, .slice Ao78 x438004_9.length co78]) ?_ 4 _ rfl; (with_reducible repeat (first | refine bn_ ?_ _ | refine bd_ ?_ | refine ba_ ?_ _)); refine blk_put (cs := #[.slice Ao77 x438000_9.length co77, u438001, u438002, u438003, .slice Ao78 x438004_9.length co78]) ?_ 0 _ rfl; (with_reducible repeat (first | refine bn_ ?_ _ | refine bd_ ?_ | refine ba_ ?_ _)); exact BK437.out⟩
         have n9_ : AZ (Below w.heap.size w ((w87.setCell ⟨gb437, 0, none⟩ (.slice Ao89 y462.length co89)).setCell ⟨gb437, 4, none⟩ (.slice Ao91 y468.length co91))) := ⟨by repeat (first | (with_reducible first | exact HB.out | apply pA | apply pN | apply pD | refine pS ?_ GE433.out | refine pS ?_ GE437.out) | exact HB.out)⟩
         (try clear HO_438001)
         (try clear HO_438002)
         (try clear HO_438003)
         (try clear HO461)
         (try clear HO464)
         (try clear HO467)
         (try clear HO470)
         (try clear BK433)
         (try clear BK437)
         (try clear HB)
         generalize ((w87.setCell ⟨gb437, 0, none⟩ (.slice Ao89 y462.length co89)).setCell ⟨gb437, 4, none⟩ (.slice Ao91 y468.length co91)) = w93 at n0_ n1_ n2_ n3_ n4_ n5_ n6_ n7_ n8_ n9_ ⊢
         have HO_438001 := n0_
         have HO_438002 := n1_
         have HO_438003 := n2_
         have HO461 := n3_
         have HO464 := n4_
         have HO467 := n5_
         have HO470 := n6_
         have BK433 := n7_
         have BK437 := n8_
         have HB := n9_
         clear n0_ n1_ n2_ n3_ n4_ n5_ n6_ n7_ n8_ n9_
         have n0_ := AZ.mk (Kd.R_drew HO_438001.out)
         have n1_ := AZ.mk (Kd.R_drew HO_438002.out)
         have n2_ := AZ.mk (Kd.R_drew HO_438003.out)
         have n3_ := AZ.mk (Kd.R_drew HO461.out)
         have n4_ := AZ.mk (Kd.R_drew HO464.out)
         have n5_ := AZ.mk (Kd.R_drew HO467.out)
         have n6_ := AZ.mk (Kd.R_drew HO470.out)
         have n7_ := AZ.mk (bd_ BK433.out)
         have n8_ := AZ.mk (bd_ BK437.out)
         have n9_ := AZ.mk (pD HB.out)
         clear HO_438001
         clear HO_438002
         clear HO_438003
         clear HO461
         clear HO464
         clear HO467
         clear HO470
         clear BK433
         clear BK437
         clear HB
         have HO_438001 := n0_
         have HO_438002 := n1_
         have HO_438003 := n2_
         have HO461 := n3_
         have HO464 := n4_
         have HO467 := n5_
         have HO470 := n6_
         have BK433 := n7_
         have BK437 := n8_
         have HB := n9_
         clear n0_ n1_ n2_ n3_ n4_ n5_ n6_ n7_ n8_ n9_
         obtain ⟨Ao95, co95, eo95⟩ := Kd.R_slice HO_438002.out
         (first | subst eo95 | (injection eo95 with f1_ f2_ f3_; have f4_ := f1_.symm; have f5_ := f3_.symm; clear f1_ f2_ f3_; subst f4_; subst f5_))
         refine start_ (n := 9) (S := fun w' => w'.cell? ⟨gb437, 0, none⟩ = some (.slice Ao89 y462.length co89) ∧ w'.cell? ⟨gb437, 1, none⟩ = some (u438001) ∧ w'.cell? ⟨gb437, 2, none⟩ = some (.slice Ao95 x438002_61.length co95) ∧ w'.cell? ⟨gb437, 3, none⟩ = some (u438003) ∧ w'.cell? ⟨gb437, 4, none⟩ = some (.slice Ao91 y468.length co91)) (ds := [8]) (bz 9 0) (by kernel_rfl) rfl rfl ⟨(bc BK437.out 0).trans rfl, (bc BK437.out 1).trans rfl, (bc BK437.out 2).trans rfl, (bc BK437.out 3).trans rfl, (bc BK437.out 4).trans rfl⟩ (fun hHeld => ?_); refine with_tabW impl_match.tab22 impl_match.bits22 (fun HT_ HW_ => ?_)
         generalize w93.drew = w94 at HO_438001 HO_438002 HO_438003 HO461 HO464 HO467 HO470 BK433 BK437 HB hHeld ⊢
         iterate 4 (first | (refine pz_ HT_ impl_match.cz1 rfl rfl rfl (v := ?_) (a' := ?_) (by kernel_rfl) (fun _ _ _ h => h) (Or.inl ⟨by rfl, ?_⟩) ?_ ?_; rotate_left; (intro w'; go_simp; with_reducible rfl); rotate_left; (simp only [Act.put, sA, sB, sC, i64_w, i32_w]; rfl)) | (refine tz_ HT_ HW_ impl_match.cz1 rfl rfl rfl (v := ?_) (a' := ?_) (by kernel_rfl) (fun _ _ _ h => h) (Or.inl ⟨by rfl, ?_⟩) hHeld ?_ ?_; rotate_left; (rintro w' ⟨s0, s1, s2, s3, s4⟩; go_simp; with_reducible rfl); rotate_left; (simp only [Act.put, sA, sB, sC, i64_w, i32_w]; rfl)))
         refine one_ (i := 4) (N := some 95) (bz 9 31) rfl rfl (one_of HT_.out (by kernel_rfl)) (by decide) (fun K hK => ?_)
         refine goes_ Try.func31 (by kernel_rfl) rfl #[.slice Ao95 x438002_61.length co95] (by rfl) rfl rfl (by (try simp only [List.map_toArray, List.map_cons, List.map_nil]); first | done | rfl | (simp only [List.length_drop, List.length_take]; rfl)) ?_
         with_reducible refine (impl_size_int64.calls _ _ x438002_61 t471 _ ?side1 ?side2 A75.out).mono ?_
         (case side1 => repeat (first | exact (Kd.R_reads' HO_438002.out).2.2 | (with_reducible refine Kd.C_alloc ?_ _) | (with_reducible refine Kd.C_drewN ?_ _) | (with_reducible refine Kd.C_drew ?_)))
         (case side2 => exact (Kd.R_reads' HO_438002.out).2.1)
         rintro e w' ⟨rfl, ⟨nd, rfl⟩⟩
         refine ⟨_, rfl, ?_⟩
         refine hK.out _ _ ⟨(bc BK437.out 0).trans rfl, (bc BK437.out 1).trans rfl, (bc BK437.out 2).trans rfl, (bc BK437.out 3).trans rfl, (bc BK437.out 4).trans rfl⟩ (fun hHeld => ?_)
         clear hK K
         refine norm_ (a' := ?_) ?_ ?_
         rotate_left
         ·show Act.put _ (some 95) _ = _
          simp only [Act.put, sA, sB, sC, i64_w, i32_w]
          rfl
         refine one_ (i := 5) (N := some 96) (bz 9 63) rfl rfl (one_of HT_.out (by kernel_rfl)) (by decide) (fun K hK => ?_)
         refine Kd.R_lit_step (Kd.int .i64) _ 2 ?hg (N := 96) ?hd (xs := ([t471] : List Int)) (inner := [.int .i64 t471]) (ok := fun _ => True) (okp := fun _ => True) ?hr ?hp (fun _ hk => hk) trivial (Below.refl _ _) (Nat.le_refl _) (by simp) ?_; (case hd => rfl); (case hg => rfl); (case hr => first | (go_simp; done) | (go_simp; rfl)); (case hp => exact (Reps.one (show Kd.M (Kd.int .i64) _ _ _ t471 [.int .i64 t471] from rfl) (Reps.none _ _)))
         intro v473 w96 ho97 hb hg_ hnew_
         clear hg_ hnew_
         (first | rw [← Ny472.out] at ho97 | (simp only [Int.reduceToNat] at ho97; rw [← Ny472.out] at ho97))
         have n0_ := AZ.mk (Kd.R_elder' (by (with_reducible repeat (first | apply Kd.R_alloc | apply Kd.R_drewN | apply Kd.R_drew)); exact HO_438001.out) (Kd.R_base ho97) hb)
         have n1_ := AZ.mk (Kd.R_elder' (by (with_reducible repeat (first | apply Kd.R_alloc | apply Kd.R_drewN | apply Kd.R_drew)); exact HO_438002.out) (Kd.R_base ho97) hb)
         have n2_ := AZ.mk (Kd.R_elder' (by (with_reducible repeat (first | apply Kd.R_alloc | apply Kd.R_drewN | apply Kd.R_drew)); exact HO_438003.out) (Kd.R_base ho97) hb)
         have n3_ := AZ.mk (Kd.R_elder' (by (with_reducible repeat (first | apply Kd.R_alloc | apply Kd.R_drewN | apply Kd.R_drew)); exact HO461.out) (Kd.R_base ho97) hb)
         have n4_ := AZ.mk (Kd.R_elder' (by (with_reducible repeat (first | apply Kd.R_alloc | apply Kd.R_drewN | apply Kd.R_drew)); exact HO464.out) (Kd.R_base ho97) hb)
         have n5_ := AZ.mk (Kd.R_elder' (by (with_reducible repeat (first | apply Kd.R_alloc | apply Kd.R_drewN | apply Kd.R_drew)); exact HO467.out) (Kd.R_base ho97) hb)
         have n6_ := AZ.mk (Kd.R_elder' (by (with_reducible repeat (first | apply Kd.R_alloc | apply Kd.R_drewN | apply Kd.R_drew)); exact HO470.out) (Kd.R_base ho97) hb)
         have n7_ := AZ.mk (Kd.R_lower (Kd.R_new' (Kd.R_new' (Kd.R_new' (Kd.R_new' (Kd.R_new' (Kd.R_new' (Kd.R_new' ho97 (Kd.R_lt (by (with_reducible repeat (first | apply Kd.R_alloc | apply Kd.R_drewN | apply Kd.R_drew)); exact HO_438001.out))) (Kd.R_lt (by (with_reducible repeat (first | apply Kd.R_alloc | apply Kd.R_drewN | apply Kd.R_drew)); exact HO_438002.out))) (Kd.R_lt (by (with_reducible repeat (first | apply Kd.R_alloc | apply Kd.R_drewN | apply Kd.R_drew)); exact HO_438003.out))) (Kd.R_lt (by (with_reducible repeat (first | apply Kd.R_alloc | apply Kd.R_drewN | apply Kd.R_drew)); exact HO461.out))) (Kd.R_lt (by (with_reducible repeat (first | apply Kd.R_alloc | apply Kd.R_drewN | apply Kd.R_drew)); exact HO464.out))) (Kd.R_lt (by (with_reducible repeat (first | apply Kd.R_alloc | apply Kd.R_drewN | apply Kd.R_drew)); exact HO467.out))) (Kd.R_lt (by (with_reducible repeat (first | apply Kd.R_alloc | apply Kd.R_drewN | apply Kd.R_drew)); exact HO470.out))) (pZ (by repeat (first | (with_reducible first | exact HB.out | apply pA | apply pN | apply pD | refine pS ?_ GE433.out | refine pS ?_ GE437.out) | exact HB.out))))
         have n8_ := AZ.mk (bb_ (g := gb433) (o := .cells #[.slice none 0 0, .slice none 0 0, .slice none 0 0, .slice none 0 0, .slice none 0 0] 91 (0, 0)) (by (with_reducible repeat (first | refine bn_ ?_ _ | refine bd_ ?_ | refine ba_ ?_ _)); exact BK433.out) hb)
         have n9_ := AZ.mk (bb_ (g := gb437) (o := .cells #[.slice Ao89 y462.length co89, u438001, .slice Ao95 x438002_61.length co95, u438003, .slice Ao91 y468.length co91] 91 (0, 0)) (by (with_reducible repeat (first | refine bn_ ?_ _ | refine bd_ ?_ | refine ba_ ?_ _)); exact BK437.out) hb)
         have n10_ := AZ.mk (pT (by repeat (first | (with_reducible first | exact HB.out | apply pA | apply pN | apply pD | refine pS ?_ GE433.out | refine pS ?_ GE437.out) | exact HB.out)) hb)
         clear HO_438001
         clear HO_438002
         clear HO_438003
         clear HO461
         clear HO464
         clear HO467
         clear HO470
         clear BK433
         clear BK437
         clear HB
         have HO_438001 := n0_
         have HO_438002 := n1_
         have HO_438003 := n2_
         have HO461 := n3_
         have HO464 := n4_
         have HO467 := n5_
         have HO470 := n6_
         have HO474 := n7_
         have BK433 := n8_
         have BK437 := n9_
         have HB := n10_
         clear n0_ n1_ n2_ n3_ n4_ n5_ n6_ n7_ n8_ n9_ n10_
         clear hb ho97
         obtain ⟨Ao99, co99, eo99⟩ := Kd.R_slice HO474.out
         (first | subst eo99 | (injection eo99 with f1_ f2_ f3_; have f4_ := f1_.symm; have f5_ := f3_.symm; clear f1_ f2_ f3_; subst f4_; subst f5_))
         refine hK.out _ _ ⟨(bc BK437.out 0).trans rfl, (bc BK437.out 1).trans rfl, (bc BK437.out 2).trans rfl, (bc BK437.out 3).trans rfl, (bc BK437.out 4).trans rfl⟩ (fun hHeld => ?_)
         clear hK K
         refine norm_ (a' := ?_) ?_ ?_
         rotate_left
         ·show Act.put _ (some 96) _ = _
          simp only [Act.put, sA, sB, sC, i64_w, i32_w]
          rfl
         refine one_ (i := 6) (N := some 97) (bz 9 127) rfl rfl (one_of HT_.out (by kernel_rfl)) (by decide) (fun K hK => ?_)
         refine Kd.R_append_rows_step (Kd.int .i64) (w0 := w) w.heap.size (by rfl) (.tmp 92) (.tmp 96) 23 2 (.int .i64 0) 8 rfl Try.underlying23 info2 rfl (by decide) (by omega) u438003 x438003_9 y472 _ _ _ (fun k_ => some k_ ≠ (u438001 : Value).ownBlock ∧ some k_ ≠ (.slice Ao95 x438002_61.length co95 : Value).ownBlock ∧ some k_ ≠ (v460 : Value).ownBlock ∧ some k_ ≠ (.slice Ao89 y462.length co89 : Value).ownBlock ∧ some k_ ≠ (.slice Ao88 y465.length co88 : Value).ownBlock ∧ some k_ ≠ (.slice Ao91 y468.length co91 : Value).ownBlock ∧ some k_ ≠ (.slice Ao99 y472.length co99 : Value).ownBlock) (fun _ => False) rfl rfl ?aO ?aR (fun _ _ h => h) (fun _ h => h.elim) ?aF ?aB ?aS ?aL ?_
         (case aR => repeat (first | exact (Kd.R_reads' HO474.out).2.2 | (with_reducible refine Kd.C_alloc ?_ _) | (with_reducible refine Kd.C_drewN ?_ _) | (with_reducible refine Kd.C_drew ?_)))
         (case aB => exact (by repeat (first | (with_reducible first | exact HB.out | apply pA | apply pN | apply pD | refine pS ?_ GE433.out | refine pS ?_ GE437.out) | exact HB.out)))
         (case aF => exact (fun k_ hk => ⟨Kd.fresh' (Kd.R_lt (by (with_reducible repeat (first | apply Kd.R_alloc | apply Kd.R_drewN | apply Kd.R_drew)); exact HO_438001.out)) k_ hk, Kd.fresh' (Kd.R_lt (by (with_reducible repeat (first | apply Kd.R_alloc | apply Kd.R_drewN | apply Kd.R_drew)); exact HO_438002.out)) k_ hk, Kd.fresh' (Kd.R_lt (by (with_reducible repeat (first | apply Kd.R_alloc | apply Kd.R_drewN | apply Kd.R_drew)); exact HO461.out)) k_ hk, Kd.fresh' (Kd.R_lt (by (with_reducible repeat (first | apply Kd.R_alloc | apply Kd.R_drewN | apply Kd.R_drew)); exact HO464.out)) k_ hk, Kd.fresh' (Kd.R_lt (by (with_reducible repeat (first | apply Kd.R_alloc | apply Kd.R_drewN | apply Kd.R_drew)); exact HO467.out)) k_ hk, Kd.fresh' (Kd.R_lt (by (with_reducible repeat (first | apply Kd.R_alloc | apply Kd.R_drewN | apply Kd.R_drew)); exact HO470.out)) k_ hk, Kd.fresh' (Kd.R_lt (by (with_reducible repeat (first | apply Kd.R_alloc | apply Kd.R_drewN | apply Kd.R_drew)); exact HO474.out)) k_ hk⟩))
         (case aO => exact (by (with_reducible repeat (first | apply Kd.R_alloc | apply Kd.R_drewN | apply Kd.R_drew)); exact Kd.R_mono HO_438003.out (fun _ hk => ⟨hk.1.1, ⟨hk.1.2.1, ⟨hk.1.2.2.1, ⟨hk.1.2.2.2.1, ⟨hk.1.2.2.2.2.1, ⟨hk.1.2.2.2.2.2, hk.2⟩⟩⟩⟩⟩⟩)))
         (case aS => exact (pZ (by repeat (first | (with_reducible first | exact HB.out | apply pA | apply pN | apply pD | refine pS ?_ GE433.out | refine pS ?_ GE437.out) | exact HB.out))))
         (case aL => have := LMc76.out; omega)
         intro v476 w98 ho hb hg hat
         rw [← Ny475.out] at ho
         have n0_ := AZ.mk (Kd.R_after (ok := (fun k_ => some k_ ≠ (.slice Ao95 x438002_61.length co95 : Value).ownBlock ∧ some k_ ≠ (v460 : Value).ownBlock ∧ some k_ ≠ (.slice Ao89 y462.length co89 : Value).ownBlock ∧ some k_ ≠ (.slice Ao88 y465.length co88 : Value).ownBlock ∧ some k_ ≠ (.slice Ao91 y468.length co91 : Value).ownBlock ∧ some k_ ≠ (.slice Ao99 y472.length co99 : Value).ownBlock)) (by (with_reducible repeat (first | apply Kd.R_alloc | apply Kd.R_drewN | apply Kd.R_drew)); exact Kd.R_mono HO_438001.out (fun _ hk => ⟨⟨hk.1.1, ⟨hk.1.2.2.1, ⟨hk.1.2.2.2.1, ⟨hk.1.2.2.2.2.1, ⟨hk.1.2.2.2.2.2, hk.2⟩⟩⟩⟩⟩, hk.1.2.1⟩)) hg hat)
         have n1_ := AZ.mk (Kd.R_after (ok := (fun k_ => some k_ ≠ (u438001 : Value).ownBlock ∧ some k_ ≠ (v460 : Value).ownBlock ∧ some k_ ≠ (.slice Ao89 y462.length co89 : Value).ownBlock ∧ some k_ ≠ (.slice Ao88 y465.length co88 : Value).ownBlock ∧ some k_ ≠ (.slice Ao91 y468.length co91 : Value).ownBlock ∧ some k_ ≠ (.slice Ao99 y472.length co99 : Value).ownBlock)) (by (with_reducible repeat (first | apply Kd.R_alloc | apply Kd.R_drewN | apply Kd.R_drew)); exact Kd.R_mono HO_438002.out (fun _ hk => ⟨⟨hk.1.1, ⟨hk.1.2.2.1, ⟨hk.1.2.2.2.1, ⟨hk.1.2.2.2.2.1, ⟨hk.1.2.2.2.2.2, hk.2⟩⟩⟩⟩⟩, hk.1.2.1⟩)) hg hat)
         have n2_ := AZ.mk (blk_grown (g := gb433) (o := .cells #[.slice none 0 0, .slice none 0 0, .slice none 0 0, .slice none 0 0, .slice none 0 0] 91 (0, 0)) (by (with_reducible repeat (first | refine bn_ ?_ _ | refine bd_ ?_ | refine ba_ ?_ _)); exact BK433.out) hg (Kd.R_ne HO_438003.out BK433.out (by decide)))
         have n3_ := AZ.mk (blk_grown (g := gb437) (o := .cells #[.slice Ao89 y462.length co89, u438001, .slice Ao95 x438002_61.length co95, u438003, .slice Ao91 y468.length co91] 91 (0, 0)) (by (with_reducible repeat (first | refine bn_ ?_ _ | refine bd_ ?_ | refine ba_ ?_ _)); exact BK437.out) hg (Kd.R_ne HO_438003.out BK437.out (by decide)))
         have n4_ := AZ.mk (Kd.R_after (ok := (fun k_ => some k_ ≠ (u438001 : Value).ownBlock ∧ some k_ ≠ (.slice Ao95 x438002_61.length co95 : Value).ownBlock ∧ some k_ ≠ (.slice Ao89 y462.length co89 : Value).ownBlock ∧ some k_ ≠ (.slice Ao88 y465.length co88 : Value).ownBlock ∧ some k_ ≠ (.slice Ao91 y468.length co91 : Value).ownBlock ∧ some k_ ≠ (.slice Ao99 y472.length co99 : Value).ownBlock)) (by (with_reducible repeat (first | apply Kd.R_alloc | apply Kd.R_drewN | apply Kd.R_drew)); exact Kd.R_mono HO461.out (fun _ hk => ⟨⟨hk.1.1, ⟨hk.1.2.1, ⟨hk.1.2.2.2.1, ⟨hk.1.2.2.2.2.1, ⟨hk.1.2.2.2.2.2, hk.2⟩⟩⟩⟩⟩, hk.1.2.2.1⟩)) hg hat)
         have n5_ := AZ.mk (Kd.R_after (ok := (fun k_ => some k_ ≠ (u438001 : Value).ownBlock ∧ some k_ ≠ (.slice Ao95 x438002_61.length co95 : Value).ownBlock ∧ some k_ ≠ (v460 : Value).ownBlock ∧ some k_ ≠ (.slice Ao88 y465.length co88 : Value).ownBlock ∧ some k_ ≠ (.slice Ao91 y468.length co91 : Value).ownBlock ∧ some k_ ≠ (.slice Ao99 y472.length co99 : Value).ownBlock)) (by (with_reducible repeat (first | apply Kd.R_alloc | apply Kd.R_drewN | apply Kd.R_drew)); exact Kd.R_mono HO464.out (fun _ hk => ⟨⟨hk.1.1, ⟨hk.1.2.1, ⟨hk.1.2.2.2.1, ⟨hk.1.2.2.2.2.1, ⟨hk.1.2.2.2.2.2, hk.2⟩⟩⟩⟩⟩, hk.1.2.2.1⟩)) hg hat)
         have n6_ := AZ.mk (Kd.R_after (ok := (fun k_ => some k_ ≠ (u438001 : Value).ownBlock ∧ some k_ ≠ (.slice Ao95 x438002_61.length co95 : Value).ownBlock ∧ some k_ ≠ (v460 : Value).ownBlock ∧ some k_ ≠ (.slice Ao89 y462.length co89 : Value).ownBlock ∧ some k_ ≠ (.slice Ao91 y468.length co91 : Value).ownBlock ∧ some k_ ≠ (.slice Ao99 y472.length co99 : Value).ownBlock)) (by (with_reducible repeat (first | apply Kd.R_alloc | apply Kd.R_drewN | apply Kd.R_drew)); exact Kd.R_mono HO467.out (fun _ hk => ⟨⟨hk.1.1, ⟨hk.1.2.1, ⟨hk.1.2.2.2.1, ⟨hk.1.2.2.2.2.1, ⟨hk.1.2.2.2.2.2, hk.2⟩⟩⟩⟩⟩, hk.1.2.2.1⟩)) hg hat)
         have n7_ := AZ.mk (Kd.R_after (ok := (fun k_ => some k_ ≠ (u438001 : Value).ownBlock ∧ some k_ ≠ (.slice Ao95 x438002_61.length co95 : Value).ownBlock ∧ some k_ ≠ (v460 : Value).ownBlock ∧ some k_ ≠ (.slice Ao89 y462.length co89 : Value).ownBlock ∧ some k_ ≠ (.slice Ao88 y465.length co88 : Value).ownBlock ∧ some k_ ≠ (.slice Ao99 y472.length co99 : Value).ownBlock)) (by (with_reducible repeat (first | apply Kd.R_alloc | apply Kd.R_drewN | apply Kd.R_drew)); exact Kd.R_mono HO470.out (fun _ hk => ⟨⟨hk.1.1, ⟨hk.1.2.1, ⟨hk.1.2.2.2.1, ⟨hk.1.2.2.2.2.1, ⟨hk.1.2.2.2.2.2, hk.2⟩⟩⟩⟩⟩, hk.1.2.2.1⟩)) hg hat)
         have n8_ := AZ.mk (Kd.R_after (ok := (fun k_ => some k_ ≠ (u438001 : Value).ownBlock ∧ some k_ ≠ (.slice Ao95 x438002_61.length co95 : Value).ownBlock ∧ some k_ ≠ (v460 : Value).ownBlock ∧ some k_ ≠ (.slice Ao89 y462.length co89 : Value).ownBlock ∧ some k_ ≠ (.slice Ao88 y465.length co88 : Value).ownBlock ∧ some k_ ≠ (.slice Ao91 y468.length co91 : Value).ownBlock)) (by (with_reducible repeat (first | apply Kd.R_alloc | apply Kd.R_drewN | apply Kd.R_drew)); exact Kd.R_mono HO474.out (fun _ hk => ⟨⟨hk.1.1.1.1.1.1.2, ⟨hk.1.1.1.1.1.2, ⟨hk.1.1.1.2, ⟨hk.1.1.2, ⟨hk.1.2, hk.2⟩⟩⟩⟩⟩, hk.1.1.1.1.2⟩)) hg hat)
         have n9_ := AZ.mk (hb)
         have n10_ := AZ.mk (ho)
         clear HO_438001
         clear HO_438002
         clear BK433
         clear BK437
         clear HO461
         clear HO464
         clear HO467
         clear HO470
         clear HO474
         clear HB
         clear HO_438003
         have HO_438001 := n0_
         have HO_438002 := n1_
         have BK433 := n2_
         have BK437 := n3_
         have HO461 := n4_
         have HO464 := n5_
         have HO467 := n6_
         have HO470 := n7_
         have HO474 := n8_
         have HB := n9_
         have HO477 := n10_
         clear n0_ n1_ n2_ n3_ n4_ n5_ n6_ n7_ n8_ n9_ n10_
         clear ho hb hg hat
         obtain ⟨Ao100, co100, eo100⟩ := Kd.R_slice HO477.out
         (first | subst eo100 | (injection eo100 with f1_ f2_ f3_; have f4_ := f1_.symm; have f5_ := f3_.symm; clear f1_ f2_ f3_; subst f4_; subst f5_))
         refine hK.out _ _ ⟨(bc BK437.out 0).trans rfl, (bc BK437.out 1).trans rfl, (bc BK437.out 2).trans rfl, (bc BK437.out 3).trans rfl, (bc BK437.out 4).trans rfl⟩ (fun hHeld => ?_)
         clear hK K
         refine norm_ (a' := ?_) ?_ ?_
         rotate_left
         ·show Act.put _ (some 97) _ = _
          simp only [Act.put, sA, sB, sC, i64_w, i32_w]
          rfl
         refine pure_ (i := 7) (N := some 98) (v := ?_) (a' := ?_) (bz 9 255) rfl rfl (any_of HT_.out (by kernel_rfl)) (fun _ _ _ h => h) (Or.inl ⟨by rfl, ?_⟩) ?_ ?_
         rotate_left
         ·intro w'
          go_simp
          with_reducible rfl
         rotate_left
         ·simp only [Act.put, sA, sB, sC, i64_w, i32_w]
          rfl
         refine last_ (i := 8) (N := none) (bz 9 511) rfl rfl (one_of HT_.out (by kernel_rfl)) (by decide) (fun K hK => ?_)
         have hs101 : w98.cell? ⟨gb437, 3, none⟩ = some (u438003) := (bc BK437.out 3).trans rfl
         have hfs101 := bf BK437.out 3
         have hns101_0 := NB433_437.out
         have hms101_0 := NB437_433.out
         refine skip_ (w1 := ?_) (by rfl) rfl ?_ ?_
         rotate_left
         ·go_simp
          rfl
         refine hK.out _ _ ?_
         clear hK K
         refine done_ (done_of HT_.out (by kernel_rfl)) ?_
         try go_wp2
         go_roundg kj61
         case measure => have := HK1.out; have := HJ9.out; have := HJ47.out; have := HJ61.out; omega
         case rel => exact ⟨(wrap64 (x14_1 + 1)), (y462), (x438001_9), (x438002_61), (y475), (y468), (.slice Ao89 y462.length co89), (u438001), (.slice Ao95 x438002_61.length co95), (.slice Ao100 y475.length co100), (.slice Ao91 y468.length co91), (by first | rfl | (simp; done) | (simp [*]; done)), H', ⟨by have := HK1.out; have := HJ9.out; have := HJ47.out; have := HJ61.out; omega⟩, ⟨by (with_reducible repeat (first | apply Kd.R_alloc | apply Kd.R_drewN | apply Kd.R_drew)); exact Kd.R_mono (Kd.R_far (p := ⟨gb437, 3, none⟩) (Kd.R_types HO464.out BK437.out (by decide)) (fun _ hk => hk.2) (.slice Ao100 y475.length co100)) (fun _ hk => ⟨hk.1.1.1, ⟨hk.1.1.2.1, ⟨hk.1.2, hk.1.1.2.2.2.2.1⟩⟩⟩)⟩, ⟨by (with_reducible repeat (first | apply Kd.R_alloc | apply Kd.R_drewN | apply Kd.R_drew)); exact Kd.R_mono (Kd.R_far (p := ⟨gb437, 3, none⟩) (Kd.R_types HO_438001.out BK437.out (by decide)) (fun _ hk => hk.2) (.slice Ao100 y475.length co100)) (fun _ hk => ⟨hk.1.1.2.2.1, ⟨hk.1.1.1, ⟨hk.1.2, hk.1.1.2.2.2.2.1⟩⟩⟩)⟩, ⟨by (with_reducible repeat (first | apply Kd.R_alloc | apply Kd.R_drewN | apply Kd.R_drew)); exact Kd.R_mono (Kd.R_far (p := ⟨gb437, 3, none⟩) (Kd.R_types HO_438002.out BK437.out (by decide)) (fun _ hk => hk.2) (.slice Ao100 y475.length co100)) (fun _ hk => ⟨hk.1.1.2.2.1, ⟨hk.1.1.1, ⟨hk.1.2, hk.1.1.2.2.2.2.1⟩⟩⟩)⟩, ⟨by (with_reducible repeat (first | apply Kd.R_alloc | apply Kd.R_drewN | apply Kd.R_drew)); exact Kd.R_mono (Kd.R_far (p := ⟨gb437, 3, none⟩) (Kd.R_types HO477.out BK437.out (by decide)) (fun _ hk => hk.2) (.slice Ao100 y475.length co100)) (fun _ hk => ⟨hk.1.2.2.2.1, ⟨hk.1.1, ⟨hk.1.2.1, hk.1.2.2.2.2.2.1⟩⟩⟩)⟩, ⟨by (with_reducible repeat (first | apply Kd.R_alloc | apply Kd.R_drewN | apply Kd.R_drew)); exact Kd.R_mono (Kd.R_far (p := ⟨gb437, 3, none⟩) (Kd.R_types HO470.out BK437.out (by decide)) (fun _ hk => hk.2) (.slice Ao100 y475.length co100)) (fun _ hk => ⟨hk.1.1.2.2.2.1, ⟨hk.1.1.1, ⟨hk.1.1.2.1, hk.1.2⟩⟩⟩)⟩, ⟨by (with_reducible repeat (first | refine bn_ ?_ _ | refine bd_ ?_ | refine ba_ ?_ _)); refine blk_far ?_ NB433_437.out _; (with_reducible repeat (first | refine bn_ ?_ _ | refine bd_ ?_ | refine ba_ ?_ _)); exact BK433.out⟩, ⟨by (with_reducible repeat (first | refine bn_ ?_ _ | refine bd_ ?_ | refine ba_ ?_ _)); refine blk_put (cs := #[.slice Ao89 y462.length co89, u438001, .slice Ao95 x438002_61.length co95, u438003, .slice Ao91 y468.length co91]) ?_ 3 _ rfl; (with_reducible repeat (first | refine bn_ ?_ _ | refine bd_ ?_ | refine ba_ ?_ _)); exact BK437.out⟩, ⟨by repeat (first | (with_reducible first | exact HB.out | apply pA | apply pN | apply pD | refine pS ?_ GE433.out | refine pS ?_ GE437.out) | exact HB.out)⟩⟩
end Go.Proofs.Ytgfilbgjnloopaa.P
namespace Go.Proofs.Ytgfilbgjnloopaa.P
open Go.RowKit Go.Proofs.YtgfilbgjnloopaaW.PrintWords Go.Proofs.YtgfilbgjnloopaaW.PrintLast Go.Proofs.YtgfilbgjnloopaaW.PrintMore
attribute [local go_sem] max2_int min2_int max_two min_two max_three min_three max_four min_four
set_option linter.unusedVariables false
set_option linter.unusedSimpArgs false
def impl_factors.l0 : Nat → ByteArray → List ByteArray → Int → List Int → List Int → List Int → List Int → List Int → Option (List ByteArray)
 | 0, _, _, _, _, _, _, _, _ => none
 | k + 1, x0, x3, x5, x513000, x513001, x513002, x513003, x513004 => if x5 < (x0.size : Int) then (if 0 ≤ x5 then (if x5 < (x513000.length : Int) then (if x5 ≤ (wrap64 ((mx x5 (rd x513000 x5)) + 1)) then (if (wrap64 ((mx x5 (rd x513000 x5)) + 1)) ≤ (x0.size : Int) then (if x3.length < 8796093022208 then (impl_factors.l0 k x0 (x3 ++ [x0.extract (x5 : Int).toNat ((wrap64 ((mx x5 (rd x513000 x5)) + 1)) : Int).toNat]) (wrap64 ((mx x5 (rd x513000 x5)) + 1)) x513000 x513001 x513002 x513003 x513004) else (none)) else (none)) else (none)) else (none)) else (none)) else (some x3)
def impl_factors.f (k : Nat) (a0 : ByteArray) : Option (List ByteArray) := (impl_match.f k a0).bind fun bt497 => (impl_factors.l0 k a0 (([] : List ByteArray)) 0 bt497.1 bt497.2.1 bt497.2.2.1 bt497.2.2.2.1 bt497.2.2.2.2)
set_option maxHeartbeats 8000000 in
set_option maxRecDepth 100000 in
theorem impl_factors.calls (k : Nat) (a0 : ByteArray) (r : List ByteArray) (w : World) (h : impl_factors.f k a0 = some r) :
  Calls Try.prog 71 #[.string a0] w fun e w' => ∃ v0_ : Value, e = .returned (v0_) ∧ Kd.R Kd.string 9 w' w.heap.size (fun _ => True) v0_ r ∧ Below w.heap.size w w' := by
 have hu91 := Try.underlying91
 have HB := AZ.mk (Below.refl w.heap.size w)
 have H : ((impl_match.f k a0).bind fun bt497 => (impl_factors.l0 k a0 (([] : List ByteArray)) 0 bt497.1 bt497.2.1 bt497.2.2.1 bt497.2.2.2.1 bt497.2.2.2.2)) = some r := h
 clear h
 obtain ⟨y494, hy494⟩ : ∃ y_ : List ByteArray, y_ = (([] : List ByteArray)) := ⟨_, rfl⟩
 replace H : ((impl_match.f k a0).bind fun bt497 => (impl_factors.l0 k a0 y494 0 bt497.1 bt497.2.1 bt497.2.2.1 bt497.2.2.2.1 bt497.2.2.2.2)) = some r := by first | (rw [hy494]; with_reducible exact H) | (have H2_ := (Option.bind_some _ _).symm.trans H; rw [hy494]; with_reducible exact H2_) | (have H2_ := (Option.bind_some _ _).symm.trans H; with_reducible exact H2_) | with_reducible exact H | (rw [hy494]; exact H) | exact H
 have Ny494 := AZ.mk hy494
 clear hy494
 replace H := Option.bind_eq_some_iff.mp H
 obtain ⟨⟨t497, t500, t503, t506, t509⟩, A20, H⟩ := H
 replace H : (impl_factors.l0 k a0 y494 0 t497 t500 t503 t506 t509) = some r := H
 have A2 := AZ.mk A20
 clear A20
 have H' := AZ.mk H
 clear H
 go_enter Try.func71, Try.ntmps71
 go_wp2_with (first | ((with_reducible refine gate_dst (N := 7) rfl ?_); refine Kd.R_lit Kd.string _ 9 ?hg (N := 7) ?hd (xs := ([] : List ByteArray)) (inner := []) (ok := fun _ => True) (okp := fun _ => True) ?hr ?hp (fun _ hk => hk) trivial (Below.refl _ _) (Nat.le_refl _) (by simp) ?_; (case hd => rfl); (case hg => rfl); (case hr => first | (go_simp; done) | (go_simp; rfl)); (case hp => exact (Reps.none _ _)); intro v495 w3 ho4 hb hg_ hnew_; clear hg_ hnew_; (first | rw [← Ny494.out] at ho4 | (simp only [Int.reduceToNat] at ho4; rw [← Ny494.out] at ho4)); have n0_ := AZ.mk (Kd.R_lower ho4 (pZ (by repeat (first | (with_reducible first | exact HB.out | apply pA | apply pN | apply pD) | exact HB.out)))); have n1_ := AZ.mk (pT (by repeat (first | (with_reducible first | exact HB.out | apply pA | apply pN | apply pD) | exact HB.out)) hb); clear HB; have HO496 := n0_; have HB := n1_; clear n0_ n1_; clear hb ho4) | ((with_reducible refine gate_callee (f := 67) rfl ?_); refine goesL_ (some 9) rfl rfl Try.func67 (by kernel_rfl) rfl #[.string a0] rfl (by (try simp only [List.map_toArray, List.map_cons, List.map_nil]); first | done | rfl | (simp only [List.length_drop, List.length_take]; rfl)) ?_; (with_reducible refine (impl_match.calls k a0 t497 t500 t503 t506 t509 _ A2.out).mono ?_); rintro e w5 ⟨v498, v501, v504, v507, v510, rfl, ho0, ho1, ho2, ho3, ho4, hb⟩; refine ⟨_, rfl, ?_⟩; have n0_ := AZ.mk (Kd.R_below (by (with_reducible repeat (first | apply Kd.R_alloc | apply Kd.R_drewN | apply Kd.R_drew)); exact HO496.out) hb); have n1_ := AZ.mk (Kd.R_lower ho0 (pZ (by repeat (first | (with_reducible first | exact HB.out | apply pA | apply pN | apply pD) | exact HB.out)))); have n2_ := AZ.mk (Kd.R_lower ho1 (pZ (by repeat (first | (with_reducible first | exact HB.out | apply pA | apply pN | apply pD) | exact HB.out)))); have n3_ := AZ.mk (Kd.R_lower ho2 (pZ (by repeat (first | (with_reducible first | exact HB.out | apply pA | apply pN | apply pD) | exact HB.out)))); have n4_ := AZ.mk (Kd.R_lower ho3 (pZ (by repeat (first | (with_reducible first | exact HB.out | apply pA | apply pN | apply pD) | exact HB.out)))); have n5_ := AZ.mk (Kd.R_lower ho4 (pZ (by repeat (first | (with_reducible first | exact HB.out | apply pA | apply pN | apply pD) | exact HB.out)))); have n6_ := AZ.mk (pT (by repeat (first | (with_reducible first | exact HB.out | apply pA | apply pN | apply pD) | exact HB.out)) hb); clear HO496; clear HB; have HO496 := n0_; have HO499 := n1_; have HO502 := n2_; have HO505 := n3_; have HO508 := n4_; have HO511 := n5_; have HB := n6_; clear n0_ n1_ n2_ n3_ n4_ n5_ n6_; (try clear hb); (try clear hb2); (try clear hk); (try clear hi); (try clear ho0); (try clear ho1); (try clear ho2); (try clear ho3); (try clear ho4)) | ((with_reducible refine gate_dst (N := 4) rfl ?_); refine box_event ?hg (N := 4) ?hd (cs := #[.slice none 0 0, .slice none 0 0, .slice none 0 0, .slice none 0 0, .slice none 0 0]) (t := 91) ?hr ?_; (case hd => rfl); (case hg => rfl); (case hr => first | (go_simp; done) | (go_simp; rfl)); intro gb512 hg w6 hbox hb; have n0_ := AZ.mk (Kd.R_below (by (with_reducible repeat (first | apply Kd.R_alloc | apply Kd.R_drewN | apply Kd.R_drew)); exact HO496.out) hb); have n1_ := AZ.mk (Kd.R_below (by (with_reducible repeat (first | apply Kd.R_alloc | apply Kd.R_drewN | apply Kd.R_drew)); exact HO499.out) hb); have n2_ := AZ.mk (Kd.R_below (by (with_reducible repeat (first | apply Kd.R_alloc | apply Kd.R_drewN | apply Kd.R_drew)); exact HO502.out) hb); have n3_ := AZ.mk (Kd.R_below (by (with_reducible repeat (first | apply Kd.R_alloc | apply Kd.R_drewN | apply Kd.R_drew)); exact HO505.out) hb); have n4_ := AZ.mk (Kd.R_below (by (with_reducible repeat (first | apply Kd.R_alloc | apply Kd.R_drewN | apply Kd.R_drew)); exact HO508.out) hb); have n5_ := AZ.mk (Kd.R_below (by (with_reducible repeat (first | apply Kd.R_alloc | apply Kd.R_drewN | apply Kd.R_drew)); exact HO511.out) hb); have n6_ := AZ.mk (pT (by repeat (first | (with_reducible first | exact HB.out | apply pA | apply pN | apply pD) | exact HB.out)) hb); have n7_ := AZ.mk (hbox); have n8_ := AZ.mk ((by rw [hg]; exact (pZ (by repeat (first | (with_reducible first | exact HB.out | apply pA | apply pN | apply pD) | exact HB.out))) : w.heap.size ≤ gb512)); have n9_ := AZ.mk ((by rw [hg]; exact (pZ (by repeat (first | (with_reducible first | exact HB.out | apply pA | apply pN | apply pD) | exact HB.out))) : w.heap.size ≤ gb512)); clear HO496; clear HO499; clear HO502; clear HO505; clear HO508; clear HO511; clear HB; have HO496 := n0_; have HO499 := n1_; have HO502 := n2_; have HO505 := n3_; have HO508 := n4_; have HO511 := n5_; have HB := n6_; have BK512 := n7_; have GW512 := n8_; have GE512 := n9_; clear n0_ n1_ n2_ n3_ n4_ n5_ n6_ n7_ n8_ n9_; clear hb hbox hg; obtain ⟨Ao7, co7, eo7⟩ := Kd.R_slice HO499.out; subst eo7; have hcz8_0 : w6.cell? ⟨gb512, 0, none⟩ = some (.slice none 0 0) := (bc BK512.out 0).trans rfl; have hcz8_1 : w6.cell? ⟨gb512, 1, none⟩ = some (.slice none 0 0) := (bc BK512.out 1).trans rfl; have hcz8_2 : w6.cell? ⟨gb512, 2, none⟩ = some (.slice none 0 0) := (bc BK512.out 2).trans rfl; have hcz8_3 : w6.cell? ⟨gb512, 3, none⟩ = some (.slice none 0 0) := (bc BK512.out 3).trans rfl; have hcz8_4 : w6.cell? ⟨gb512, 4, none⟩ = some (.slice none 0 0) := (bc BK512.out 4).trans rfl; have hfz8_0 := bf BK512.out 0; have hfz8_1 := bf BK512.out 1; have hfz8_2 := bf BK512.out 2; have hfz8_3 := bf BK512.out 3; have hfz8_4 := bf BK512.out 4; obtain ⟨Ao9, co9, eo9⟩ := Kd.R_slice HO502.out; subst eo9; obtain ⟨Ao10, co10, eo10⟩ := Kd.R_slice HO505.out; subst eo10; obtain ⟨Ao11, co11, eo11⟩ := Kd.R_slice HO508.out; subst eo11; obtain ⟨Ao12, co12, eo12⟩ := Kd.R_slice HO511.out; subst eo12))
 go_loopg [3, 5] k (fun kq v3 v5 w' => ∃ (x3_1 : List ByteArray) (x5_1 : Int), v5 = .int .i64 x5_1 ∧ AZ (impl_factors.l0 kq a0 x3_1 x5_1 t497 t500 t503 t506 t509 = some r) ∧ AZ (kq ≤ k) ∧ AZ (Kd.R Kd.string 9 w' w.heap.size (fun _ => True) v3 x3_1) ∧ AZ (Kd.R (Kd.int .i64) 2 w' w.heap.size (fun k_ => some k_ ≠ ((.slice Ao9 t500.length co9) : Value).ownBlock ∧ some k_ ≠ ((.slice Ao10 t503.length co10) : Value).ownBlock ∧ some k_ ≠ ((.slice Ao11 t506.length co11) : Value).ownBlock ∧ some k_ ≠ ((.slice Ao12 t509.length co12) : Value).ownBlock) (.slice Ao7 t497.length co7) t497) ∧ AZ (Kd.R (Kd.int .i64) 2 w' w.heap.size (fun k_ => some k_ ≠ ((.slice Ao7 t497.length co7) : Value).ownBlock ∧ some k_ ≠ ((.slice Ao10 t503.length co10) : Value).ownBlock ∧ some k_ ≠ ((.slice Ao11 t506.length co11) : Value).ownBlock ∧ some k_ ≠ ((.slice Ao12 t509.length co12) : Value).ownBlock) (.slice Ao9 t500.length co9) t500) ∧ AZ (Kd.R (Kd.int .i64) 2 w' w.heap.size (fun k_ => some k_ ≠ ((.slice Ao7 t497.length co7) : Value).ownBlock ∧ some k_ ≠ ((.slice Ao9 t500.length co9) : Value).ownBlock ∧ some k_ ≠ ((.slice Ao11 t506.length co11) : Value).ownBlock ∧ some k_ ≠ ((.slice Ao12 t509.length co12) : Value).ownBlock) (.slice Ao10 t503.length co10) t503) ∧ AZ (Kd.R (Kd.int .i64) 2 w' w.heap.size (fun k_ => some k_ ≠ ((.slice Ao7 t497.length co7) : Value).ownBlock ∧ some k_ ≠ ((.slice Ao9 t500.length co9) : Value).ownBlock ∧ some k_ ≠ ((.slice Ao10 t503.length co10) : Value).ownBlock ∧ some k_ ≠ ((.slice Ao12 t509.length co12) : Value).ownBlock) (.slice Ao11 t506.length co11) t506) ∧ AZ (Kd.R (Kd.int .i64) 2 w' w.heap.size (fun k_ => some k_ ≠ ((.slice Ao7 t497.length co7) : Value).ownBlock ∧ some k_ ≠ ((.slice Ao9 t500.length co9) : Value).ownBlock ∧ some k_ ≠ ((.slice Ao10 t503.length co10) : Value).ownBlock ∧ some k_ ≠ ((.slice Ao11 t506.length co11) : Value).ownBlock) (.slice Ao12 t509.length co12) t509) ∧ AZ (w'.heap[gb512]? = some (.cells #[(.slice Ao7 t497.length co7), (.slice Ao9 t500.length co9), (.slice Ao10 t503.length co10), (.slice Ao11 t506.length co11), (.slice Ao12 t509.length co12)] 91 (0, 0))) ∧ AZ (Below w.heap.size w w'))
 case atStart => exact ⟨(y494), (0), (by first | rfl | (simp; done) | (simp [*]; done)), H', ⟨Nat.le_refl _⟩, ⟨by (with_reducible repeat (first | apply Kd.R_alloc | apply Kd.R_drewN | apply Kd.R_drew)); exact Kd.R_mono (Kd.R_far (p := ⟨gb512, 4, none⟩) (Kd.R_far (p := ⟨gb512, 3, none⟩) (Kd.R_far (p := ⟨gb512, 2, none⟩) (Kd.R_far (p := ⟨gb512, 1, none⟩) (Kd.R_far (p := ⟨gb512, 0, none⟩) (Kd.R_types HO496.out BK512.out (by decide)) (fun _ hk => hk.2) (.slice Ao7 t497.length co7)) (fun _ hk => hk.2) (.slice Ao9 t500.length co9)) (fun _ hk => hk.2) (.slice Ao10 t503.length co10)) (fun _ hk => hk.2) (.slice Ao11 t506.length co11)) (fun _ hk => hk.2) (.slice Ao12 t509.length co12)) (fun _ hk => trivial)⟩, ⟨by (with_reducible repeat (first | apply Kd.R_alloc | apply Kd.R_drewN | apply Kd.R_drew)); exact Kd.R_mono (Kd.R_far (p := ⟨gb512, 4, none⟩) (Kd.R_far (p := ⟨gb512, 3, none⟩) (Kd.R_far (p := ⟨gb512, 2, none⟩) (Kd.R_far (p := ⟨gb512, 1, none⟩) (Kd.R_far (p := ⟨gb512, 0, none⟩) (Kd.R_types HO499.out BK512.out (by decide)) (fun _ hk => hk.2) (.slice Ao7 t497.length co7)) (fun _ hk => hk.2) (.slice Ao9 t500.length co9)) (fun _ hk => hk.2) (.slice Ao10 t503.length co10)) (fun _ hk => hk.2) (.slice Ao11 t506.length co11)) (fun _ hk => hk.2) (.slice Ao12 t509.length co12)) (fun _ hk => ⟨hk.1.1, ⟨hk.1.2.1, ⟨hk.1.2.2.1, hk.1.2.2.2⟩⟩⟩)⟩, ⟨by (with_reducible repeat (first | apply Kd.R_alloc | apply Kd.R_drewN | apply Kd.R_drew)); exact Kd.R_mono (Kd.R_far (p := ⟨gb512, 4, none⟩) (Kd.R_far (p := ⟨gb512, 3, none⟩) (Kd.R_far (p := ⟨gb512, 2, none⟩) (Kd.R_far (p := ⟨gb512, 1, none⟩) (Kd.R_far (p := ⟨gb512, 0, none⟩) (Kd.R_types HO502.out BK512.out (by decide)) (fun _ hk => hk.2) (.slice Ao7 t497.length co7)) (fun _ hk => hk.2) (.slice Ao9 t500.length co9)) (fun _ hk => hk.2) (.slice Ao10 t503.length co10)) (fun _ hk => hk.2) (.slice Ao11 t506.length co11)) (fun _ hk => hk.2) (.slice Ao12 t509.length co12)) (fun _ hk => ⟨hk.1.1, ⟨hk.1.2.1, ⟨hk.1.2.2.1, hk.1.2.2.2⟩⟩⟩)⟩, ⟨by (with_reducible repeat (first | apply Kd.R_alloc | apply Kd.R_drewN | apply Kd.R_drew)); exact Kd.R_mono (Kd.R_far (p := ⟨gb512, 4, none⟩) (Kd.R_far (p := ⟨gb512, 3, none⟩) (Kd.R_far (p := ⟨gb512, 2, none⟩) (Kd.R_far (p := ⟨gb512, 1, none⟩) (Kd.R_far (p := ⟨gb512, 0, none⟩) (Kd.R_types HO505.out BK512.out (by decide)) (fun _ hk => hk.2) (.slice Ao7 t497.length co7)) (fun _ hk => hk.2) (.slice Ao9 t500.length co9)) (fun _ hk => hk.2) (.slice Ao10 t503.length co10)) (fun _ hk => hk.2) (.slice Ao11 t506.length co11)) (fun _ hk => hk.2) (.slice Ao12 t509.length co12)) (fun _ hk => ⟨hk.1.1, ⟨hk.1.2.1, ⟨hk.1.2.2.1, hk.1.2.2.2⟩⟩⟩)⟩, ⟨by (with_reducible repeat (first | apply Kd.R_alloc | apply Kd.R_drewN | apply Kd.R_drew)); exact Kd.R_mono (Kd.R_far (p := ⟨gb512, 4, none⟩) (Kd.R_far (p := ⟨gb512, 3, none⟩) (Kd.R_far (p := ⟨gb512, 2, none⟩) (Kd.R_far (p := ⟨gb512, 1, none⟩) (Kd.R_far (p := ⟨gb512, 0, none⟩) (Kd.R_types HO508.out BK512.out (by decide)) (fun _ hk => hk.2) (.slice Ao7 t497.length co7)) (fun _ hk => hk.2) (.slice Ao9 t500.length co9)) (fun _ hk => hk.2) (.slice Ao10 t503.length co10)) (fun _ hk => hk.2) (.slice Ao11 t506.length co11)) (fun _ hk => hk.2) (.slice Ao12 t509.length co12)) (fun _ hk => ⟨hk.1.1, ⟨hk.1.2.1, ⟨hk.1.2.2.1, hk.1.2.2.2⟩⟩⟩)⟩, ⟨by (with_reducible repeat (first | apply Kd.R_alloc | apply Kd.R_drewN | apply Kd.R_drew)); exact Kd.R_mono (Kd.R_far (p := ⟨gb512, 4, none⟩) (Kd.R_far (p := ⟨gb512, 3, none⟩) (Kd.R_far (p := ⟨gb512, 2, none⟩) (Kd.R_far (p := ⟨gb512, 1, none⟩) (Kd.R_far (p := ⟨gb512, 0, none⟩) (Kd.R_types HO511.out BK512.out (by decide)) (fun _ hk => hk.2) (.slice Ao7 t497.length co7)) (fun _ hk => hk.2) (.slice Ao9 t500.length co9)) (fun _ hk => hk.2) (.slice Ao10 t503.length co10)) (fun _ hk => hk.2) (.slice Ao11 t506.length co11)) (fun _ hk => hk.2) (.slice Ao12 t509.length co12)) (fun _ hk => ⟨hk.1.1, ⟨hk.1.2.1, ⟨hk.1.2.2.1, hk.1.2.2.2⟩⟩⟩)⟩, ⟨by (with_reducible repeat (first | refine bn_ ?_ _ | refine bd_ ?_ | refine ba_ ?_ _)); refine blk_put (cs := #[.slice Ao7 t497.length co7, .slice Ao9 t500.length co9, .slice Ao10 t503.length co10, .slice Ao11 t506.length co11, .slice none 0 0]) ?_ 4 _ rfl; (with_reducible repeat (first | refine bn_ ?_ _ | refine bd_ ?_ | refine ba_ ?_ _)); refine blk_put (cs := #[.slice Ao7 t497.length co7, .slice Ao9 t500.length co9, .slice Ao10 t503.length co10, .slice none 0 0, .slice none 0 0]) ?_ 3 _ rfl; (with_reducible repeat (first | refine bn_ ?_ _ | refine bd_ ?_ | refine ba_ ?_ _)); refine blk_put (cs := #[.slice Ao7 t497.length co7, .slice Ao9 t500.length co9, .slice none 0 0, .slice none 0 0, .slice none 0 0]) ?_ 2 _ rfl; (with_reducible repeat (first | refine bn_ ?_ _ | refine bd_ ?_ | refine ba_ ?_ _)); refine blk_put (cs := #[.slice Ao7 t497.length co7, .slice none 0 0, .slice none 0 0, .slice none 0 0, .slice none 0 0]) ?_ 1 _ rfl; (with_reducible repeat (first | refine bn_ ?_ _ | refine bd_ ?_ | refine ba_ ?_ _)); refine blk_put (cs := #[.slice none 0 0, .slice none 0 0, .slice none 0 0, .slice none 0 0, .slice none 0 0]) ?_ 0 _ rfl; (with_reducible repeat (first | refine bn_ ?_ _ | refine bd_ ?_ | refine ba_ ?_ _)); exact BK512.out⟩, ⟨by repeat (first | (with_reducible first | exact HB.out | apply pA | apply pN | apply pD | refine pS ?_ GE512.out) | exact HB.out)⟩⟩
 case round =>
  clear H'
  try clear p2
  try clear c6
  try clear c7
  try clear hcz8_0
  try clear hcz8_1
  try clear hcz8_2
  try clear hcz8_3
  try clear hcz8_4
  try clear hfz8_0
  try clear hfz8_1
  try clear hfz8_2
  try clear hfz8_3
  try clear hfz8_4
  obtain ⟨x3_1, x5_1, rfl, HA, HK1, HO_3, HO_513000, HO_513001, HO_513002, HO_513003, HO_513004, BK512, HB⟩ := hrel
  cases gk with
  | zero => exact absurd HA.out (by simp [impl_factors.l0])
  | succ k1 =>
   have H := HA.out
   clear HA
   simp only [impl_factors.l0] at H
   by_cases c13 : x5_1 < (a0.size : Int)
   rotate_left
   ·rw [if_neg c13] at H
    have c13b0 : decide (x5_1 < (a0.size : Int)) = false := decide_eq_false c13
    clear c13
    obtain rfl := Option.some.inj H
    go_wp2
    go_ret
    exact ⟨_, by first | rfl | (simp [errW_none, errW_some] <;> rfl) | (simp [*, errW_none, errW_some] <;> rfl), by (with_reducible repeat (first | apply Kd.R_alloc | apply Kd.R_drewN | apply Kd.R_drew)); exact HO_3.out, by repeat (first | (with_reducible first | exact HB.out | apply pA | apply pN | apply pD | refine pS ?_ GE512.out) | exact HB.out)⟩
   rw [if_pos c13] at H
   have c13b0 : decide (x5_1 < (a0.size : Int)) = true := decide_eq_true c13
   clear c13
   by_cases c14 : 0 ≤ x5_1
   rotate_left
   ·rw [if_neg c14] at H
    exact absurd H (by simp)
   rw [if_pos c14] at H
   have c14b0 : decide (0 ≤ x5_1) = true := decide_eq_true c14
   clear c14
   by_cases c15 : x5_1 < (t497.length : Int)
   rotate_left
   ·rw [if_neg c15] at H
    exact absurd H (by simp)
   rw [if_pos c15] at H
   have c15b0 : decide (x5_1 < (t497.length : Int)) = true := decide_eq_true c15
   clear c15
   obtain ⟨ji16, hji16⟩ : ∃ j_ : Int, (mx x5_1 (rd t497 x5_1)) = j_ := ⟨_, rfl⟩
   replace H : (if x5_1 ≤ (wrap64 ((ji16) + 1)) then (if (wrap64 ((ji16) + 1)) ≤ (a0.size : Int) then (if x3_1.length < 8796093022208 then (impl_factors.l0 k1 a0 (x3_1 ++ [a0.extract (x5_1 : Int).toNat ((wrap64 ((ji16) + 1)) : Int).toNat]) (wrap64 ((ji16) + 1)) t497 t500 t503 t506 t509) else (none)) else (none)) else (none)) = some r := by first | (rw [hji16] at H; exact H) | (simp only [hji16] at H ⊢; exact H)
   have hji16_ : (if x5_1 < (rd t497 x5_1) then (rd t497 x5_1) else x5_1) = ji16 := hji16
   have c17b0 := eq_true (oT (by first | (with_reducible assumption) | assumption) : 0 ≤ x5_1)
   by_cases c18 : x5_1 ≤ (wrap64 ((ji16) + 1))
   rotate_left
   ·rw [if_neg c18] at H
    exact absurd H (by simp)
   rw [if_pos c18] at H
   have c18b0 := eq_true c18
   have c18b1 : decide (x5_1 ≤ (wrap64 ((ji16) + 1))) = true := decide_eq_true c18
   by_cases c19 : (wrap64 ((ji16) + 1)) ≤ (a0.size : Int)
   rotate_left
   ·rw [if_neg c19] at H
    exact absurd H (by simp)
   rw [if_pos c19] at H
   have c19b0 := eq_true c19
   have c19b1 : decide ((wrap64 ((ji16) + 1)) ≤ (a0.size : Int)) = true := decide_eq_true c19
   by_cases c20 : x3_1.length < 8796093022208
   rotate_left
   ·rw [if_neg c20] at H
    exact absurd H (by simp)
   rw [if_pos c20] at H
   have LMc20 := AZ.mk c20
   clear c20
   obtain ⟨y514, hy514⟩ : ∃ y_ : List ByteArray, y_ = (x3_1 ++ [a0.extract (x5_1 : Int).toNat ((wrap64 ((ji16) + 1)) : Int).toNat]) := ⟨_, rfl⟩
   replace H : (impl_factors.l0 k1 a0 y514 (wrap64 ((ji16) + 1)) t497 t500 t503 t506 t509) = some r := by first | (rw [hy514]; with_reducible exact H) | (have H2_ := (Option.bind_some _ _).symm.trans H; rw [hy514]; with_reducible exact H2_) | (have H2_ := (Option.bind_some _ _).symm.trans H; with_reducible exact H2_) | with_reducible exact H | (rw [hy514]; exact H) | exact H
   have Ny514 := AZ.mk hy514
   clear hy514
   have H' := AZ.mk H
   clear H
   have hcz21_0 : wr.cell? ⟨gb512, 0, none⟩ = some (.slice Ao7 t497.length co7) := (bc BK512.out 0).trans rfl
   have hcz21_1 : wr.cell? ⟨gb512, 1, none⟩ = some (.slice Ao9 t500.length co9) := (bc BK512.out 1).trans rfl
   have hcz21_2 : wr.cell? ⟨gb512, 2, none⟩ = some (.slice Ao10 t503.length co10) := (bc BK512.out 2).trans rfl
   have hcz21_3 : wr.cell? ⟨gb512, 3, none⟩ = some (.slice Ao11 t506.length co11) := (bc BK512.out 3).trans rfl
   have hcz21_4 : wr.cell? ⟨gb512, 4, none⟩ = some (.slice Ao12 t509.length co12) := (bc BK512.out 4).trans rfl
   have hfz21_0 := bf BK512.out 0
   have hfz21_1 := bf BK512.out 1
   have hfz21_2 := bf BK512.out 2
   have hfz21_3 := bf BK512.out 3
   have hfz21_4 := bf BK512.out 4
   have p513 : 0 ≤ (x5_1 : Int) := oT (by first | (with_reducible assumption) | assumption)
   have q513 : x5_1 < (t497.length : Int) := oT (by first | (with_reducible assumption) | assumption)
   obtain ⟨ad513, e513, hx513_0⟩ := Kd.at_int (Kd.R_reads' HO_513000.out).2.2 x5_1 p513 q513
   cases e513
   replace p513 := eq_true p513
   replace q513 := eq_true q513
   go_wp2_with (first | ((with_reducible refine gate_builtin (b := .append) (xs := #[.tmp 21, .tmp 27]) rfl ?_); at_builtin; refine Kd.R_append Kd.string (w0 := w) w.heap.size rfl (.tmp 21) (.tmp 27) 86 9 (.string ⟨#[]⟩) 16 rfl Try.underlying86 info9 rfl (by decide) (by omega) u3 x3_1 (a0.extract (x5_1 : Int).toNat ((wrap64 ((ji16) + 1)) : Int).toNat) [.string (a0.extract (x5_1 : Int).toNat ((wrap64 ((ji16) + 1)) : Int).toNat)] (fun _ => True) (fun _ => False) rfl rfl ?aP (fun _ hk => hk.elim) ?aF ?aO ?aB ?aS ?aL ?_; (case aP => exact rfl); (case aB => exact (by repeat (first | (with_reducible first | exact HB.out | apply pA | apply pN | apply pD | refine pS ?_ GE512.out) | exact HB.out))); (case aF => exact (fun _ _ => trivial)); (case aO => exact (by (with_reducible repeat (first | apply Kd.R_alloc | apply Kd.R_drewN | apply Kd.R_drew)); exact HO_3.out)); (case aS => exact (pZ (by repeat (first | (with_reducible first | exact HB.out | apply pA | apply pN | apply pD | refine pS ?_ GE512.out) | exact HB.out)))); (case aL => have := LMc20.out; omega); intro v515 w22 ho hb hg hat; rw [← Ny514.out] at ho; have n0_ := AZ.mk (Kd.R_over' (by (with_reducible repeat (first | apply Kd.R_alloc | apply Kd.R_drewN | apply Kd.R_drew)); exact HO_513000.out) (Kd.R_typed (by (with_reducible repeat (first | apply Kd.R_alloc | apply Kd.R_drewN | apply Kd.R_drew)); exact HO_3.out)) (by decide) hg); have n1_ := AZ.mk (Kd.R_over' (by (with_reducible repeat (first | apply Kd.R_alloc | apply Kd.R_drewN | apply Kd.R_drew)); exact HO_513001.out) (Kd.R_typed (by (with_reducible repeat (first | apply Kd.R_alloc | apply Kd.R_drewN | apply Kd.R_drew)); exact HO_3.out)) (by decide) hg); have n2_ := AZ.mk (Kd.R_over' (by (with_reducible repeat (first | apply Kd.R_alloc | apply Kd.R_drewN | apply Kd.R_drew)); exact HO_513002.out) (Kd.R_typed (by (with_reducible repeat (first | apply Kd.R_alloc | apply Kd.R_drewN | apply Kd.R_drew)); exact HO_3.out)) (by decide) hg); have n3_ := AZ.mk (Kd.R_over' (by (with_reducible repeat (first | apply Kd.R_alloc | apply Kd.R_drewN | apply Kd.R_drew)); exact HO_513003.out) (Kd.R_typed (by (with_reducible repeat (first | apply Kd.R_alloc | apply Kd.R_drewN | apply Kd.R_drew)); exact HO_3.out)) (by decide) hg); have n4_ := AZ.mk (Kd.R_over' (by (with_reducible repeat (first | apply Kd.R_alloc | apply Kd.R_drewN | apply Kd.R_drew)); exact HO_513004.out) (Kd.R_typed (by (with_reducible repeat (first | apply Kd.R_alloc | apply Kd.R_drewN | apply Kd.R_drew)); exact HO_3.out)) (by decide) hg); have n5_ := AZ.mk (blk_grown (g := gb512) (o := .cells #[.slice (some ad513) t497.length co7, .slice Ao9 t500.length co9, .slice Ao10 t503.length co10, .slice Ao11 t506.length co11, .slice Ao12 t509.length co12] 91 (0, 0)) (by (with_reducible repeat (first | refine bn_ ?_ _ | refine bd_ ?_ | refine ba_ ?_ _)); exact BK512.out) hg (Kd.R_ne HO_3.out BK512.out (by decide))); have n6_ := AZ.mk (hb); have n7_ := AZ.mk (ho); clear HO_513000; clear HO_513001; clear HO_513002; clear HO_513003; clear HO_513004; clear BK512; clear HB; clear HO_3; have HO_513000 := n0_; have HO_513001 := n1_; have HO_513002 := n2_; have HO_513003 := n3_; have HO_513004 := n4_; have BK512 := n5_; have HB := n6_; have HO516 := n7_; clear n0_ n1_ n2_ n3_ n4_ n5_ n6_ n7_; clear ho hb hg hat))
   go_roundg k1
   case measure => have := HK1.out; omega
   case rel => exact ⟨(y514), (wrap64 ((ji16) + 1)), (by first | rfl | (simp; done) | (simp only [← hji16] <;> (first | rfl | simp)) | (simp [*]; done)), H', ⟨by have := HK1.out; omega⟩, ⟨by (with_reducible repeat (first | apply Kd.R_alloc | apply Kd.R_drewN | apply Kd.R_drew)); exact HO516.out⟩, ⟨by (with_reducible repeat (first | apply Kd.R_alloc | apply Kd.R_drewN | apply Kd.R_drew)); exact HO_513000.out⟩, ⟨by (with_reducible repeat (first | apply Kd.R_alloc | apply Kd.R_drewN | apply Kd.R_drew)); exact HO_513001.out⟩, ⟨by (with_reducible repeat (first | apply Kd.R_alloc | apply Kd.R_drewN | apply Kd.R_drew)); exact HO_513002.out⟩, ⟨by (with_reducible repeat (first | apply Kd.R_alloc | apply Kd.R_drewN | apply Kd.R_drew)); exact HO_513003.out⟩, ⟨by (with_reducible repeat (first | apply Kd.R_alloc | apply Kd.R_drewN | apply Kd.R_drew)); exact HO_513004.out⟩, ⟨by (with_reducible repeat (first | refine bn_ ?_ _ | refine bd_ ?_ | refine ba_ ?_ _)); exact BK512.out⟩, ⟨by repeat (first | (with_reducible first | exact HB.out | apply pA | apply pN | apply pD | refine pS ?_ GE512.out) | exact HB.out)⟩⟩
end Go.Proofs.Ytgfilbgjnloopaa.P
namespace Go.Proofs.Ytgfilbgjnloopaa.P
open Go.RowKit Go.Proofs.YtgfilbgjnloopaaW.PrintWords Go.Proofs.YtgfilbgjnloopaaW.PrintLast Go.Proofs.YtgfilbgjnloopaaW.PrintMore
attribute [local go_sem] max2_int min2_int max_two min_two max_three min_three max_four min_four
set_option linter.unusedVariables false
set_option linter.unusedSimpArgs false
set_option maxHeartbeats 1000000 in
set_option maxRecDepth 100000 in
theorem stringslite_IndexByte.any (s : ByteArray) (c : Int) (w : World) :
  Calls Try.prog 77 #[.string s, .int .u8 c] w fun e w' => e = .returned (.int .i64 (Lib.indexByte s.data.toList c.toNat.toUInt8)) ∧ w' = w := by
 go_enter Try.func77, Try.ntmps77
 go_wp2
 rw [run_callFunc_extern Try.func83 (by kernel_rfl) (by kernel_rfl) (by kernel_rfl) (e := Extern.BytealgIndexByte.indexByte) (by kernel_rfl), Lib.run_indexByteString]
 simp only [Result.andThen]
 rw [Oper.upon_value]
 go_wp2
 go_ret
 exact ⟨rfl, rfl⟩
def strings_IndexByte.f (a0 : ByteArray) (a1 : Int) : Option (Int) := some (Lib.indexByte a0.data.toList a1.toNat.toUInt8)
theorem strings_IndexByte.calls (a0 : ByteArray) (a1 : Int) (r : Int) (w : World) (h : strings_IndexByte.f a0 a1 = some r) :
  Calls Try.prog 66 #[.string a0, .int .u8 a1] w fun e w' => e = .returned (.int .i64 r) ∧ Drawn0 w w' := by
 obtain rfl := Option.some.inj h
 clear h
 go_enter Try.func66, Try.ntmps66
 go_wp2_with (go_at_call 77; refine (stringslite_IndexByte.any _ _ _).mono ?_; rintro e w' ⟨rfl, rfl⟩)
 go_ret
 exact ⟨rfl, by repeat (first | exact Drawn0.refl _ | apply Drawn0.step)⟩
end Go.Proofs.Ytgfilbgjnloopaa.P
namespace Go.Proofs.Ytgfilbgjnloopaa.P
open Go.RowKit Go.Proofs.YtgfilbgjnloopaaW.PrintWords Go.Proofs.YtgfilbgjnloopaaW.PrintLast Go.Proofs.YtgfilbgjnloopaaW.PrintMore
attribute [local go_sem] max2_int min2_int max_two min_two max_three min_three max_four min_four
set_option linter.unusedVariables false
set_option linter.unusedSimpArgs false
def impl_kindOf.f (a0 : Int) : Option (Int) := (strings_IndexByte.f (⟨#[40, 91, 41, 93, 97, 98]⟩ : ByteArray) a0).bind fun t517 => (some (Int.tmod t517 2))
set_option maxHeartbeats 8000000 in
set_option maxRecDepth 100000 in
theorem impl_kindOf.calls (a0 : Int) (r : Int) (w : World) (h : impl_kindOf.f a0 = some r) :
  Calls Try.prog 80 #[.int .u8 a0] w fun e w' => e = .returned (.int .i64 r) ∧ Drawn0 w w' := by
 have H : ((strings_IndexByte.f (⟨#[40, 91, 41, 93, 97, 98]⟩ : ByteArray) a0).bind fun t517 => (some (Int.tmod t517 2))) = some r := h
 clear h
 replace H := Option.bind_eq_some_iff.mp H
 obtain ⟨t517, A20, H⟩ := H
 replace H : (some (Int.tmod t517 2)) = some r := H
 have A2 := AZ.mk A20
 clear A20
 obtain rfl := Option.some.inj H
 go_enter Try.func80, Try.ntmps80
 go_wp2_with (first | ((with_reducible refine gate_callee (f := 66) rfl ?_); refine goesL_ (some 4) rfl rfl Try.func66 (by kernel_rfl) rfl #[.string (⟨#[40, 91, 41, 93, 97, 98]⟩ : ByteArray), .int .u8 a0] rfl (by (try simp only [List.map_toArray, List.map_cons, List.map_nil]); first | done | rfl | (simp only [List.length_drop, List.length_take]; rfl)) ?_; (with_reducible refine (strings_IndexByte.calls (⟨#[40, 91, 41, 93, 97, 98]⟩ : ByteArray) a0 t517 _ A2.out).mono ?_); rintro e w' ⟨rfl, ⟨nd, rfl⟩⟩; refine ⟨_, rfl, ?_⟩))
 go_ret
 exact ⟨by first | rfl | (simp; done) | (simp [*]; done), by repeat (first | exact Drawn0.refl _ | apply Drawn0.step)⟩
end Go.Proofs.Ytgfilbgjnloopaa.P
namespace Go.Proofs.Ytgfilbgjnloopaa.P
open Go.RowKit Go.Proofs.YtgfilbgjnloopaaW.PrintWords Go.Proofs.YtgfilbgjnloopaaW.PrintLast Go.Proofs.YtgfilbgjnloopaaW.PrintMore
attribute [local go_sem] max2_int min2_int max_two min_two max_three min_three max_four min_four
set_option linter.unusedVariables false
set_option linter.unusedSimpArgs false
def impl_bracketsOf.f (a0 : Int) (a1 : Int) : Option (Int) := (impl_kindOf.f a0).bind fun t518 => ((impl_kindOf.f a1).bind fun t519 => (some (wrap64 ((wrap64 (2 * t518)) + t519))))
set_option maxHeartbeats 8000000 in
set_option maxRecDepth 100000 in
theorem impl_bracketsOf.calls (a0 : Int) (a1 : Int) (r : Int) (w : World) (h : impl_bracketsOf.f a0 a1 = some r) :
  Calls Try.prog 81 #[.int .u8 a0, .int .u8 a1] w fun e w' => e = .returned (.int .i64 r) ∧ Drawn0 w w' := by
 have H : ((impl_kindOf.f a0).bind fun t518 => ((impl_kindOf.f a1).bind fun t519 => (some (wrap64 ((wrap64 (2 * t518)) + t519))))) = some r := h
 clear h
 replace H := Option.bind_eq_some_iff.mp H
 obtain ⟨t518, A30, H⟩ := H
 replace H : ((impl_kindOf.f a1).bind fun t519 => (some (wrap64 ((wrap64 (2 * t518)) + t519)))) = some r := H
 have A3 := AZ.mk A30
 clear A30
 replace H := Option.bind_eq_some_iff.mp H
 obtain ⟨t519, A40, H⟩ := H
 replace H : (some (wrap64 ((wrap64 (2 * t518)) + t519))) = some r := H
 have A4 := AZ.mk A40
 clear A40
 obtain rfl := Option.some.inj H
 go_enter Try.func81, Try.ntmps81
 go_wp2_with (first | ((with_reducible refine gate_callee (f := 80) rfl ?_); refine goesL_ (some 6) rfl rfl Try.func80 (by kernel_rfl) rfl #[.int .u8 a0] rfl (by (try simp only [List.map_toArray, List.map_cons, List.map_nil]); first | done | rfl | (simp only [List.length_drop, List.length_take]; rfl)) ?_; (with_reducible refine (impl_kindOf.calls a0 t518 _ A3.out).mono ?_); rintro e w' ⟨rfl, ⟨nd, rfl⟩⟩; refine ⟨_, rfl, ?_⟩) | ((with_reducible refine gate_callee (f := 80) rfl ?_); refine goesL_ (some 9) rfl rfl Try.func80 (by kernel_rfl) rfl #[.int .u8 a1] rfl (by (try simp only [List.map_toArray, List.map_cons, List.map_nil]); first | done | rfl | (simp only [List.length_drop, List.length_take]; rfl)) ?_; (with_reducible refine (impl_kindOf.calls a1 t519 _ A4.out).mono ?_); rintro e w' ⟨rfl, ⟨nd, rfl⟩⟩; refine ⟨_, rfl, ?_⟩))
 go_ret
 exact ⟨by first | rfl | (simp; done) | (simp [*]; done), by repeat (first | exact Drawn0.refl _ | apply Drawn0.step)⟩
end Go.Proofs.Ytgfilbgjnloopaa.P
