/- Machine side of the laws of this seat: for each Go function that they reach, a Lean function and the proof that a call comes to just its answer. Written by a program of this session. -/
import Derived.Test.YtolmmfcofbhagaaPp0
import Derived.Test.YtolmmfcofbhagaaPp41
import Derived.Test.YtolmmfcofbhagaaPp43
import Derived.Test.YtolmmfcofbhagaaPp45
import Derived.Test.YtolmmfcofbhagaaPp122
namespace Go.Proofs.Ytolmmfcofbhagaa.PC
open Go.RowKit Go.Proofs.YtolmmfcofbhagaaW.PrintWords Go.Proofs.YtolmmfcofbhagaaW.PrintLast Go.Proofs.YtolmmfcofbhagaaW.PrintMore
attribute [local go_sem] max2_int min2_int max_two min_two max_three min_three max_four min_four
set_option linter.unusedVariables false
set_option linter.unusedSimpArgs false
def impl_CompleteWord.l0 : Nat → ByteArray → List Int → Int → List Int → List Int → List Int → List Int → List Int → Option (ByteArray × Int)
 | 0, _, _, _, _, _, _, _, _ => none
 | k + 1, x0, x5, x6, x359000, x359001, x359002, x359003, x359004 => if x6 ≥ 0 then (if 0 ≤ x6 then (if x6 < (x359002.length : Int) then (if 0 ≤ (rd x359002 x6) then (if (rd x359002 x6) < (x0.size : Int) then ((impl_returnFor.f (bt x0 (rd x359002 x6))).bind fun t360 => (if x5.length < 140737488355328 then (impl_CompleteWord.l0 k x0 (x5 ++ [t360]) (wrap64 (x6 - 1)) x359000 x359001 x359002 x359003 x359004) else (none))) else (none)) else (none)) else (none)) else (none)) else ((strings_Repeat.f (⟨#[40]⟩ : ByteArray) (x359001.length : Int)).bind fun t364 => (if t364.size + x0.size ≤ 9223372036854775807 then (if (t364 ++ x0).size + (strOfNums x5).size ≤ 9223372036854775807 then ((impl_orLimit.f k ((t364 ++ x0) ++ (strOfNums x5))).bind fun bt365 => (some (bt365.1, bt365.2))) else (none)) else (none)))
def impl_CompleteWord.f (k : Nat) (a0 : ByteArray) : Option (ByteArray × Int) := (impl_ValidWord.f k a0).bind fun t339 => (if t339 = true then ((impl_match.f k a0).bind fun bt340 => (impl_CompleteWord.l0 k a0 (([] : List Int)) (wrap64 ((bt340.2.2.1.length : Int) - 1)) bt340.1 bt340.2.1 bt340.2.2.1 bt340.2.2.2.1 bt340.2.2.2.2)) else (some ((⟨#[]⟩ : ByteArray), 1)))
theorem impl_CompleteWord.mono_l : ∀ k, (∀ y0 y1 y2 y3 y4 y5 y6 y7, LeO (impl_CompleteWord.l0 k y0 y1 y2 y3 y4 y5 y6 y7) (impl_CompleteWord.l0 (k + 1) y0 y1 y2 y3 y4 y5 y6 y7))
 | 0 => fun _ _ _ _ _ _ _ _ r h => by simp [impl_CompleteWord.l0] at h
 | k + 1 => by
  have ih0 := impl_CompleteWord.mono_l k
  ·intro y0 y1 y2 y3 y4 y5 y6 y7
   unfold impl_CompleteWord.l0
   repeat' first
   | (with_reducible exact ih0 _ _ _ _ _ _ _ _)
   | (with_reducible exact impl_ValidWord.mono _ _)
   | (with_reducible exact impl_match.mono _ _)
   | (with_reducible exact impl_orLimit.mono _ _)
   | (with_reducible exact LeO.refl _)
   | (with_reducible exact LeO.none _)
   | (with_reducible refine LeO.ite ?_ ?_)
   | (with_reducible refine LeO.bind ?_ (fun _ => ?_))
   | exact ih0 _ _ _ _ _ _ _ _
   | exact impl_ValidWord.mono _ _
   | exact impl_match.mono _ _
   | exact impl_orLimit.mono _ _
   | exact LeO.none _
   | refine LeO.ite ?_ ?_
   | refine LeO.bind ?_ (fun _ => ?_)
theorem impl_CompleteWord.mono : ∀ a0 k, LeO (impl_CompleteWord.f k a0) (impl_CompleteWord.f (k + 1) a0) := by
 intro a0 k
 have ih0 := impl_CompleteWord.mono_l k
 unfold impl_CompleteWord.f
 repeat' first
   | (with_reducible exact ih0 _ _ _ _ _ _ _ _)
   | (with_reducible exact impl_ValidWord.mono _ _)
   | (with_reducible exact impl_match.mono _ _)
   | (with_reducible exact impl_orLimit.mono _ _)
   | (with_reducible exact LeO.refl _)
   | (with_reducible exact LeO.none _)
   | (with_reducible refine LeO.ite ?_ ?_)
   | (with_reducible refine LeO.bind ?_ (fun _ => ?_))
   | exact ih0 _ _ _ _ _ _ _ _
   | exact impl_ValidWord.mono _ _
   | exact impl_match.mono _ _
   | exact impl_orLimit.mono _ _
   | exact LeO.none _
   | refine LeO.ite ?_ ?_
   | refine LeO.bind ?_ (fun _ => ?_)
def impl_CompleteWord.T8 : Bool × List (List Nat × List Nat) := (true, [([], []), ([0], [0]), ([1], [1]), ([2], [2]), ([], []), ([3, 4], [3, 4]), ([], []), ([6], [6]), ([5, 7], [5, 7]), ([8, 3], [8]), ([9], [9]), ([9], [9]), ([10, 9, 0, 1, 2, 3, 4, 5, 6, 7, 8, 9, 10, 11], [10]), ([11, 12, 0, 1, 2, 3, 4, 5, 6, 7, 8, 9, 10, 11, 12], [11])])
def impl_CompleteWord.B8 : List Nat := [0, 1, 3, 7, 0, 31, 0, 64, 255, 511, 1023, 1023, 4095, 8191]
theorem impl_CompleteWord.tab8 : rtab .any (opsOf Try.f16 8) = impl_CompleteWord.T8 := by kernel_rfl
theorem impl_CompleteWord.bits8 : waitsOk impl_CompleteWord.T8.2 impl_CompleteWord.B8 = true := by kernel_rfl
set_option maxHeartbeats 8000000 in
set_option maxRecDepth 100000 in
theorem impl_CompleteWord.calls (k : Nat) (a0 : ByteArray) (r1 : ByteArray) (r2 : Int) (w : World) (h : impl_CompleteWord.f k a0 = some (r1, r2)) :
  Calls Try.prog 16 #[.string a0] w fun e w' => e = .returned (.tuple #[.string r1, .int .i64 r2]) ∧ Below w.heap.size w w' := by
 have hu85 := Try.underlying85
 have HB := Aside0.mk (Below.refl w.heap.size w)
 have H : ((impl_ValidWord.f k a0).bind fun t339 => (if t339 = true then ((impl_match.f k a0).bind fun bt340 => (impl_CompleteWord.l0 k a0 (([] : List Int)) (wrap64 ((bt340.2.2.1.length : Int) - 1)) bt340.1 bt340.2.1 bt340.2.2.1 bt340.2.2.2.1 bt340.2.2.2.2)) else (some ((⟨#[]⟩ : ByteArray), 1)))) = some (r1, r2) := h
 clear h
 replace H := Option.bind_eq_some_iff.mp H
 obtain ⟨t339, A20, H⟩ := H
 replace H : (if t339 = true then ((impl_match.f k a0).bind fun bt340 => (impl_CompleteWord.l0 k a0 (([] : List Int)) (wrap64 ((bt340.2.2.1.length : Int) - 1)) bt340.1 bt340.2.1 bt340.2.2.1 bt340.2.2.2.1 bt340.2.2.2.2)) else (some ((⟨#[]⟩ : ByteArray), 1))) = some (r1, r2) := H
 have A2 := Aside0.mk A20
 clear A20
 by_cases c3 : t339 = true
 ·subst c3
  have H1 : ((impl_match.f k a0).bind fun bt340 => (impl_CompleteWord.l0 k a0 (([] : List Int)) (wrap64 ((bt340.2.2.1.length : Int) - 1)) bt340.1 bt340.2.1 bt340.2.2.1 bt340.2.2.2.1 bt340.2.2.2.2)) = some (r1, r2) := by rw [if_pos rfl] at H; exact H
  clear H
  have H := H1
  clear H1
  replace H := Option.bind_eq_some_iff.mp H
  obtain ⟨⟨t340, t343, t346, t349, t352⟩, A40, H⟩ := H
  replace H : (impl_CompleteWord.l0 k a0 (([] : List Int)) (wrap64 ((t346.length : Int) - 1)) t340 t343 t346 t349 t352) = some (r1, r2) := H
  have A4 := Aside0.mk A40
  clear A40
  obtain ⟨y355, hy355⟩ : ∃ y_ : List Int, y_ = (([] : List Int)) := ⟨_, rfl⟩
  replace H : (impl_CompleteWord.l0 k a0 y355 (wrap64 ((t346.length : Int) - 1)) t340 t343 t346 t349 t352) = some (r1, r2) := by first | (rw [hy355]; with_reducible exact H) | (have H2_ := (Option.bind_some _ _).symm.trans H; rw [hy355]; with_reducible exact H2_) | (have H2_ := (Option.bind_some _ _).symm.trans H; with_reducible exact H2_) | with_reducible exact H | (rw [hy355]; exact H) | exact H
  have Ny355 := Aside0.mk hy355
  clear hy355
  have H' := Aside0.mk H
  clear H
  go_enter Try.func16, Try.ntmps16
  go_wp2_with (first | ((with_reducible refine gate_callee (f := 41) rfl ?_); refine goesL_ (some 8) rfl rfl Try.func41 (by kernel_rfl) rfl #[.string a0] rfl (by (try simp only [List.map_toArray, List.map_cons, List.map_nil]); first | done | rfl | (simp only [List.length_drop, List.length_take]; rfl)) ?_; (with_reducible refine (impl_ValidWord.calls k a0 true _ A2.out).mono ?_); rintro e w' ⟨rfl, ⟨nd, rfl⟩⟩; refine ⟨_, rfl, ?_⟩) | ((with_reducible refine gate_callee (f := 45) rfl ?_); refine goesL_ (some 11) rfl rfl Try.func45 (by kernel_rfl) rfl #[.string a0] rfl (by (try simp only [List.map_toArray, List.map_cons, List.map_nil]); first | done | rfl | (simp only [List.length_drop, List.length_take]; rfl)) ?_; (with_reducible refine (impl_match.calls k a0 t340 t343 t346 t349 t352 _ A4.out).mono ?_); rintro e w5 ⟨v341, v344, v347, v350, v353, rfl, ho0, ho1, ho2, ho3, ho4, hb⟩; refine ⟨_, rfl, ?_⟩; have n0_ := Aside0.mk (Kd.R_lower ho0 (below_size (by repeat (first | (with_reducible first | exact HB.out | apply below_alloc | apply pw_below_drewN | apply below_drew1) | exact HB.out)))); have n1_ := Aside0.mk (Kd.R_lower ho1 (below_size (by repeat (first | (with_reducible first | exact HB.out | apply below_alloc | apply pw_below_drewN | apply below_drew1) | exact HB.out)))); have n2_ := Aside0.mk (Kd.R_lower ho2 (below_size (by repeat (first | (with_reducible first | exact HB.out | apply below_alloc | apply pw_below_drewN | apply below_drew1) | exact HB.out)))); have n3_ := Aside0.mk (Kd.R_lower ho3 (below_size (by repeat (first | (with_reducible first | exact HB.out | apply below_alloc | apply pw_below_drewN | apply below_drew1) | exact HB.out)))); have n4_ := Aside0.mk (Kd.R_lower ho4 (below_size (by repeat (first | (with_reducible first | exact HB.out | apply below_alloc | apply pw_below_drewN | apply below_drew1) | exact HB.out)))); have n5_ := Aside0.mk (below_step (by repeat (first | (with_reducible first | exact HB.out | apply below_alloc | apply pw_below_drewN | apply below_drew1) | exact HB.out)) hb); clear HB; have HO342 := n0_; have HO345 := n1_; have HO348 := n2_; have HO351 := n3_; have HO354 := n4_; have HB := n5_; clear n0_ n1_ n2_ n3_ n4_ n5_; (try clear hb); (try clear hb2); (try clear hk); (try clear hi); (try clear ho0); (try clear ho1); (try clear ho2); (try clear ho3); (try clear ho4)) | ((with_reducible refine gate_dst (N := 12) rfl ?_); refine Kd.R_lit (Kd.int .u8) _ 5 ?hg (N := 12) ?hd (xs := ([] : List Int)) (inner := []) (ok := fun _ => True) (okp := fun _ => True) ?hr ?hp (fun _ hk => hk) trivial (Below.refl _ _) (Nat.le_refl _) (by simp) ?_; (case hd => rfl); (case hg => rfl); (case hr => first | (go_simp; done) | (go_simp; rfl)); (case hp => exact (Reps.none _ _)); intro v356 w6 ho7 hb hg_ hnew_; clear hg_ hnew_; (first | rw [← Ny355.out] at ho7 | (simp only [Int.reduceToNat] at ho7; rw [← Ny355.out] at ho7)); have n0_ := Aside0.mk (Kd.R_below (by (with_reducible repeat (first | apply Kd.R_alloc | apply Kd.R_drewN | apply Kd.R_drew)); exact HO342.out) hb); have n1_ := Aside0.mk (Kd.R_below (by (with_reducible repeat (first | apply Kd.R_alloc | apply Kd.R_drewN | apply Kd.R_drew)); exact HO345.out) hb); have n2_ := Aside0.mk (Kd.R_below (by (with_reducible repeat (first | apply Kd.R_alloc | apply Kd.R_drewN | apply Kd.R_drew)); exact HO348.out) hb); have n3_ := Aside0.mk (Kd.R_below (by (with_reducible repeat (first | apply Kd.R_alloc | apply Kd.R_drewN | apply Kd.R_drew)); exact HO351.out) hb); have n4_ := Aside0.mk (Kd.R_below (by (with_reducible repeat (first | apply Kd.R_alloc | apply Kd.R_drewN | apply Kd.R_drew)); exact HO354.out) hb); have n5_ := Aside0.mk (Kd.R_lower ho7 (below_size (by repeat (first | (with_reducible first | exact HB.out | apply below_alloc | apply pw_below_drewN | apply below_drew1) | exact HB.out)))); have n6_ := Aside0.mk (below_step (by repeat (first | (with_reducible first | exact HB.out | apply below_alloc | apply pw_below_drewN | apply below_drew1) | exact HB.out)) hb); clear HO342; clear HO345; clear HO348; clear HO351; clear HO354; clear HB; have HO342 := n0_; have HO345 := n1_; have HO348 := n2_; have HO351 := n3_; have HO354 := n4_; have HO357 := n5_; have HB := n6_; clear n0_ n1_ n2_ n3_ n4_ n5_ n6_; clear hb ho7) | ((with_reducible refine gate_dst (N := 4) rfl ?_); refine box_event ?hg (N := 4) ?hd (cs := #[.slice none 0 0, .slice none 0 0, .slice none 0 0, .slice none 0 0, .slice none 0 0]) (t := 85) ?hr ?_; (case hd => rfl); (case hg => rfl); (case hr => first | (go_simp; done) | (go_simp; rfl)); intro gb358 hg w8 hbox hb; have n0_ := Aside0.mk (Kd.R_below (by (with_reducible repeat (first | apply Kd.R_alloc | apply Kd.R_drewN | apply Kd.R_drew)); exact HO342.out) hb); have n1_ := Aside0.mk (Kd.R_below (by (with_reducible repeat (first | apply Kd.R_alloc | apply Kd.R_drewN | apply Kd.R_drew)); exact HO345.out) hb); have n2_ := Aside0.mk (Kd.R_below (by (with_reducible repeat (first | apply Kd.R_alloc | apply Kd.R_drewN | apply Kd.R_drew)); exact HO348.out) hb); have n3_ := Aside0.mk (Kd.R_below (by (with_reducible repeat (first | apply Kd.R_alloc | apply Kd.R_drewN | apply Kd.R_drew)); exact HO351.out) hb); have n4_ := Aside0.mk (Kd.R_below (by (with_reducible repeat (first | apply Kd.R_alloc | apply Kd.R_drewN | apply Kd.R_drew)); exact HO354.out) hb); have n5_ := Aside0.mk (Kd.R_below (by (with_reducible repeat (first | apply Kd.R_alloc | apply Kd.R_drewN | apply Kd.R_drew)); exact HO357.out) hb); have n6_ := Aside0.mk (below_step (by repeat (first | (with_reducible first | exact HB.out | apply below_alloc | apply pw_below_drewN | apply below_drew1) | exact HB.out)) hb); have n7_ := Aside0.mk (hbox); have n8_ := Aside0.mk ((by rw [hg]; exact (below_size (by repeat (first | (with_reducible first | exact HB.out | apply below_alloc | apply pw_below_drewN | apply below_drew1) | exact HB.out))) : w.heap.size ≤ gb358)); have n9_ := Aside0.mk ((by rw [hg]; exact (below_size (by repeat (first | (with_reducible first | exact HB.out | apply below_alloc | apply pw_below_drewN | apply below_drew1) | exact HB.out))) : w.heap.size ≤ gb358)); clear HO342; clear HO345; clear HO348; clear HO351; clear HO354; clear HO357; clear HB; have HO342 := n0_; have HO345 := n1_; have HO348 := n2_; have HO351 := n3_; have HO354 := n4_; have HO357 := n5_; have HB := n6_; have BK358 := n7_; have GW358 := n8_; have GE358 := n9_; clear n0_ n1_ n2_ n3_ n4_ n5_ n6_ n7_ n8_ n9_; clear hb hbox hg; obtain ⟨Ao9, co9, eo9⟩ := Kd.R_slice HO342.out; subst eo9; have hcz10_0 : w8.cell? ⟨gb358, 0, none⟩ = some (.slice none 0 0) := (blk_cell BK358.out 0).trans rfl; have hcz10_1 : w8.cell? ⟨gb358, 1, none⟩ = some (.slice none 0 0) := (blk_cell BK358.out 1).trans rfl; have hcz10_2 : w8.cell? ⟨gb358, 2, none⟩ = some (.slice none 0 0) := (blk_cell BK358.out 2).trans rfl; have hcz10_3 : w8.cell? ⟨gb358, 3, none⟩ = some (.slice none 0 0) := (blk_cell BK358.out 3).trans rfl; have hcz10_4 : w8.cell? ⟨gb358, 4, none⟩ = some (.slice none 0 0) := (blk_cell BK358.out 4).trans rfl; have hfz10_0 := blk_frozen BK358.out 0; have hfz10_1 := blk_frozen BK358.out 1; have hfz10_2 := blk_frozen BK358.out 2; have hfz10_3 := blk_frozen BK358.out 3; have hfz10_4 := blk_frozen BK358.out 4; obtain ⟨Ao11, co11, eo11⟩ := Kd.R_slice HO345.out; subst eo11; obtain ⟨Ao12, co12, eo12⟩ := Kd.R_slice HO348.out; subst eo12; obtain ⟨Ao13, co13, eo13⟩ := Kd.R_slice HO351.out; subst eo13; obtain ⟨Ao14, co14, eo14⟩ := Kd.R_slice HO354.out; subst eo14))
  go_loopg [5, 6] k (fun kq v5 v6 w' => ∃ (x5_1 : List Int) (x6_1 : Int), v6 = .int .i64 x6_1 ∧ Aside0 (impl_CompleteWord.l0 kq a0 x5_1 x6_1 t340 t343 t346 t349 t352 = some (r1, r2)) ∧ Aside0 (kq ≤ k) ∧ Aside0 (Kd.R (Kd.int .u8) 5 w' w.heap.size (fun _ => True) v5 x5_1) ∧ Aside0 (Kd.R (Kd.int .i64) 2 w' w.heap.size (fun k_ => some k_ ≠ ((.slice Ao11 t343.length co11) : Value).ownBlock ∧ some k_ ≠ ((.slice Ao12 t346.length co12) : Value).ownBlock ∧ some k_ ≠ ((.slice Ao13 t349.length co13) : Value).ownBlock ∧ some k_ ≠ ((.slice Ao14 t352.length co14) : Value).ownBlock) (.slice Ao9 t340.length co9) t340) ∧ Aside0 (Kd.R (Kd.int .i64) 2 w' w.heap.size (fun k_ => some k_ ≠ ((.slice Ao9 t340.length co9) : Value).ownBlock ∧ some k_ ≠ ((.slice Ao12 t346.length co12) : Value).ownBlock ∧ some k_ ≠ ((.slice Ao13 t349.length co13) : Value).ownBlock ∧ some k_ ≠ ((.slice Ao14 t352.length co14) : Value).ownBlock) (.slice Ao11 t343.length co11) t343) ∧ Aside0 (Kd.R (Kd.int .i64) 2 w' w.heap.size (fun k_ => some k_ ≠ ((.slice Ao9 t340.length co9) : Value).ownBlock ∧ some k_ ≠ ((.slice Ao11 t343.length co11) : Value).ownBlock ∧ some k_ ≠ ((.slice Ao13 t349.length co13) : Value).ownBlock ∧ some k_ ≠ ((.slice Ao14 t352.length co14) : Value).ownBlock) (.slice Ao12 t346.length co12) t346) ∧ Aside0 (Kd.R (Kd.int .i64) 2 w' w.heap.size (fun k_ => some k_ ≠ ((.slice Ao9 t340.length co9) : Value).ownBlock ∧ some k_ ≠ ((.slice Ao11 t343.length co11) : Value).ownBlock ∧ some k_ ≠ ((.slice Ao12 t346.length co12) : Value).ownBlock ∧ some k_ ≠ ((.slice Ao14 t352.length co14) : Value).ownBlock) (.slice Ao13 t349.length co13) t349) ∧ Aside0 (Kd.R (Kd.int .i64) 2 w' w.heap.size (fun k_ => some k_ ≠ ((.slice Ao9 t340.length co9) : Value).ownBlock ∧ some k_ ≠ ((.slice Ao11 t343.length co11) : Value).ownBlock ∧ some k_ ≠ ((.slice Ao12 t346.length co12) : Value).ownBlock ∧ some k_ ≠ ((.slice Ao13 t349.length co13) : Value).ownBlock) (.slice Ao14 t352.length co14) t352) ∧ Aside0 (w'.heap[gb358]? = some (.cells #[(.slice Ao9 t340.length co9), (.slice Ao11 t343.length co11), (.slice Ao12 t346.length co12), (.slice Ao13 t349.length co13), (.slice Ao14 t352.length co14)] 85 (0, 0))) ∧ Aside0 (Below w.heap.size w w'))
  case atStart => exact ⟨(y355), (wrap64 ((t346.length : Int) - 1)), (by first | rfl | (simp; done) | (simp [*]; done)), H', ⟨Nat.le_refl _⟩, ⟨by (with_reducible repeat (first | apply Kd.R_alloc | apply Kd.R_drewN | apply Kd.R_drew)); exact Kd.R_mono (Kd.R_far (p := ⟨gb358, 4, none⟩) (Kd.R_far (p := ⟨gb358, 3, none⟩) (Kd.R_far (p := ⟨gb358, 2, none⟩) (Kd.R_far (p := ⟨gb358, 1, none⟩) (Kd.R_far (p := ⟨gb358, 0, none⟩) (Kd.R_types HO357.out BK358.out (by decide)) (fun _ hk => hk.2) (.slice Ao9 t340.length co9)) (fun _ hk => hk.2) (.slice Ao11 t343.length co11)) (fun _ hk => hk.2) (.slice Ao12 t346.length co12)) (fun _ hk => hk.2) (.slice Ao13 t349.length co13)) (fun _ hk => hk.2) (.slice Ao14 t352.length co14)) (fun _ hk => trivial)⟩, ⟨by (with_reducible repeat (first | apply Kd.R_alloc | apply Kd.R_drewN | apply Kd.R_drew)); exact Kd.R_mono (Kd.R_far (p := ⟨gb358, 4, none⟩) (Kd.R_far (p := ⟨gb358, 3, none⟩) (Kd.R_far (p := ⟨gb358, 2, none⟩) (Kd.R_far (p := ⟨gb358, 1, none⟩) (Kd.R_far (p := ⟨gb358, 0, none⟩) (Kd.R_types HO342.out BK358.out (by decide)) (fun _ hk => hk.2) (.slice Ao9 t340.length co9)) (fun _ hk => hk.2) (.slice Ao11 t343.length co11)) (fun _ hk => hk.2) (.slice Ao12 t346.length co12)) (fun _ hk => hk.2) (.slice Ao13 t349.length co13)) (fun _ hk => hk.2) (.slice Ao14 t352.length co14)) (fun _ hk => ⟨hk.1.1, ⟨hk.1.2.1, ⟨hk.1.2.2.1, hk.1.2.2.2⟩⟩⟩)⟩, ⟨by (with_reducible repeat (first | apply Kd.R_alloc | apply Kd.R_drewN | apply Kd.R_drew)); exact Kd.R_mono (Kd.R_far (p := ⟨gb358, 4, none⟩) (Kd.R_far (p := ⟨gb358, 3, none⟩) (Kd.R_far (p := ⟨gb358, 2, none⟩) (Kd.R_far (p := ⟨gb358, 1, none⟩) (Kd.R_far (p := ⟨gb358, 0, none⟩) (Kd.R_types HO345.out BK358.out (by decide)) (fun _ hk => hk.2) (.slice Ao9 t340.length co9)) (fun _ hk => hk.2) (.slice Ao11 t343.length co11)) (fun _ hk => hk.2) (.slice Ao12 t346.length co12)) (fun _ hk => hk.2) (.slice Ao13 t349.length co13)) (fun _ hk => hk.2) (.slice Ao14 t352.length co14)) (fun _ hk => ⟨hk.1.1, ⟨hk.1.2.1, ⟨hk.1.2.2.1, hk.1.2.2.2⟩⟩⟩)⟩, ⟨by (with_reducible repeat (first | apply Kd.R_alloc | apply Kd.R_drewN | apply Kd.R_drew)); exact Kd.R_mono (Kd.R_far (p := ⟨gb358, 4, none⟩) (Kd.R_far (p := ⟨gb358, 3, none⟩) (Kd.R_far (p := ⟨gb358, 2, none⟩) (Kd.R_far (p := ⟨gb358, 1, none⟩) (Kd.R_far (p := ⟨gb358, 0, none⟩) (Kd.R_types HO348.out BK358.out (by decide)) (fun _ hk => hk.2) (.slice Ao9 t340.length co9)) (fun _ hk => hk.2) (.slice Ao11 t343.length co11)) (fun _ hk => hk.2) (.slice Ao12 t346.length co12)) (fun _ hk => hk.2) (.slice Ao13 t349.length co13)) (fun _ hk => hk.2) (.slice Ao14 t352.length co14)) (fun _ hk => ⟨hk.1.1, ⟨hk.1.2.1, ⟨hk.1.2.2.1, hk.1.2.2.2⟩⟩⟩)⟩, ⟨by (with_reducible repeat (first | apply Kd.R_alloc | apply Kd.R_drewN | apply Kd.R_drew)); exact Kd.R_mono (Kd.R_far (p := ⟨gb358, 4, none⟩) (Kd.R_far (p := ⟨gb358, 3, none⟩) (Kd.R_far (p := ⟨gb358, 2, none⟩) (Kd.R_far (p := ⟨gb358, 1, none⟩) (Kd.R_far (p := ⟨gb358, 0, none⟩) (Kd.R_types HO351.out BK358.out (by decide)) (fun _ hk => hk.2) (.slice Ao9 t340.length co9)) (fun _ hk => hk.2) (.slice Ao11 t343.length co11)) (fun _ hk => hk.2) (.slice Ao12 t346.length co12)) (fun _ hk => hk.2) (.slice Ao13 t349.length co13)) (fun _ hk => hk.2) (.slice Ao14 t352.length co14)) (fun _ hk => ⟨hk.1.1, ⟨hk.1.2.1, ⟨hk.1.2.2.1, hk.1.2.2.2⟩⟩⟩)⟩, ⟨by (with_reducible repeat (first | apply Kd.R_alloc | apply Kd.R_drewN | apply Kd.R_drew)); exact Kd.R_mono (Kd.R_far (p := ⟨gb358, 4, none⟩) (Kd.R_far (p := ⟨gb358, 3, none⟩) (Kd.R_far (p := ⟨gb358, 2, none⟩) (Kd.R_far (p := ⟨gb358, 1, none⟩) (Kd.R_far (p := ⟨gb358, 0, none⟩) (Kd.R_types HO354.out BK358.out (by decide)) (fun _ hk => hk.2) (.slice Ao9 t340.length co9)) (fun _ hk => hk.2) (.slice Ao11 t343.length co11)) (fun _ hk => hk.2) (.slice Ao12 t346.length co12)) (fun _ hk => hk.2) (.slice Ao13 t349.length co13)) (fun _ hk => hk.2) (.slice Ao14 t352.length co14)) (fun _ hk => ⟨hk.1.1, ⟨hk.1.2.1, ⟨hk.1.2.2.1, hk.1.2.2.2⟩⟩⟩)⟩, ⟨by (with_reducible repeat (first | refine blk_drewN ?_ _ | refine blk_drew ?_ | refine blk_alloc ?_ _)); refine blk_put (cs := #[.slice Ao9 t340.length co9, .slice Ao11 t343.length co11, .slice Ao12 t346.length co12, .slice Ao13 t349.length co13, .slice none 0 0]) ?_ 4 _ rfl; (with_reducible repeat (first | refine blk_drewN ?_ _ | refine blk_drew ?_ | refine blk_alloc ?_ _)); refine blk_put (cs := #[.slice Ao9 t340.length co9, .slice Ao11 t343.length co11, .slice Ao12 t346.length co12, .slice none 0 0, .slice none 0 0]) ?_ 3 _ rfl; (with_reducible repeat (first | refine blk_drewN ?_ _ | refine blk_drew ?_ | refine blk_alloc ?_ _)); refine blk_put (cs := #[.slice Ao9 t340.length co9, .slice Ao11 t343.length co11, .slice none 0 0, .slice none 0 0, .slice none 0 0]) ?_ 2 _ rfl; (with_reducible repeat (first | refine blk_drewN ?_ _ | refine blk_drew ?_ | refine blk_alloc ?_ _)); refine blk_put (cs := #[.slice Ao9 t340.length co9, .slice none 0 0, .slice none 0 0, .slice none 0 0, .slice none 0 0]) ?_ 1 _ rfl; (with_reducible repeat (first | refine blk_drewN ?_ _ | refine blk_drew ?_ | refine blk_alloc ?_ _)); refine blk_put (cs := #[.slice none 0 0, .slice none 0 0, .slice none 0 0, .slice none 0 0, .slice none 0 0]) ?_ 0 _ rfl; (with_reducible repeat (first | refine blk_drewN ?_ _ | refine blk_drew ?_ | refine blk_alloc ?_ _)); exact BK358.out⟩, ⟨by repeat (first | (with_reducible first | exact HB.out | apply below_alloc | apply pw_below_drewN | apply below_drew1 | refine below_set ?_ GE358.out) | exact HB.out)⟩⟩
  case round =>
   clear H'
   try clear c1
   try clear p2
   try clear c3
   try clear c4
   try clear p6
   try clear hcz10_0
   try clear hcz10_1
   try clear hcz10_2
   try clear hcz10_3
   try clear hcz10_4
   try clear hfz10_0
   try clear hfz10_1
   try clear hfz10_2
   try clear hfz10_3
   try clear hfz10_4
   obtain ⟨x5_1, x6_1, rfl, HA, HK1, HO_5, HO_359000, HO_359001, HO_359002, HO_359003, HO_359004, BK358, HB⟩ := hrel
   cases gk with
   | zero => exact absurd HA.out (by simp [impl_CompleteWord.l0])
   | succ k1 =>
    have H := HA.out
    clear HA
    simp only [impl_CompleteWord.l0] at H
    by_cases c15 : x6_1 ≥ 0
    ·rw [if_pos c15] at H
     have c15b0 : decide (0 ≤ x6_1) = true := decide_eq_true c15
     clear c15
     by_cases c16 : 0 ≤ x6_1
     ·rw [if_pos c16] at H
      have c16b0 : decide (0 ≤ x6_1) = true := decide_eq_true c16
      clear c16
      by_cases c17 : x6_1 < (t346.length : Int)
      ·rw [if_pos c17] at H
       have c17b0 : decide (x6_1 < (t346.length : Int)) = true := decide_eq_true c17
       clear c17
       by_cases c18 : 0 ≤ (rd t346 x6_1)
       ·rw [if_pos c18] at H
        have c18b0 : decide (0 ≤ (rd t346 x6_1)) = true := decide_eq_true c18
        clear c18
        by_cases c19 : (rd t346 x6_1) < (a0.size : Int)
        ·rw [if_pos c19] at H
         have c19b0 : decide ((rd t346 x6_1) < (a0.size : Int)) = true := decide_eq_true c19
         clear c19
         replace H := Option.bind_eq_some_iff.mp H
         obtain ⟨t360, A210, H⟩ := H
         replace H : (if x5_1.length < 140737488355328 then (impl_CompleteWord.l0 k1 a0 (x5_1 ++ [t360]) (wrap64 (x6_1 - 1)) t340 t343 t346 t349 t352) else (none)) = some (r1, r2) := H
         have A21 := Aside0.mk A210
         clear A210
         by_cases c22 : x5_1.length < 140737488355328
         ·rw [if_pos c22] at H
          have LMc22 := Aside0.mk c22
          clear c22
          obtain ⟨y361, hy361⟩ : ∃ y_ : List Int, y_ = (x5_1 ++ [t360]) := ⟨_, rfl⟩
          replace H : (impl_CompleteWord.l0 k1 a0 y361 (wrap64 (x6_1 - 1)) t340 t343 t346 t349 t352) = some (r1, r2) := by first | (rw [hy361]; with_reducible exact H) | (have H2_ := (Option.bind_some _ _).symm.trans H; rw [hy361]; with_reducible exact H2_) | (have H2_ := (Option.bind_some _ _).symm.trans H; with_reducible exact H2_) | with_reducible exact H | (rw [hy361]; exact H) | exact H
          have Ny361 := Aside0.mk hy361
          clear hy361
          have H' := Aside0.mk H
          clear H
          have hcz23_0 : wr.cell? ⟨gb358, 0, none⟩ = some (.slice Ao9 t340.length co9) := (blk_cell BK358.out 0).trans rfl
          have hcz23_1 : wr.cell? ⟨gb358, 1, none⟩ = some (.slice Ao11 t343.length co11) := (blk_cell BK358.out 1).trans rfl
          have hcz23_2 : wr.cell? ⟨gb358, 2, none⟩ = some (.slice Ao12 t346.length co12) := (blk_cell BK358.out 2).trans rfl
          have hcz23_3 : wr.cell? ⟨gb358, 3, none⟩ = some (.slice Ao13 t349.length co13) := (blk_cell BK358.out 3).trans rfl
          have hcz23_4 : wr.cell? ⟨gb358, 4, none⟩ = some (.slice Ao14 t352.length co14) := (blk_cell BK358.out 4).trans rfl
          have hfz23_0 := blk_frozen BK358.out 0
          have hfz23_1 := blk_frozen BK358.out 1
          have hfz23_2 := blk_frozen BK358.out 2
          have hfz23_3 := blk_frozen BK358.out 3
          have hfz23_4 := blk_frozen BK358.out 4
          have p359 : 0 ≤ (x6_1 : Int) := of_decide_eq_true (by first | (with_reducible assumption) | assumption)
          have q359 : x6_1 < (t346.length : Int) := of_decide_eq_true (by first | (with_reducible assumption) | assumption)
          obtain ⟨ad359, e359, hx359_0⟩ := Kd.at_int (Kd.R_reads' HO_359002.out).2.2 x6_1 p359 q359
          cases e359
          replace p359 := eq_true p359
          replace q359 := eq_true q359
          have p20 : 0 ≤ ((rd t346 x6_1) : Int) := of_decide_eq_true (by first | (with_reducible assumption) | assumption)
          have q20 : (rd t346 x6_1) < (a0.size : Int) := of_decide_eq_true (by first | (with_reducible assumption) | assumption)
          have hx20 := bt_at a0 (rd t346 x6_1)
          replace p20 := eq_true p20
          replace q20 := eq_true q20
          go_wp2_with (first | ((with_reducible refine gate_callee (f := 47) rfl ?_); refine goesL_ (some 29) rfl rfl Try.func47 (by kernel_rfl) rfl #[.int .u8 (bt a0 (rd t346 x6_1))] rfl (by (try simp only [List.map_toArray, List.map_cons, List.map_nil]); first | done | rfl | (simp only [List.length_drop, List.length_take]; rfl)) ?_; (with_reducible refine (impl_returnFor.calls (bt a0 (rd t346 x6_1)) t360 _ A21.out).mono ?_); rintro e w' ⟨rfl, ⟨nd, rfl⟩⟩; refine ⟨_, rfl, ?_⟩) | ((with_reducible refine gate_builtin (b := .append) (xs := #[.tmp 21, .tmp 30]) rfl ?_); at_builtin; refine Kd.R_append (Kd.int .u8) (w0 := w) w.heap.size rfl (.tmp 21) (.tmp 30) 22 5 (.int .u8 0) 1 rfl Try.underlying22 info5 rfl (by decide) (by omega) u5 x5_1 t360 [.int .u8 t360] (fun _ => True) (fun _ => False) rfl rfl ?aP (fun _ hk => hk.elim) ?aF ?aO ?aB ?aS ?aL ?_; (case aP => exact rfl); (case aB => exact (by repeat (first | (with_reducible first | exact HB.out | apply below_alloc | apply pw_below_drewN | apply below_drew1 | refine below_set ?_ GE358.out) | exact HB.out))); (case aF => exact (fun _ _ => trivial)); (case aO => exact (by (with_reducible repeat (first | apply Kd.R_alloc | apply Kd.R_drewN | apply Kd.R_drew)); exact HO_5.out)); (case aS => exact (below_size (by repeat (first | (with_reducible first | exact HB.out | apply below_alloc | apply pw_below_drewN | apply below_drew1 | refine below_set ?_ GE358.out) | exact HB.out)))); (case aL => have := LMc22.out; omega); intro v362 w24 ho hb hg hat; rw [← Ny361.out] at ho; have n0_ := Aside0.mk (Kd.R_over' (by (with_reducible repeat (first | apply Kd.R_alloc | apply Kd.R_drewN | apply Kd.R_drew)); exact HO_359000.out) (Kd.R_typed (by (with_reducible repeat (first | apply Kd.R_alloc | apply Kd.R_drewN | apply Kd.R_drew)); exact HO_5.out)) (by decide) hg); have n1_ := Aside0.mk (Kd.R_over' (by (with_reducible repeat (first | apply Kd.R_alloc | apply Kd.R_drewN | apply Kd.R_drew)); exact HO_359001.out) (Kd.R_typed (by (with_reducible repeat (first | apply Kd.R_alloc | apply Kd.R_drewN | apply Kd.R_drew)); exact HO_5.out)) (by decide) hg); have n2_ := Aside0.mk (Kd.R_over' (by (with_reducible repeat (first | apply Kd.R_alloc | apply Kd.R_drewN | apply Kd.R_drew)); exact HO_359002.out) (Kd.R_typed (by (with_reducible repeat (first | apply Kd.R_alloc | apply Kd.R_drewN | apply Kd.R_drew)); exact HO_5.out)) (by decide) hg); have n3_ := Aside0.mk (Kd.R_over' (by (with_reducible repeat (first | apply Kd.R_alloc | apply Kd.R_drewN | apply Kd.R_drew)); exact HO_359003.out) (Kd.R_typed (by (with_reducible repeat (first | apply Kd.R_alloc | apply Kd.R_drewN | apply Kd.R_drew)); exact HO_5.out)) (by decide) hg); have n4_ := Aside0.mk (Kd.R_over' (by (with_reducible repeat (first | apply Kd.R_alloc | apply Kd.R_drewN | apply Kd.R_drew)); exact HO_359004.out) (Kd.R_typed (by (with_reducible repeat (first | apply Kd.R_alloc | apply Kd.R_drewN | apply Kd.R_drew)); exact HO_5.out)) (by decide) hg); have n5_ := Aside0.mk (blk_grown (g := gb358) (o := .cells #[.slice Ao9 t340.length co9, .slice Ao11 t343.length co11, .slice (some ad359) t346.length co12, .slice Ao13 t349.length co13, .slice Ao14 t352.length co14] 85 (0, 0)) (by (with_reducible repeat (first | refine blk_drewN ?_ _ | refine blk_drew ?_ | refine blk_alloc ?_ _)); exact BK358.out) hg (Kd.R_ne HO_5.out BK358.out (by decide))); have n6_ := Aside0.mk (hb); have n7_ := Aside0.mk (ho); clear HO_359000; clear HO_359001; clear HO_359002; clear HO_359003; clear HO_359004; clear BK358; clear HB; clear HO_5; have HO_359000 := n0_; have HO_359001 := n1_; have HO_359002 := n2_; have HO_359003 := n3_; have HO_359004 := n4_; have BK358 := n5_; have HB := n6_; have HO363 := n7_; clear n0_ n1_ n2_ n3_ n4_ n5_ n6_ n7_; clear ho hb hg hat))
          go_roundg k1
          case measure => have := HK1.out; omega
          case rel => exact ⟨(y361), (wrap64 (x6_1 - 1)), (by first | rfl | (simp; done) | (simp [*]; done)), H', ⟨by have := HK1.out; omega⟩, ⟨by (with_reducible repeat (first | apply Kd.R_alloc | apply Kd.R_drewN | apply Kd.R_drew)); exact HO363.out⟩, ⟨by (with_reducible repeat (first | apply Kd.R_alloc | apply Kd.R_drewN | apply Kd.R_drew)); exact HO_359000.out⟩, ⟨by (with_reducible repeat (first | apply Kd.R_alloc | apply Kd.R_drewN | apply Kd.R_drew)); exact HO_359001.out⟩, ⟨by (with_reducible repeat (first | apply Kd.R_alloc | apply Kd.R_drewN | apply Kd.R_drew)); exact HO_359002.out⟩, ⟨by (with_reducible repeat (first | apply Kd.R_alloc | apply Kd.R_drewN | apply Kd.R_drew)); exact HO_359003.out⟩, ⟨by (with_reducible repeat (first | apply Kd.R_alloc | apply Kd.R_drewN | apply Kd.R_drew)); exact HO_359004.out⟩, ⟨by (with_reducible repeat (first | refine blk_drewN ?_ _ | refine blk_drew ?_ | refine blk_alloc ?_ _)); exact BK358.out⟩, ⟨by repeat (first | (with_reducible first | exact HB.out | apply below_alloc | apply pw_below_drewN | apply below_drew1 | refine below_set ?_ GE358.out) | exact HB.out)⟩⟩
         ·rw [if_neg c22] at H
          exact absurd H (by simp)
        ·rw [if_neg c19] at H
         exact absurd H (by simp)
       ·rw [if_neg c18] at H
        exact absurd H (by simp)
      ·rw [if_neg c17] at H
       exact absurd H (by simp)
     ·rw [if_neg c16] at H
      exact absurd H (by simp)
    ·rw [if_neg c15] at H
     have c15b0 : decide (0 ≤ x6_1) = false := decide_eq_false c15
     clear c15
     replace H := Option.bind_eq_some_iff.mp H
     obtain ⟨t364, A250, H⟩ := H
     replace H : (if t364.size + a0.size ≤ 9223372036854775807 then (if (t364 ++ a0).size + (strOfNums x5_1).size ≤ 9223372036854775807 then ((impl_orLimit.f k1 ((t364 ++ a0) ++ (strOfNums x5_1))).bind fun bt365 => (some (bt365.1, bt365.2))) else (none)) else (none)) = some (r1, r2) := H
     have A25 := Aside0.mk A250
     clear A250
     by_cases c26 : t364.size + a0.size ≤ 9223372036854775807
     ·rw [if_pos c26] at H
      have c26b0 := eq_true c26
      have c26b1 : decide (t364.size + a0.size ≤ 9223372036854775807) = true := decide_eq_true c26
      try have c26b2 : (9223372036854775807 < t364.size + a0.size) = False := eq_false (Nat.not_lt.2 c26)
      by_cases c27 : (t364 ++ a0).size + (strOfNums x5_1).size ≤ 9223372036854775807
      ·rw [if_pos c27] at H
       have c27b0 := eq_true c27
       have c27b1 : decide ((t364 ++ a0).size + (strOfNums x5_1).size ≤ 9223372036854775807) = true := decide_eq_true c27
       try have c27b2 : (9223372036854775807 < (t364 ++ a0).size + (strOfNums x5_1).size) = False := eq_false (Nat.not_lt.2 c27)
       (try have c27b3 : (9223372036854775807 < t364.size + a0.size + (strOfNums x5_1).size) = False := eq_false (by have h_ := c27; simp only [ByteArray.size_append] at h_; exact Nat.not_lt.2 h_))
       (try have c27b4 : (t364.size + a0.size + (strOfNums x5_1).size ≤ 9223372036854775807) = True := eq_true (by have h_ := c27; simp only [ByteArray.size_append] at h_; exact h_))
       replace H := Option.bind_eq_some_iff.mp H
       obtain ⟨⟨t365, t366⟩, A280, H⟩ := H
       replace H : (some (t365, t366)) = some (r1, r2) := H
       have A28 := Aside0.mk A280
       clear A280
       simp only [Option.some.injEq, Prod.mk.injEq] at H
       obtain ⟨rfl, rfl⟩ := H
       try go_wp2
       have n0_ := Aside0.mk (Kd.R_drew HO_5.out)
       have n1_ := Aside0.mk (Kd.R_drew HO_359000.out)
       have n2_ := Aside0.mk (Kd.R_drew HO_359001.out)
       have n3_ := Aside0.mk (Kd.R_drew HO_359002.out)
       have n4_ := Aside0.mk (Kd.R_drew HO_359003.out)
       have n5_ := Aside0.mk (Kd.R_drew HO_359004.out)
       have n6_ := Aside0.mk (blk_drew BK358.out)
       have n7_ := Aside0.mk (below_drew1 HB.out)
       clear HO_5
       clear HO_359000
       clear HO_359001
       clear HO_359002
       clear HO_359003
       clear HO_359004
       clear BK358
       clear HB
       have HO_5 := n0_
       have HO_359000 := n1_
       have HO_359001 := n2_
       have HO_359002 := n3_
       have HO_359003 := n4_
       have HO_359004 := n5_
       have BK358 := n6_
       have HB := n7_
       clear n0_ n1_ n2_ n3_ n4_ n5_ n6_ n7_
       refine start_ (n := 14) (S := fun w' => w'.cell? ⟨gb358, 0, none⟩ = some (.slice Ao9 t340.length co9) ∧ w'.cell? ⟨gb358, 1, none⟩ = some (.slice Ao11 t343.length co11) ∧ w'.cell? ⟨gb358, 2, none⟩ = some (.slice Ao12 t346.length co12) ∧ w'.cell? ⟨gb358, 3, none⟩ = some (.slice Ao13 t349.length co13) ∧ w'.cell? ⟨gb358, 4, none⟩ = some (.slice Ao14 t352.length co14)) (ds := []) #[false, false, false, false, false, false, false, false, false, false, false, false, false, false] (by kernel_rfl) rfl rfl ⟨(blk_cell BK358.out 0).trans rfl, (blk_cell BK358.out 1).trans rfl, (blk_cell BK358.out 2).trans rfl, (blk_cell BK358.out 3).trans rfl, (blk_cell BK358.out 4).trans rfl⟩ (fun hHeld => ?_); refine with_tabW impl_CompleteWord.tab8 impl_CompleteWord.bits8 (fun HT_ HW_ => ?_)
       generalize wr.drew = w29 at HO_5 HO_359000 HO_359001 HO_359002 HO_359003 HO_359004 BK358 HB hHeld ⊢
       refine pure_ (i := 0) (N := some 32) (v := ?_) (a' := ?_) #[true, false, false, false, false, false, false, false, false, false, false, false, false, false] rfl rfl (any_of HT_.out (by kernel_rfl)) (fun _ _ _ h => h) (Or.inl ⟨by rfl, ?_⟩) ?_ ?_
       rotate_left
       ·intro w'
        go_simp
        with_reducible rfl
       rotate_left
       ·simp only [Act.put, List.setIfInBounds_toArray, List.set_cons_zero, List.set_cons_succ, i64_w, i32_w]
        rfl
       refine pure_ (i := 4) (N := some 36) (v := ?_) (a' := ?_) #[true, false, false, false, true, false, false, false, false, false, false, false, false, false] rfl rfl (any_of HT_.out (by kernel_rfl)) (fun _ _ _ h => h) (Or.inl ⟨by rfl, ?_⟩) ?_ ?_
       rotate_left
       ·intro w'
        go_simp
        with_reducible rfl
       rotate_left
       ·simp only [Act.put, List.setIfInBounds_toArray, List.set_cons_zero, List.set_cons_succ, i64_w, i32_w]
        rfl
       refine pure_ (i := 6) (N := some 38) (v := ?_) (a' := ?_) #[true, false, false, false, true, false, true, false, false, false, false, false, false, false] rfl rfl (any_of HT_.out (by kernel_rfl)) (fun _ _ _ h => h) (Or.inl ⟨by rfl, ?_⟩) ?_ ?_
       rotate_left
       ·intro w'
        go_simp
        with_reducible rfl
       rotate_left
       ·simp only [Act.put, List.setIfInBounds_toArray, List.set_cons_zero, List.set_cons_succ, i64_w, i32_w]
        rfl
       refine take_ (i := 1) (N := some 33) (v := ?_) (a' := ?_) #[true, true, false, false, true, false, true, false, false, false, false, false, false, false] rfl rfl (take_ofW HT_.out HW_.out (by kernel_rfl)) (fun _ _ _ h => h) (Or.inl ⟨by rfl, ?_⟩) hHeld ?_ ?_
       rotate_left
       ·rintro w' ⟨s0, s1, s2, s3, s4⟩
        go_simp
        with_reducible rfl
       rotate_left
       ·simp only [Act.put, List.setIfInBounds_toArray, List.set_cons_zero, List.set_cons_succ, i64_w, i32_w]
        rfl
       refine pure_ (i := 2) (N := some 34) (v := ?_) (a' := ?_) #[true, true, true, false, true, false, true, false, false, false, false, false, false, false] rfl rfl (any_of HT_.out (by kernel_rfl)) (fun _ _ _ h => h) (Or.inl ⟨by rfl, ?_⟩) ?_ ?_
       rotate_left
       ·intro w'
        go_simp
        with_reducible rfl
       rotate_left
       ·simp only [Act.put, List.setIfInBounds_toArray, List.set_cons_zero, List.set_cons_succ, i64_w, i32_w]
        rfl
       refine join_ (σ := Unit) 6 #[true, true, true, true, true, true, true, true, false, false, false, false, false, false] (fun s_ => [(35, .string t364), (39, .string (strOfNums x5_1)), (37, .string (t364 ++ a0))]) (fun s_ w' => (w'.cell? ⟨gb358, 0, none⟩ = some (.slice Ao9 t340.length co9) ∧ w'.cell? ⟨gb358, 1, none⟩ = some (.slice Ao11 t343.length co11) ∧ w'.cell? ⟨gb358, 2, none⟩ = some (.slice Ao12 t346.length co12) ∧ w'.cell? ⟨gb358, 3, none⟩ = some (.slice Ao13 t349.length co13) ∧ w'.cell? ⟨gb358, 4, none⟩ = some (.slice Ao14 t352.length co14)) ∧ (Kd.R (Kd.int .i64) 2 w' w.heap.size (fun k_ => some k_ ≠ (.slice Ao11 t343.length co11 : Value).ownBlock ∧ some k_ ≠ (.slice Ao12 t346.length co12 : Value).ownBlock ∧ some k_ ≠ (.slice Ao13 t349.length co13 : Value).ownBlock ∧ some k_ ≠ (.slice Ao14 t352.length co14 : Value).ownBlock) (.slice Ao9 t340.length co9) t340) ∧ (Kd.R (Kd.int .i64) 2 w' w.heap.size (fun k_ => some k_ ≠ (.slice Ao9 t340.length co9 : Value).ownBlock ∧ some k_ ≠ (.slice Ao12 t346.length co12 : Value).ownBlock ∧ some k_ ≠ (.slice Ao13 t349.length co13 : Value).ownBlock ∧ some k_ ≠ (.slice Ao14 t352.length co14 : Value).ownBlock) (.slice Ao11 t343.length co11) t343) ∧ (Kd.R (Kd.int .i64) 2 w' w.heap.size (fun k_ => some k_ ≠ (.slice Ao9 t340.length co9 : Value).ownBlock ∧ some k_ ≠ (.slice Ao11 t343.length co11 : Value).ownBlock ∧ some k_ ≠ (.slice Ao13 t349.length co13 : Value).ownBlock ∧ some k_ ≠ (.slice Ao14 t352.length co14 : Value).ownBlock) (.slice Ao12 t346.length co12) t346) ∧ (Kd.R (Kd.int .i64) 2 w' w.heap.size (fun k_ => some k_ ≠ (.slice Ao9 t340.length co9 : Value).ownBlock ∧ some k_ ≠ (.slice Ao11 t343.length co11 : Value).ownBlock ∧ some k_ ≠ (.slice Ao12 t346.length co12 : Value).ownBlock ∧ some k_ ≠ (.slice Ao14 t352.length co14 : Value).ownBlock) (.slice Ao13 t349.length co13) t349) ∧ (Kd.R (Kd.int .i64) 2 w' w.heap.size (fun k_ => some k_ ≠ (.slice Ao9 t340.length co9 : Value).ownBlock ∧ some k_ ≠ (.slice Ao11 t343.length co11 : Value).ownBlock ∧ some k_ ≠ (.slice Ao12 t346.length co12 : Value).ownBlock ∧ some k_ ≠ (.slice Ao13 t349.length co13 : Value).ownBlock) (.slice Ao14 t352.length co14) t352) ∧ (Kd.R (Kd.int .u8) 5 w' w.heap.size (fun _ => True) u5 x5_1) ∧ (w'.heap[gb358]? = some (.cells #[.slice Ao9 t340.length co9, .slice Ao11 t343.length co11, .slice Ao12 t346.length co12, .slice Ao13 t349.length co13, .slice Ao14 t352.length co14] 85 (0, 0))) ∧ (Below w.heap.size w w')) ?_ ?_
       rotate_left
       ·intro hCont
        refine two_ (i := 3) (j := 7) (Ni := some 35) (Nj := some 39) #[true, true, true, true, true, false, true, false, false, false, false, false, false, false] #[true, true, true, false, true, false, true, true, false, false, false, false, false, false] rfl rfl rfl rfl (two_of HT_.out (by kernel_rfl)) (by decide) (by decide) (fun K hK => ?_) (fun K hK => ?_)
        ·skip
         refine goes_ Try.func48 (by kernel_rfl) rfl #[.string (⟨#[40]⟩ : ByteArray), .int .i64 (t343.length : Int)] (by rfl) rfl rfl (by (try simp only [List.map_toArray, List.map_cons, List.map_nil]); first | done | rfl | (simp only [List.length_drop, List.length_take]; rfl)) ?_
         with_reducible refine (strings_Repeat.calls (⟨#[40]⟩ : ByteArray) (t343.length : Int) t364 _ A25.out).mono ?_
         rintro e w30 ⟨rfl, hb⟩
         refine ⟨_, rfl, ?_⟩
         have n0_ := Aside0.mk (Kd.R_below (by (with_reducible repeat (first | apply Kd.R_alloc | apply Kd.R_drewN | apply Kd.R_drew)); exact HO_5.out) hb)
         have n1_ := Aside0.mk (Kd.R_below (by (with_reducible repeat (first | apply Kd.R_alloc | apply Kd.R_drewN | apply Kd.R_drew)); exact HO_359000.out) hb)
         have n2_ := Aside0.mk (Kd.R_below (by (with_reducible repeat (first | apply Kd.R_alloc | apply Kd.R_drewN | apply Kd.R_drew)); exact HO_359001.out) hb)
         have n3_ := Aside0.mk (Kd.R_below (by (with_reducible repeat (first | apply Kd.R_alloc | apply Kd.R_drewN | apply Kd.R_drew)); exact HO_359002.out) hb)
         have n4_ := Aside0.mk (Kd.R_below (by (with_reducible repeat (first | apply Kd.R_alloc | apply Kd.R_drewN | apply Kd.R_drew)); exact HO_359003.out) hb)
         have n5_ := Aside0.mk (Kd.R_below (by (with_reducible repeat (first | apply Kd.R_alloc | apply Kd.R_drewN | apply Kd.R_drew)); exact HO_359004.out) hb)
         have n6_ := Aside0.mk (blk_below (g := gb358) (o := .cells #[.slice Ao9 t340.length co9, .slice Ao11 t343.length co11, .slice Ao12 t346.length co12, .slice Ao13 t349.length co13, .slice Ao14 t352.length co14] 85 (0, 0)) (by (with_reducible repeat (first | refine blk_drewN ?_ _ | refine blk_drew ?_ | refine blk_alloc ?_ _)); exact BK358.out) hb)
         have n7_ := Aside0.mk (below_step (by repeat (first | (with_reducible first | exact HB.out | apply below_alloc | apply pw_below_drewN | apply below_drew1 | refine below_set ?_ GE358.out) | exact HB.out)) hb)
         clear HO_5
         clear HO_359000
         clear HO_359001
         clear HO_359002
         clear HO_359003
         clear HO_359004
         clear BK358
         clear HB
         have HO_5 := n0_
         have HO_359000 := n1_
         have HO_359001 := n2_
         have HO_359002 := n3_
         have HO_359003 := n4_
         have HO_359004 := n5_
         have BK358 := n6_
         have HB := n7_
         clear n0_ n1_ n2_ n3_ n4_ n5_ n6_ n7_
         (try clear hb)
         (try clear hb2)
         (try clear hk)
         (try clear hi)
         refine hK.out _ _ ⟨(blk_cell BK358.out 0).trans rfl, (blk_cell BK358.out 1).trans rfl, (blk_cell BK358.out 2).trans rfl, (blk_cell BK358.out 3).trans rfl, (blk_cell BK358.out 4).trans rfl⟩ (fun hHeld => ?_)
         clear hK K
         refine norm_ (a' := ?_) ?_ ?_
         rotate_left
         ·show Act.put _ (some 35) _ = _
          simp only [Act.put, List.setIfInBounds_toArray, List.set_cons_zero, List.set_cons_succ, i64_w, i32_w]
          rfl
         refine pure_ (i := 5) (N := some 37) (v := ?_) (a' := ?_) #[true, true, true, true, true, true, true, false, false, false, false, false, false, false] rfl rfl (any_of HT_.out (by kernel_rfl)) (fun _ _ _ h => h) (Or.inl ⟨by rfl, ?_⟩) ?_ ?_
         rotate_left
         ·intro w'
          go_simp
          with_reducible rfl
         rotate_left
         ·simp only [Act.put, List.setIfInBounds_toArray, List.set_cons_zero, List.set_cons_succ, i64_w, i32_w]
          rfl
         refine one_ (i := 7) (N := some 39) #[true, true, true, true, true, true, true, true, false, false, false, false, false, false] rfl rfl (one_of HT_.out (by kernel_rfl)) (by decide) (fun K hK => ?_)
         have hcv31 := own_string (P := Try.prog) Try.underlying22 Try.underlying5 Try.underlying9 (Kd.own_of_R HO_5.out)
         refine value_ (w1 := ?_) (v := ?_) (by rfl) rfl ?_ ?_
         rotate_left 2
         ·go_simp
          constructor
          ·rfl
          ·rfl
         clear hcv31
         refine hK.out _ _ ⟨(blk_cell BK358.out 0).trans rfl, (blk_cell BK358.out 1).trans rfl, (blk_cell BK358.out 2).trans rfl, (blk_cell BK358.out 3).trans rfl, (blk_cell BK358.out 4).trans rfl⟩ (fun hHeld => ?_)
         clear hK K
         refine norm_ (a' := ?_) ?_ ?_
         rotate_left
         ·show Act.put _ (some 39) _ = _
          simp only [Act.put, List.setIfInBounds_toArray, List.set_cons_zero, List.set_cons_succ, i64_w, i32_w]
          rfl
         exact norm_ (by simp only [putAll, Act.put, List.setIfInBounds_toArray, List.set_cons_zero, List.set_cons_succ]) (hCont () _ ⟨hHeld, (by (with_reducible repeat (first | apply Kd.R_alloc | apply Kd.R_drewN | apply Kd.R_drew)); exact HO_359000.out), (by (with_reducible repeat (first | apply Kd.R_alloc | apply Kd.R_drewN | apply Kd.R_drew)); exact HO_359001.out), (by (with_reducible repeat (first | apply Kd.R_alloc | apply Kd.R_drewN | apply Kd.R_drew)); exact HO_359002.out), (by (with_reducible repeat (first | apply Kd.R_alloc | apply Kd.R_drewN | apply Kd.R_drew)); exact HO_359003.out), (by (with_reducible repeat (first | apply Kd.R_alloc | apply Kd.R_drewN | apply Kd.R_drew)); exact HO_359004.out), (by (with_reducible repeat (first | apply Kd.R_alloc | apply Kd.R_drewN | apply Kd.R_drew)); exact HO_5.out), (by (with_reducible repeat (first | refine blk_drewN ?_ _ | refine blk_drew ?_ | refine blk_alloc ?_ _)); exact BK358.out), (by repeat (first | (with_reducible first | exact HB.out | apply below_alloc | apply pw_below_drewN | apply below_drew1 | refine below_set ?_ GE358.out) | exact HB.out))⟩)
        ·skip
         have hcv30 := own_string (P := Try.prog) Try.underlying22 Try.underlying5 Try.underlying9 (Kd.own_of_R HO_5.out)
         refine value_ (w1 := ?_) (v := ?_) (by rfl) rfl ?_ ?_
         rotate_left 2
         ·go_simp
          constructor
          ·rfl
          ·rfl
         clear hcv30
         refine hK.out _ _ ⟨(blk_cell BK358.out 0).trans rfl, (blk_cell BK358.out 1).trans rfl, (blk_cell BK358.out 2).trans rfl, (blk_cell BK358.out 3).trans rfl, (blk_cell BK358.out 4).trans rfl⟩ (fun hHeld => ?_)
         clear hK K
         refine norm_ (a' := ?_) ?_ ?_
         rotate_left
         ·show Act.put _ (some 39) _ = _
          simp only [Act.put, List.setIfInBounds_toArray, List.set_cons_zero, List.set_cons_succ, i64_w, i32_w]
          rfl
         refine one_ (i := 3) (N := some 35) #[true, true, true, true, true, false, true, true, false, false, false, false, false, false] rfl rfl (one_of HT_.out (by kernel_rfl)) (by decide) (fun K hK => ?_)
         refine goes_ Try.func48 (by kernel_rfl) rfl #[.string (⟨#[40]⟩ : ByteArray), .int .i64 (t343.length : Int)] (by rfl) rfl rfl (by (try simp only [List.map_toArray, List.map_cons, List.map_nil]); first | done | rfl | (simp only [List.length_drop, List.length_take]; rfl)) ?_
         with_reducible refine (strings_Repeat.calls (⟨#[40]⟩ : ByteArray) (t343.length : Int) t364 _ A25.out).mono ?_
         rintro e w31 ⟨rfl, hb⟩
         refine ⟨_, rfl, ?_⟩
         have n0_ := Aside0.mk (Kd.R_below (by (with_reducible repeat (first | apply Kd.R_alloc | apply Kd.R_drewN | apply Kd.R_drew)); exact HO_5.out) hb)
         have n1_ := Aside0.mk (Kd.R_below (by (with_reducible repeat (first | apply Kd.R_alloc | apply Kd.R_drewN | apply Kd.R_drew)); exact HO_359000.out) hb)
         have n2_ := Aside0.mk (Kd.R_below (by (with_reducible repeat (first | apply Kd.R_alloc | apply Kd.R_drewN | apply Kd.R_drew)); exact HO_359001.out) hb)
         have n3_ := Aside0.mk (Kd.R_below (by (with_reducible repeat (first | apply Kd.R_alloc | apply Kd.R_drewN | apply Kd.R_drew)); exact HO_359002.out) hb)
         have n4_ := Aside0.mk (Kd.R_below (by (with_reducible repeat (first | apply Kd.R_alloc | apply Kd.R_drewN | apply Kd.R_drew)); exact HO_359003.out) hb)
         have n5_ := Aside0.mk (Kd.R_below (by (with_reducible repeat (first | apply Kd.R_alloc | apply Kd.R_drewN | apply Kd.R_drew)); exact HO_359004.out) hb)
         have n6_ := Aside0.mk (blk_below (g := gb358) (o := .cells #[.slice Ao9 t340.length co9, .slice Ao11 t343.length co11, .slice Ao12 t346.length co12, .slice Ao13 t349.length co13, .slice Ao14 t352.length co14] 85 (0, 0)) (by (with_reducible repeat (first | refine blk_drewN ?_ _ | refine blk_drew ?_ | refine blk_alloc ?_ _)); exact BK358.out) hb)
         have n7_ := Aside0.mk (below_step (by repeat (first | (with_reducible first | exact HB.out | apply below_alloc | apply pw_below_drewN | apply below_drew1 | refine below_set ?_ GE358.out) | exact HB.out)) hb)
         clear HO_5
         clear HO_359000
         clear HO_359001
         clear HO_359002
         clear HO_359003
         clear HO_359004
         clear BK358
         clear HB
         have HO_5 := n0_
         have HO_359000 := n1_
         have HO_359001 := n2_
         have HO_359002 := n3_
         have HO_359003 := n4_
         have HO_359004 := n5_
         have BK358 := n6_
         have HB := n7_
         clear n0_ n1_ n2_ n3_ n4_ n5_ n6_ n7_
         (try clear hb)
         (try clear hb2)
         (try clear hk)
         (try clear hi)
         refine hK.out _ _ ⟨(blk_cell BK358.out 0).trans rfl, (blk_cell BK358.out 1).trans rfl, (blk_cell BK358.out 2).trans rfl, (blk_cell BK358.out 3).trans rfl, (blk_cell BK358.out 4).trans rfl⟩ (fun hHeld => ?_)
         clear hK K
         refine norm_ (a' := ?_) ?_ ?_
         rotate_left
         ·show Act.put _ (some 35) _ = _
          simp only [Act.put, List.setIfInBounds_toArray, List.set_cons_zero, List.set_cons_succ, i64_w, i32_w]
          rfl
         refine pure_ (i := 5) (N := some 37) (v := ?_) (a' := ?_) #[true, true, true, true, true, true, true, true, false, false, false, false, false, false] rfl rfl (any_of HT_.out (by kernel_rfl)) (fun _ _ _ h => h) (Or.inl ⟨by rfl, ?_⟩) ?_ ?_
         rotate_left
         ·intro w'
          go_simp
          with_reducible rfl
         rotate_left
         ·simp only [Act.put, List.setIfInBounds_toArray, List.set_cons_zero, List.set_cons_succ, i64_w, i32_w]
          rfl
         exact norm_ (by simp only [putAll, Act.put, List.setIfInBounds_toArray, List.set_cons_zero, List.set_cons_succ]) (hCont () _ ⟨hHeld, (by (with_reducible repeat (first | apply Kd.R_alloc | apply Kd.R_drewN | apply Kd.R_drew)); exact HO_359000.out), (by (with_reducible repeat (first | apply Kd.R_alloc | apply Kd.R_drewN | apply Kd.R_drew)); exact HO_359001.out), (by (with_reducible repeat (first | apply Kd.R_alloc | apply Kd.R_drewN | apply Kd.R_drew)); exact HO_359002.out), (by (with_reducible repeat (first | apply Kd.R_alloc | apply Kd.R_drewN | apply Kd.R_drew)); exact HO_359003.out), (by (with_reducible repeat (first | apply Kd.R_alloc | apply Kd.R_drewN | apply Kd.R_drew)); exact HO_359004.out), (by (with_reducible repeat (first | apply Kd.R_alloc | apply Kd.R_drewN | apply Kd.R_drew)); exact HO_5.out), (by (with_reducible repeat (first | refine blk_drewN ?_ _ | refine blk_drew ?_ | refine blk_alloc ?_ _)); exact BK358.out), (by repeat (first | (with_reducible first | exact HB.out | apply below_alloc | apply pw_below_drewN | apply below_drew1 | refine below_set ?_ GE358.out) | exact HB.out))⟩)
       rintro _ w32 ⟨hS_, h0_, h1_, h2_, h3_, h4_, h5_, h6_, h7_⟩
       have n0_ : Aside0 (Kd.R (Kd.int .i64) 2 w32 w.heap.size (fun k_ => some k_ ≠ (.slice Ao11 t343.length co11 : Value).ownBlock ∧ some k_ ≠ (.slice Ao12 t346.length co12 : Value).ownBlock ∧ some k_ ≠ (.slice Ao13 t349.length co13 : Value).ownBlock ∧ some k_ ≠ (.slice Ao14 t352.length co14 : Value).ownBlock) (.slice Ao9 t340.length co9) t340) := ⟨h0_⟩
       have n1_ : Aside0 (Kd.R (Kd.int .i64) 2 w32 w.heap.size (fun k_ => some k_ ≠ (.slice Ao9 t340.length co9 : Value).ownBlock ∧ some k_ ≠ (.slice Ao12 t346.length co12 : Value).ownBlock ∧ some k_ ≠ (.slice Ao13 t349.length co13 : Value).ownBlock ∧ some k_ ≠ (.slice Ao14 t352.length co14 : Value).ownBlock) (.slice Ao11 t343.length co11) t343) := ⟨h1_⟩
       have n2_ : Aside0 (Kd.R (Kd.int .i64) 2 w32 w.heap.size (fun k_ => some k_ ≠ (.slice Ao9 t340.length co9 : Value).ownBlock ∧ some k_ ≠ (.slice Ao11 t343.length co11 : Value).ownBlock ∧ some k_ ≠ (.slice Ao13 t349.length co13 : Value).ownBlock ∧ some k_ ≠ (.slice Ao14 t352.length co14 : Value).ownBlock) (.slice Ao12 t346.length co12) t346) := ⟨h2_⟩
       have n3_ : Aside0 (Kd.R (Kd.int .i64) 2 w32 w.heap.size (fun k_ => some k_ ≠ (.slice Ao9 t340.length co9 : Value).ownBlock ∧ some k_ ≠ (.slice Ao11 t343.length co11 : Value).ownBlock ∧ some k_ ≠ (.slice Ao12 t346.length co12 : Value).ownBlock ∧ some k_ ≠ (.slice Ao14 t352.length co14 : Value).ownBlock) (.slice Ao13 t349.length co13) t349) := ⟨h3_⟩
       have n4_ : Aside0 (Kd.R (Kd.int .i64) 2 w32 w.heap.size (fun k_ => some k_ ≠ (.slice Ao9 t340.length co9 : Value).ownBlock ∧ some k_ ≠ (.slice Ao11 t343.length co11 : Value).ownBlock ∧ some k_ ≠ (.slice Ao12 t346.length co12 : Value).ownBlock ∧ some k_ ≠ (.slice Ao13 t349.length co13 : Value).ownBlock) (.slice Ao14 t352.length co14) t352) := ⟨h4_⟩
       have n5_ : Aside0 (Kd.R (Kd.int .u8) 5 w32 w.heap.size (fun _ => True) u5 x5_1) := ⟨h5_⟩
       have n6_ : Aside0 (w32.heap[gb358]? = some (.cells #[.slice Ao9 t340.length co9, .slice Ao11 t343.length co11, .slice Ao12 t346.length co12, .slice Ao13 t349.length co13, .slice Ao14 t352.length co14] 85 (0, 0))) := ⟨h6_⟩
       have n7_ : Aside0 (Below w.heap.size w w32) := ⟨h7_⟩
       clear HO_5
       clear HO_359000
       clear HO_359001
       clear HO_359002
       clear HO_359003
       clear HO_359004
       clear BK358
       clear HB
       clear h0_ h1_ h2_ h3_ h4_ h5_ h6_ h7_
       have HO_359000 := n0_
       have HO_359001 := n1_
       have HO_359002 := n2_
       have HO_359003 := n3_
       have HO_359004 := n4_
       have HO_5 := n5_
       have BK358 := n6_
       have HB := n7_
       clear n0_ n1_ n2_ n3_ n4_ n5_ n6_ n7_
       have hHeld : w32.cell? ⟨gb358, 0, none⟩ = some (.slice Ao9 t340.length co9) ∧ w32.cell? ⟨gb358, 1, none⟩ = some (.slice Ao11 t343.length co11) ∧ w32.cell? ⟨gb358, 2, none⟩ = some (.slice Ao12 t346.length co12) ∧ w32.cell? ⟨gb358, 3, none⟩ = some (.slice Ao13 t349.length co13) ∧ w32.cell? ⟨gb358, 4, none⟩ = some (.slice Ao14 t352.length co14) := hS_
       refine norm_ (a' := ?_) ?_ ?_
       rotate_left
       ·simp only [putAll, Act.put, List.setIfInBounds_toArray, List.set_cons_zero, List.set_cons_succ]
        rfl
       refine pure_ (i := 8) (N := some 40) (v := ?_) (a' := ?_) #[true, true, true, true, true, true, true, true, true, false, false, false, false, false] rfl rfl (any_of HT_.out (by kernel_rfl)) (fun _ _ _ h => h) (Or.inl ⟨by rfl, ?_⟩) ?_ ?_
       rotate_left
       ·intro w'
        go_simp
        with_reducible rfl
       rotate_left
       ·simp only [Act.put, List.setIfInBounds_toArray, List.set_cons_zero, List.set_cons_succ, i64_w, i32_w]
        rfl
       refine one_ (i := 9) (N := some 41) #[true, true, true, true, true, true, true, true, true, true, false, false, false, false] rfl rfl (one_of HT_.out (by kernel_rfl)) (by decide) (fun K hK => ?_)
       refine goes_ Try.func44 (by kernel_rfl) rfl #[.string ((t364 ++ a0) ++ (strOfNums x5_1))] (by rfl) rfl rfl (by (try simp only [List.map_toArray, List.map_cons, List.map_nil]); first | done | rfl | (simp only [List.length_drop, List.length_take]; rfl)) ?_
       with_reducible refine (impl_orLimit.calls k1 ((t364 ++ a0) ++ (strOfNums x5_1)) t365 t366 _ A28.out).mono ?_
       rintro e w' ⟨rfl, ⟨nd, rfl⟩⟩
       refine ⟨_, rfl, ?_⟩
       refine hK.out _ _ ⟨(blk_cell BK358.out 0).trans rfl, (blk_cell BK358.out 1).trans rfl, (blk_cell BK358.out 2).trans rfl, (blk_cell BK358.out 3).trans rfl, (blk_cell BK358.out 4).trans rfl⟩ (fun hHeld => ?_)
       clear hK K
       refine norm_ (a' := ?_) ?_ ?_
       rotate_left
       ·show Act.put _ (some 41) _ = _
        simp only [Act.put, List.setIfInBounds_toArray, List.set_cons_zero, List.set_cons_succ, i64_w, i32_w]
        rfl
       refine pure_ (i := 10) (N := some 42) (v := ?_) (a' := ?_) #[true, true, true, true, true, true, true, true, true, true, true, false, false, false] rfl rfl (any_of HT_.out (by kernel_rfl)) (fun _ _ _ h => h) (Or.inl ⟨by rfl, ?_⟩) ?_ ?_
       rotate_left
       ·intro w'
        go_simp
        with_reducible rfl
       rotate_left
       ·simp only [Act.put, List.setIfInBounds_toArray, List.set_cons_zero, List.set_cons_succ, i64_w, i32_w]
        rfl
       refine pure_ (i := 11) (N := some 43) (v := ?_) (a' := ?_) #[true, true, true, true, true, true, true, true, true, true, true, true, false, false] rfl rfl (any_of HT_.out (by kernel_rfl)) (fun _ _ _ h => h) (Or.inl ⟨by rfl, ?_⟩) ?_ ?_
       rotate_left
       ·intro w'
        go_simp
        with_reducible rfl
       rotate_left
       ·simp only [Act.put, List.setIfInBounds_toArray, List.set_cons_zero, List.set_cons_succ, i64_w, i32_w]
        rfl
       refine pure_ (i := 12) (N := some 2) (v := ?_) (a' := ?_) #[true, true, true, true, true, true, true, true, true, true, true, true, true, false] rfl rfl (any_of HT_.out (by kernel_rfl)) (fun _ _ _ h => h) (Or.inl ⟨by rfl, ?_⟩) ?_ ?_
       rotate_left
       ·intro w'
        go_simp
        with_reducible rfl
       rotate_left
       ·simp only [Act.put, List.setIfInBounds_toArray, List.set_cons_zero, List.set_cons_succ, i64_w, i32_w]
        rfl
       refine pure_ (i := 13) (N := some 3) (v := ?_) (a' := ?_) #[true, true, true, true, true, true, true, true, true, true, true, true, true, true] rfl rfl (any_of HT_.out (by kernel_rfl)) (fun _ _ _ h => h) (Or.inl ⟨by rfl, ?_⟩) ?_ ?_
       rotate_left
       ·intro w'
        go_simp
        with_reducible rfl
       rotate_left
       ·simp only [Act.put, List.setIfInBounds_toArray, List.set_cons_zero, List.set_cons_succ, i64_w, i32_w]
        rfl
       refine done_ (done_of HT_.out (by kernel_rfl)) ?_
       try go_wp2
       go_ret2
       exact ⟨by first | rfl | (simp [errW_none, errW_some] <;> rfl) | (simp [*, errW_none, errW_some] <;> rfl), by repeat (first | (with_reducible first | exact HB.out | apply below_alloc | apply pw_below_drewN | apply below_drew1 | refine below_set ?_ GE358.out) | exact HB.out)⟩
      ·rw [if_neg c27] at H
       exact absurd H (by simp)
     ·rw [if_neg c26] at H
      exact absurd H (by simp)
 ·replace c3 := Bool.eq_false_iff.mpr c3
  subst c3
  have H1 : (some ((⟨#[]⟩ : ByteArray), 1)) = some (r1, r2) := by rw [if_neg (show ¬ (false = true) by decide)] at H; exact H
  clear H
  have H := H1
  clear H1
  simp only [Option.some.injEq, Prod.mk.injEq] at H
  obtain ⟨rfl, rfl⟩ := H
  go_enter Try.func16, Try.ntmps16
  go_wp2_with (first | ((with_reducible refine gate_callee (f := 41) rfl ?_); refine goesL_ (some 8) rfl rfl Try.func41 (by kernel_rfl) rfl #[.string a0] rfl (by (try simp only [List.map_toArray, List.map_cons, List.map_nil]); first | done | rfl | (simp only [List.length_drop, List.length_take]; rfl)) ?_; (with_reducible refine (impl_ValidWord.calls k a0 false _ A2.out).mono ?_); rintro e w' ⟨rfl, ⟨nd, rfl⟩⟩; refine ⟨_, rfl, ?_⟩))
  go_ret2
  exact ⟨by first | rfl | (simp [errW_none, errW_some] <;> rfl) | (simp [*, errW_none, errW_some] <;> rfl), by repeat (first | (with_reducible first | exact HB.out | apply below_alloc | apply pw_below_drewN | apply below_drew1) | exact HB.out)⟩
end Go.Proofs.Ytolmmfcofbhagaa.PC
