/- Texts that this law leans on, several in one; written by programs of these sessions (print, wip/deep, gather.py). -/
import Derived.Test.YtgfilbgjnloopaaGe1
namespace Go.Proofs.Ytgfilbgjnloopaa.P
open Go.RowKit Go.Proofs.YtgfilbgjnloopaaW.PrintWords Go.Proofs.YtgfilbgjnloopaaW.PrintLast Go.Proofs.YtgfilbgjnloopaaW.PrintMore
attribute [local go_sem] max2_int min2_int max_two min_two max_three min_three max_four min_four
set_option linter.unusedVariables false
set_option linter.unusedSimpArgs false
mutual
def spec_l01Partners.l0 : Nat → ByteArray → List Int → List Int → Int → Option (List Int)
 | 0, _, _, _, _ => none
 | k + 1, x0, x3, x4, x5 => if x5 < (x0.size : Int) then (if 0 ≤ x5 then ((spec_l01Call.f (bt x0 x5)).bind fun t365 => (if t365 = true then (if x3.length < 17592186044416 then (if x4.length < 17592186044416 then (spec_l01Partners.l0 k x0 (x3 ++ [(-2)]) (x4 ++ [x5]) (wrap64 (x5 + 1))) else (none)) else (none)) else ((spec_l01Return.f (bt x0 x5)).bind fun t372 => (if t372 = true then (spec_l01Partners.j1 k x0 x3 x4 x5 (decide ((x4.length : Int) > 0))) else (spec_l01Partners.j1 k x0 x3 x4 x5 false))))) else (none)) else (some x3)
def spec_l01Partners.j1 : Nat → ByteArray → List Int → List Int → Int → Bool → Option (List Int)
 | 0, _, _, _, _, _ => none
 | k + 1, x0, x3, x4, x5, x30 => if x30 = true then (if 0 ≤ (wrap64 ((x4.length : Int) - 1)) then (if (wrap64 ((x4.length : Int) - 1)) < (x4.length : Int) then (if (wrap64 ((x4.length : Int) - 1)) ≤ (x4.length : Int) then (if 0 ≤ (rd x4 (wrap64 ((x4.length : Int) - 1))) then (if (rd x4 (wrap64 ((x4.length : Int) - 1))) < (x3.length : Int) then ((some (x3.set ((rd x4 (wrap64 ((x4.length : Int) - 1))) : Int).toNat x5 : List Int)).bind fun y377 => (if y377.length < 17592186044416 then (spec_l01Partners.l0 k x0 (y377 ++ [rd x4 (wrap64 ((x4.length : Int) - 1))]) (x4.take ((wrap64 ((x4.length : Int) - 1)) : Int).toNat) (wrap64 (x5 + 1))) else (none))) else (none)) else (none)) else (none)) else (none)) else (none)) else (if 0 ≤ x5 then (if x5 < (x0.size : Int) then ((spec_l01Return.f (bt x0 x5)).bind fun t381 => (if t381 = true then (if x3.length < 17592186044416 then (spec_l01Partners.l0 k x0 (x3 ++ [(-2)]) x4 (wrap64 (x5 + 1))) else (none)) else (if x3.length < 17592186044416 then (spec_l01Partners.l0 k x0 (x3 ++ [(-1)]) x4 (wrap64 (x5 + 1))) else (none)))) else (none)) else (none))
end
def spec_l01Partners.f (k : Nat) (a0 : ByteArray) : Option (List Int) := spec_l01Partners.l0 k a0 (([] : List Int)) (([] : List Int)) 0
set_option maxHeartbeats 8000000 in
set_option maxRecDepth 100000 in
theorem spec_l01Partners.calls (k : Nat) (a0 : ByteArray) (r : List Int) (w : World) (h : spec_l01Partners.f k a0 = some r) :
  Calls Try.prog 75 #[.string a0] w fun e w' => ∃ v0_ : Value, e = .returned (v0_) ∧ Kd.R (Kd.int .i64) 2 w' w.heap.size (fun _ => True) v0_ r ∧ Below w.heap.size w w' := by
 have HB := AZ.mk (Below.refl w.heap.size w)
 have H : (spec_l01Partners.l0 k a0 (([] : List Int)) (([] : List Int)) 0) = some r := h
 clear h
 obtain ⟨y359, hy359⟩ : ∃ y_ : List Int, y_ = (([] : List Int)) := ⟨_, rfl⟩
 replace H : (spec_l01Partners.l0 k a0 y359 (([] : List Int)) 0) = some r := by first | (rw [hy359]; with_reducible exact H) | (have H2_ := (Option.bind_some _ _).symm.trans H; rw [hy359]; with_reducible exact H2_) | (have H2_ := (Option.bind_some _ _).symm.trans H; with_reducible exact H2_) | with_reducible exact H | (rw [hy359]; exact H) | exact H
 have Ny359 := AZ.mk hy359
 clear hy359
 obtain ⟨y362, hy362⟩ : ∃ y_ : List Int, y_ = (([] : List Int)) := ⟨_, rfl⟩
 replace H : (spec_l01Partners.l0 k a0 y359 y362 0) = some r := by first | (rw [hy362]; with_reducible exact H) | (have H2_ := (Option.bind_some _ _).symm.trans H; rw [hy362]; with_reducible exact H2_) | (have H2_ := (Option.bind_some _ _).symm.trans H; with_reducible exact H2_) | with_reducible exact H | (rw [hy362]; exact H) | exact H
 have Ny362 := AZ.mk hy362
 clear hy362
 have H' := AZ.mk H
 clear H
 go_enter Try.func75, Try.ntmps75
 go_wp2_with (first | ((with_reducible refine gate_dst (N := 7) rfl ?_); (try (refine gate_guard (by rfl) ?_; dsimp only)); refine Kd.R_lit (Kd.int .i64) _ 2 ?hg (N := 7) ?hd (xs := ([] : List Int)) (inner := []) (ok := fun _ => True) (okp := fun _ => True) ?hr ?hp (fun _ hk => hk) trivial (Below.refl _ _) (Nat.le_refl _) (by simp) ?_; (case hd => rfl); (case hg => rfl); (case hr => first | (go_simp; done) | (go_simp; rfl)); (case hp => exact (Reps.none _ _)); intro v360 w2 ho3 hb hg_ hnew_; clear hg_ hnew_; (first | rw [← Ny359.out] at ho3 | (simp only [Int.reduceToNat] at ho3; rw [← Ny359.out] at ho3)); have n0_ := AZ.mk (Kd.R_lower ho3 (pZ (by repeat (first | (with_reducible first | exact HB.out | apply pA | apply pN | apply pD) | exact HB.out)))); have n1_ := AZ.mk (pT (by repeat (first | (with_reducible first | exact HB.out | apply pA | apply pN | apply pD) | exact HB.out)) hb); clear HB; have HO361 := n0_; have HB := n1_; clear n0_ n1_; clear hb ho3) | ((with_reducible refine gate_dst (N := 8) rfl ?_); (try (refine gate_guard (by rfl) ?_; dsimp only)); refine Kd.R_lit (Kd.int .i64) _ 3 ?hg (N := 8) ?hd (xs := ([] : List Int)) (inner := []) (ok := fun _ => True) (okp := fun _ => True) ?hr ?hp (fun _ hk => hk) trivial (Below.refl _ _) (Nat.le_refl _) (by simp) ?_; (case hd => rfl); (case hg => rfl); (case hr => first | (go_simp; done) | (go_simp; rfl)); (case hp => exact (Reps.none _ _)); intro v363 w4 ho5 hb hg_ hnew_; clear hg_ hnew_; (first | rw [← Ny362.out] at ho5 | (simp only [Int.reduceToNat] at ho5; rw [← Ny362.out] at ho5)); have n0_ := AZ.mk (Kd.R_below (by (with_reducible repeat (first | apply Kd.R_alloc | apply Kd.R_drewN | apply Kd.R_drew)); exact HO361.out) hb); have n1_ := AZ.mk (Kd.R_lower ho5 (pZ (by repeat (first | (with_reducible first | exact HB.out | apply pA | apply pN | apply pD) | exact HB.out)))); have n2_ := AZ.mk (pT (by repeat (first | (with_reducible first | exact HB.out | apply pA | apply pN | apply pD) | exact HB.out)) hb); clear HO361; clear HB; have HO361 := n0_; have HO364 := n1_; have HB := n2_; clear n0_ n1_ n2_; clear hb ho5))
 go_loopg [3, 4, 5] k (fun kq v3 v4 v5 w' => ∃ (x3_1 : List Int) (x4_1 : List Int) (x5_1 : Int), v5 = .int .i64 x5_1 ∧ AZ (spec_l01Partners.l0 kq a0 x3_1 x4_1 x5_1 = some r) ∧ AZ (kq ≤ k) ∧ AZ (Kd.R (Kd.int .i64) 2 w' w.heap.size (fun _ => True) v3 x3_1) ∧ AZ (Kd.R (Kd.int .i64) 3 w' w.heap.size (fun _ => True) v4 x4_1) ∧ AZ (Below w.heap.size w w'))
 case atStart => exact ⟨(y359), (y362), (0), (by first | rfl | (simp; done) | (simp [*]; done)), H', ⟨Nat.le_refl _⟩, ⟨by (with_reducible repeat (first | apply Kd.R_alloc | apply Kd.R_drewN | apply Kd.R_drew)); exact HO361.out⟩, ⟨by (with_reducible repeat (first | apply Kd.R_alloc | apply Kd.R_drewN | apply Kd.R_drew)); exact HO364.out⟩, ⟨by repeat (first | (with_reducible first | exact HB.out | apply pA | apply pN | apply pD) | exact HB.out)⟩⟩
 case round =>
  clear H'
  try clear p2
  obtain ⟨x3_1, x4_1, x5_1, rfl, HA, HK1, HO_3, HO_4, HB⟩ := hrel
  cases gk with
  | zero => exact absurd HA.out (by simp [spec_l01Partners.l0])
  | succ k1 =>
   have H := HA.out
   clear HA
   simp only [spec_l01Partners.l0] at H
   by_cases c6 : x5_1 < (a0.size : Int)
   rotate_left
   ·rw [if_neg c6] at H
    have c6b0 : decide (x5_1 < (a0.size : Int)) = false := decide_eq_false c6
    clear c6
    obtain rfl := Option.some.inj H
    go_wp2
    go_ret
    exact ⟨_, by first | rfl | (simp [errW_none, errW_some] <;> rfl) | (simp [*, errW_none, errW_some] <;> rfl), by (with_reducible repeat (first | apply Kd.R_alloc | apply Kd.R_drewN | apply Kd.R_drew)); exact HO_3.out, by repeat (first | (with_reducible first | exact HB.out | apply pA | apply pN | apply pD) | exact HB.out)⟩
   rw [if_pos c6] at H
   have c6b0 : decide (x5_1 < (a0.size : Int)) = true := decide_eq_true c6
   clear c6
   by_cases c7 : 0 ≤ x5_1
   rotate_left
   ·rw [if_neg c7] at H
    exact absurd H (by simp)
   rw [if_pos c7] at H
   have c7b0 : decide (0 ≤ x5_1) = true := decide_eq_true c7
   clear c7
   replace H := Option.bind_eq_some_iff.mp H
   obtain ⟨t365, A90, H⟩ := H
   replace H : (if t365 = true then (if x3_1.length < 17592186044416 then (if x4_1.length < 17592186044416 then (spec_l01Partners.l0 k1 a0 (x3_1 ++ [(-2)]) (x4_1 ++ [x5_1]) (wrap64 (x5_1 + 1))) else (none)) else (none)) else ((spec_l01Return.f (bt a0 x5_1)).bind fun t372 => (if t372 = true then (spec_l01Partners.j1 k1 a0 x3_1 x4_1 x5_1 (decide ((x4_1.length : Int) > 0))) else (spec_l01Partners.j1 k1 a0 x3_1 x4_1 x5_1 false)))) = some r := H
   have A9 := AZ.mk A90
   clear A90
   by_cases c10 : t365 = true
   ·subst c10
    have H1 : (if x3_1.length < 17592186044416 then (if x4_1.length < 17592186044416 then (spec_l01Partners.l0 k1 a0 (x3_1 ++ [(-2)]) (x4_1 ++ [x5_1]) (wrap64 (x5_1 + 1))) else (none)) else (none)) = some r := by rw [if_pos rfl] at H; exact H
    clear H
    have H := H1
    clear H1
    by_cases c11 : x3_1.length < 17592186044416
    rotate_left
    ·rw [if_neg c11] at H
     exact absurd H (by simp)
    rw [if_pos c11] at H
    have LMc11 := AZ.mk c11
    clear c11
    obtain ⟨y366, hy366⟩ : ∃ y_ : List Int, y_ = (x3_1 ++ [(-2)]) := ⟨_, rfl⟩
    replace H : (if x4_1.length < 17592186044416 then (spec_l01Partners.l0 k1 a0 y366 (x4_1 ++ [x5_1]) (wrap64 (x5_1 + 1))) else (none)) = some r := by first | (rw [hy366]; with_reducible exact H) | (have H2_ := (Option.bind_some _ _).symm.trans H; rw [hy366]; with_reducible exact H2_) | (have H2_ := (Option.bind_some _ _).symm.trans H; with_reducible exact H2_) | with_reducible exact H | (rw [hy366]; exact H) | exact H
    have Ny366 := AZ.mk hy366
    clear hy366
    by_cases c12 : x4_1.length < 17592186044416
    rotate_left
    ·rw [if_neg c12] at H
     exact absurd H (by simp)
    rw [if_pos c12] at H
    have LMc12 := AZ.mk c12
    clear c12
    obtain ⟨y369, hy369⟩ : ∃ y_ : List Int, y_ = (x4_1 ++ [x5_1]) := ⟨_, rfl⟩
    replace H : (spec_l01Partners.l0 k1 a0 y366 y369 (wrap64 (x5_1 + 1))) = some r := by first | (rw [hy369]; with_reducible exact H) | (have H2_ := (Option.bind_some _ _).symm.trans H; rw [hy369]; with_reducible exact H2_) | (have H2_ := (Option.bind_some _ _).symm.trans H; with_reducible exact H2_) | with_reducible exact H | (rw [hy369]; exact H) | exact H
    have Ny369 := AZ.mk hy369
    clear hy369
    have H' := AZ.mk H
    clear H
    have p8 : 0 ≤ (x5_1 : Int) := oT (by first | (with_reducible assumption) | assumption)
    have q8 : x5_1 < (a0.size : Int) := oT (by first | (with_reducible assumption) | assumption)
    have hx8 := bt_at a0 x5_1
    replace p8 := eq_true p8
    replace q8 := eq_true q8
    go_wp2_with (first | ((with_reducible refine gate_callee (f := 76) rfl ?_); refine goesL_ (some 22) rfl rfl Try.func76 (by kernel_rfl) rfl #[.int .u8 (bt a0 x5_1)] rfl (by (try simp only [List.map_toArray, List.map_cons, List.map_nil]); first | done | rfl | (simp only [List.length_drop, List.length_take]; rfl)) ?_; (with_reducible refine (spec_l01Call.calls (bt a0 x5_1) true _ A9.out).mono ?_); rintro e w' ⟨rfl, ⟨nd, rfl⟩⟩; refine ⟨_, rfl, ?_⟩) | ((with_reducible refine gate_builtin (b := .append) (xs := #[.tmp 23, .tmp 24]) rfl ?_); (try (refine gate_guard (by rfl) ?_; dsimp only)); at_builtin; refine Kd.R_append (Kd.int .i64) (w0 := w) w.heap.size rfl (.tmp 23) (.tmp 24) 23 2 (.int .i64 0) 8 rfl Try.underlying23 info2 rfl (by decide) (by omega) u3 x3_1 (-2) [.int .i64 (-2)] (fun _ => True) (fun _ => False) rfl rfl ?aP (fun _ hk => hk.elim) ?aF ?aO ?aB ?aS ?aL ?_; (case aP => exact rfl); (case aB => exact (by repeat (first | (with_reducible first | exact HB.out | apply pA | apply pN | apply pD) | exact HB.out))); (case aF => exact (fun _ _ => trivial)); (case aO => exact (by (with_reducible repeat (first | apply Kd.R_alloc | apply Kd.R_drewN | apply Kd.R_drew)); exact HO_3.out)); (case aS => exact (pZ (by repeat (first | (with_reducible first | exact HB.out | apply pA | apply pN | apply pD) | exact HB.out)))); (case aL => have := LMc11.out; omega); intro v367 w13 ho hb hg hat; rw [← Ny366.out] at ho; have n0_ := AZ.mk (Kd.R_over' (by (with_reducible repeat (first | apply Kd.R_alloc | apply Kd.R_drewN | apply Kd.R_drew)); exact HO_4.out) (Kd.R_typed (by (with_reducible repeat (first | apply Kd.R_alloc | apply Kd.R_drewN | apply Kd.R_drew)); exact HO_3.out)) (by decide) hg); have n1_ := AZ.mk (hb); have n2_ := AZ.mk (ho); clear HO_4; clear HB; clear HO_3; have HO_4 := n0_; have HB := n1_; have HO368 := n2_; clear n0_ n1_ n2_; clear ho hb hg hat) | ((with_reducible refine gate_builtin (b := .append) (xs := #[.tmp 26, .tmp 28]) rfl ?_); (try (refine gate_guard (by rfl) ?_; dsimp only)); at_builtin; refine Kd.R_append (Kd.int .i64) (w0 := w) w.heap.size rfl (.tmp 26) (.tmp 28) 99 3 (.int .i64 0) 8 rfl Try.underlying99 info3 rfl (by decide) (by omega) u4 x4_1 x5_1 [.int .i64 x5_1] (fun _ => True) (fun _ => False) rfl rfl ?aP (fun _ hk => hk.elim) ?aF ?aO ?aB ?aS ?aL ?_; (case aP => exact rfl); (case aB => exact (by repeat (first | (with_reducible first | exact HB.out | apply pA | apply pN | apply pD) | exact HB.out))); (case aF => exact (fun _ _ => trivial)); (case aO => exact (by (with_reducible repeat (first | apply Kd.R_alloc | apply Kd.R_drewN | apply Kd.R_drew)); exact HO_4.out)); (case aS => exact (pZ (by repeat (first | (with_reducible first | exact HB.out | apply pA | apply pN | apply pD) | exact HB.out)))); (case aL => have := LMc12.out; omega); intro v370 w14 ho hb hg hat; rw [← Ny369.out] at ho; have n0_ := AZ.mk (Kd.R_over' (by (with_reducible repeat (first | apply Kd.R_alloc | apply Kd.R_drewN | apply Kd.R_drew)); exact HO368.out) (Kd.R_typed (by (with_reducible repeat (first | apply Kd.R_alloc | apply Kd.R_drewN | apply Kd.R_drew)); exact HO_4.out)) (by decide) hg); have n1_ := AZ.mk (hb); have n2_ := AZ.mk (ho); clear HO368; clear HB; clear HO_4; have HO368 := n0_; have HB := n1_; have HO371 := n2_; clear n0_ n1_ n2_; clear ho hb hg hat))
    go_roundg k1
    case measure => have := HK1.out; omega
    case rel => exact ⟨(y366), (y369), (wrap64 (x5_1 + 1)), (by first | rfl | (simp; done) | (simp [*]; done)), H', ⟨by have := HK1.out; omega⟩, ⟨by (with_reducible repeat (first | apply Kd.R_alloc | apply Kd.R_drewN | apply Kd.R_drew)); exact HO368.out⟩, ⟨by (with_reducible repeat (first | apply Kd.R_alloc | apply Kd.R_drewN | apply Kd.R_drew)); exact HO371.out⟩, ⟨by repeat (first | (with_reducible first | exact HB.out | apply pA | apply pN | apply pD) | exact HB.out)⟩⟩
   replace c10 := Bool.eq_false_iff.mpr c10
   subst c10
   have H1 : ((spec_l01Return.f (bt a0 x5_1)).bind fun t372 => (if t372 = true then (spec_l01Partners.j1 k1 a0 x3_1 x4_1 x5_1 (decide ((x4_1.length : Int) > 0))) else (spec_l01Partners.j1 k1 a0 x3_1 x4_1 x5_1 false))) = some r := by rw [if_neg (show ¬ (false = true) by decide)] at H; exact H
   clear H
   have H := H1
   clear H1
   have HC15 := AZ.mk H
   clear H
   have p8 : 0 ≤ (x5_1 : Int) := oT (by first | (with_reducible assumption) | assumption)
   have q8 : x5_1 < (a0.size : Int) := oT (by first | (with_reducible assumption) | assumption)
   have hx8 := bt_at a0 x5_1
   replace p8 := eq_true p8
   replace q8 := eq_true q8
   go_upto_region 10 with (first | ((with_reducible refine gate_callee (f := 76) rfl ?_); refine goesL_ (some 22) rfl rfl Try.func76 (by kernel_rfl) rfl #[.int .u8 (bt a0 x5_1)] rfl (by (try simp only [List.map_toArray, List.map_cons, List.map_nil]); first | done | rfl | (simp only [List.length_drop, List.length_take]; rfl)) ?_; (with_reducible refine (spec_l01Call.calls (bt a0 x5_1) false _ A9.out).mono ?_); rintro e w' ⟨rfl, ⟨nd, rfl⟩⟩; refine ⟨_, rfl, ?_⟩))
   (try simp only [Act.put, sA, sB, sC])
   go_cut [30] (fun v30 wc => ∃ (kq : Nat) (x30_14 : Bool), v30 = .bool x30_14 ∧ AZ (spec_l01Partners.j1 kq a0 x3_1 x4_1 x5_1 x30_14 = some r) ∧ AZ (kq ≤ k1) ∧ AZ (Kd.R (Kd.int .i64) 2 wc w.heap.size (fun _ => True) u3 x3_1) ∧ AZ (Kd.R (Kd.int .i64) 3 wc w.heap.size (fun _ => True) u4 x4_1) ∧ AZ (Below w.heap.size w wc))
   case first =>
    have H := HC15.out
    clear HC15
    replace H := Option.bind_eq_some_iff.mp H
    obtain ⟨t372, A170, H⟩ := H
    replace H : (if t372 = true then (spec_l01Partners.j1 k1 a0 x3_1 x4_1 x5_1 (decide ((x4_1.length : Int) > 0))) else (spec_l01Partners.j1 k1 a0 x3_1 x4_1 x5_1 false)) = some r := H
    have A17 := AZ.mk A170
    clear A170
    by_cases c18 : t372 = true
    rotate_left
    ·replace c18 := Bool.eq_false_iff.mpr c18
     subst c18
     have H1 : (spec_l01Partners.j1 k1 a0 x3_1 x4_1 x5_1 false) = some r := by rw [if_neg (show ¬ (false = true) by decide)] at H; exact H
     clear H
     have H := H1
     clear H1
     have H' := AZ.mk H
     clear H
     have p16 : 0 ≤ (x5_1 : Int) := oT (by first | (with_reducible assumption) | assumption)
     have q16 : x5_1 < (a0.size : Int) := oT (by first | (with_reducible assumption) | assumption)
     have hx16 := bt_at a0 x5_1
     replace p16 := eq_true p16
     replace q16 := eq_true q16
     go_wp2_with (first | ((with_reducible refine gate_callee (f := 82) rfl ?_); refine goesL_ (some 34) rfl rfl Try.func82 (by kernel_rfl) rfl #[.int .u8 (bt a0 x5_1)] rfl (by (try simp only [List.map_toArray, List.map_cons, List.map_nil]); first | done | rfl | (simp only [List.length_drop, List.length_take]; rfl)) ?_; (with_reducible refine (spec_l01Return.calls (bt a0 x5_1) false _ A17.out).mono ?_); rintro e w' ⟨rfl, ⟨nd, rfl⟩⟩; refine ⟨_, rfl, ?_⟩))
     go_meet
     case rel => exact ⟨_, (false), (by first | rfl | (simp; done) | (simp [*]; done)), H', ⟨by have := HK1.out; first | omega | exact Nat.le_refl _⟩, ⟨by (with_reducible repeat (first | apply Kd.R_alloc | apply Kd.R_drewN | apply Kd.R_drew)); exact HO_3.out⟩, ⟨by (with_reducible repeat (first | apply Kd.R_alloc | apply Kd.R_drewN | apply Kd.R_drew)); exact HO_4.out⟩, ⟨by repeat (first | (with_reducible first | exact HB.out | apply pA | apply pN | apply pD) | exact HB.out)⟩⟩
    subst c18
    have H1 : (spec_l01Partners.j1 k1 a0 x3_1 x4_1 x5_1 (decide ((x4_1.length : Int) > 0))) = some r := by rw [if_pos rfl] at H; exact H
    clear H
    have H := H1
    clear H1
    have H' := AZ.mk H
    clear H
    have p16 : 0 ≤ (x5_1 : Int) := oT (by first | (with_reducible assumption) | assumption)
    have q16 : x5_1 < (a0.size : Int) := oT (by first | (with_reducible assumption) | assumption)
    have hx16 := bt_at a0 x5_1
    replace p16 := eq_true p16
    replace q16 := eq_true q16
    go_wp2_with (first | ((with_reducible refine gate_callee (f := 82) rfl ?_); refine goesL_ (some 34) rfl rfl Try.func82 (by kernel_rfl) rfl #[.int .u8 (bt a0 x5_1)] rfl (by (try simp only [List.map_toArray, List.map_cons, List.map_nil]); first | done | rfl | (simp only [List.length_drop, List.length_take]; rfl)) ?_; (with_reducible refine (spec_l01Return.calls (bt a0 x5_1) true _ A17.out).mono ?_); rintro e w' ⟨rfl, ⟨nd, rfl⟩⟩; refine ⟨_, rfl, ?_⟩; obtain ⟨Ao19, co19, eo19⟩ := Kd.R_slice HO_4.out; subst eo19))
    go_meet
    case rel => exact ⟨_, (decide ((x4_1.length : Int) > 0)), (by first | rfl | (simp; done) | (simp [*]; done)), H', ⟨by have := HK1.out; first | omega | exact Nat.le_refl _⟩, ⟨by (with_reducible repeat (first | apply Kd.R_alloc | apply Kd.R_drewN | apply Kd.R_drew)); exact HO_3.out⟩, ⟨by (with_reducible repeat (first | apply Kd.R_alloc | apply Kd.R_drewN | apply Kd.R_drew)); exact HO_4.out⟩, ⟨by repeat (first | (with_reducible first | exact HB.out | apply pA | apply pN | apply pD) | exact HB.out)⟩⟩
   case rest =>
    clear HC15
    try clear c1
    try clear p1
    try clear q1
    try clear hx1
    try clear p2
    try clear c6
    try clear c6b0
    try clear p6
    try clear c7
    try clear c7b0
    try clear c8
    try clear p8
    try clear q8
    try clear hx8
    try clear c10
    try clear c11
    try clear c12
    try clear p16
    try clear q16
    try clear hx16
    try clear c18
    try clear p16
    try clear p2
    try clear p8
    try clear q16
    try clear q8
    obtain ⟨kq, x30_14, rfl, HA, HJ14, HO_3, HO_4, HB⟩ := hcut
    cases kq with
    | zero => exact absurd HA.out (by simp [spec_l01Partners.j1])
    | succ kj14 =>
     have H := HA.out
     clear HA
     simp only [spec_l01Partners.j1] at H
     by_cases c20 : x30_14 = true
     rotate_left
     ·replace c20 := Bool.eq_false_iff.mpr c20
      subst c20
      have H1 : (if 0 ≤ x5_1 then (if x5_1 < (a0.size : Int) then ((spec_l01Return.f (bt a0 x5_1)).bind fun t381 => (if t381 = true then (if x3_1.length < 17592186044416 then (spec_l01Partners.l0 kj14 a0 (x3_1 ++ [(-2)]) x4_1 (wrap64 (x5_1 + 1))) else (none)) else (if x3_1.length < 17592186044416 then (spec_l01Partners.l0 kj14 a0 (x3_1 ++ [(-1)]) x4_1 (wrap64 (x5_1 + 1))) else (none)))) else (none)) else (none)) = some r := by rw [if_neg (show ¬ (false = true) by decide)] at H; exact H
      clear H
      have H := H1
      clear H1
      by_cases c34 : 0 ≤ x5_1
      rotate_left
      ·rw [if_neg c34] at H
       exact absurd H (by simp)
      rw [if_pos c34] at H
      have c34b0 : decide (0 ≤ x5_1) = true := decide_eq_true c34
      clear c34
      by_cases c35 : x5_1 < (a0.size : Int)
      rotate_left
      ·rw [if_neg c35] at H
       exact absurd H (by simp)
      rw [if_pos c35] at H
      have c35b0 : decide (x5_1 < (a0.size : Int)) = true := decide_eq_true c35
      clear c35
      replace H := Option.bind_eq_some_iff.mp H
      obtain ⟨t381, A370, H⟩ := H
      replace H : (if t381 = true then (if x3_1.length < 17592186044416 then (spec_l01Partners.l0 kj14 a0 (x3_1 ++ [(-2)]) x4_1 (wrap64 (x5_1 + 1))) else (none)) else (if x3_1.length < 17592186044416 then (spec_l01Partners.l0 kj14 a0 (x3_1 ++ [(-1)]) x4_1 (wrap64 (x5_1 + 1))) else (none))) = some r := H
      have A37 := AZ.mk A370
      clear A370
      by_cases c38 : t381 = true
      ·subst c38
       have H1 : (if x3_1.length < 17592186044416 then (spec_l01Partners.l0 kj14 a0 (x3_1 ++ [(-2)]) x4_1 (wrap64 (x5_1 + 1))) else (none)) = some r := by rw [if_pos rfl] at H; exact H
       clear H
       have H := H1
       clear H1
       by_cases c39 : x3_1.length < 17592186044416
       rotate_left
       ·rw [if_neg c39] at H
        exact absurd H (by simp)
       rw [if_pos c39] at H
       have LMc39 := AZ.mk c39
       clear c39
       obtain ⟨y382, hy382⟩ : ∃ y_ : List Int, y_ = (x3_1 ++ [(-2)]) := ⟨_, rfl⟩
       replace H : (spec_l01Partners.l0 kj14 a0 y382 x4_1 (wrap64 (x5_1 + 1))) = some r := by first | (rw [hy382]; with_reducible exact H) | (have H2_ := (Option.bind_some _ _).symm.trans H; rw [hy382]; with_reducible exact H2_) | (have H2_ := (Option.bind_some _ _).symm.trans H; with_reducible exact H2_) | with_reducible exact H | (rw [hy382]; exact H) | exact H
       have Ny382 := AZ.mk hy382
       clear hy382
       have H' := AZ.mk H
       clear H
       have p36 : 0 ≤ (x5_1 : Int) := oT (by first | (with_reducible assumption) | assumption)
       have q36 : x5_1 < (a0.size : Int) := oT (by first | (with_reducible assumption) | assumption)
       have hx36 := bt_at a0 x5_1
       replace p36 := eq_true p36
       replace q36 := eq_true q36
       go_wp2_with (first | ((with_reducible refine gate_callee (f := 82) rfl ?_); refine goesL_ (some 63) rfl rfl Try.func82 (by kernel_rfl) rfl #[.int .u8 (bt a0 x5_1)] rfl (by (try simp only [List.map_toArray, List.map_cons, List.map_nil]); first | done | rfl | (simp only [List.length_drop, List.length_take]; rfl)) ?_; (with_reducible refine (spec_l01Return.calls (bt a0 x5_1) true _ A37.out).mono ?_); rintro e w' ⟨rfl, ⟨nd, rfl⟩⟩; refine ⟨_, rfl, ?_⟩) | ((with_reducible refine gate_builtin (b := .append) (xs := #[.tmp 64, .tmp 65]) rfl ?_); (try (refine gate_guard (by rfl) ?_; dsimp only)); at_builtin; refine Kd.R_append (Kd.int .i64) (w0 := w) w.heap.size rfl (.tmp 64) (.tmp 65) 23 2 (.int .i64 0) 8 rfl Try.underlying23 info2 rfl (by decide) (by omega) u3 x3_1 (-2) [.int .i64 (-2)] (fun _ => True) (fun _ => False) rfl rfl ?aP (fun _ hk => hk.elim) ?aF ?aO ?aB ?aS ?aL ?_; (case aP => exact rfl); (case aB => exact (by repeat (first | (with_reducible first | exact HB.out | apply pA | apply pN | apply pD) | exact HB.out))); (case aF => exact (fun _ _ => trivial)); (case aO => exact (by (with_reducible repeat (first | apply Kd.R_alloc | apply Kd.R_drewN | apply Kd.R_drew)); exact HO_3.out)); (case aS => exact (pZ (by repeat (first | (with_reducible first | exact HB.out | apply pA | apply pN | apply pD) | exact HB.out)))); (case aL => have := LMc39.out; omega); intro v383 w40 ho hb hg hat; rw [← Ny382.out] at ho; have n0_ := AZ.mk (Kd.R_over' (by (with_reducible repeat (first | apply Kd.R_alloc | apply Kd.R_drewN | apply Kd.R_drew)); exact HO_4.out) (Kd.R_typed (by (with_reducible repeat (first | apply Kd.R_alloc | apply Kd.R_drewN | apply Kd.R_drew)); exact HO_3.out)) (by decide) hg); have n1_ := AZ.mk (hb); have n2_ := AZ.mk (ho); clear HO_4; clear HB; clear HO_3; have HO_4 := n0_; have HB := n1_; have HO384 := n2_; clear n0_ n1_ n2_; clear ho hb hg hat))
       go_roundg kj14
       case measure => have := HK1.out; have := HJ14.out; omega
       case rel => exact ⟨(y382), (x4_1), (wrap64 (x5_1 + 1)), (by first | rfl | (simp; done) | (simp [*]; done)), H', ⟨by have := HK1.out; have := HJ14.out; omega⟩, ⟨by (with_reducible repeat (first | apply Kd.R_alloc | apply Kd.R_drewN | apply Kd.R_drew)); exact HO384.out⟩, ⟨by (with_reducible repeat (first | apply Kd.R_alloc | apply Kd.R_drewN | apply Kd.R_drew)); exact HO_4.out⟩, ⟨by repeat (first | (with_reducible first | exact HB.out | apply pA | apply pN | apply pD) | exact HB.out)⟩⟩
      replace c38 := Bool.eq_false_iff.mpr c38
      subst c38
      have H1 : (if x3_1.length < 17592186044416 then (spec_l01Partners.l0 kj14 a0 (x3_1 ++ [(-1)]) x4_1 (wrap64 (x5_1 + 1))) else (none)) = some r := by rw [if_neg (show ¬ (false = true) by decide)] at H; exact H
      clear H
      have H := H1
      clear H1
      by_cases c41 : x3_1.length < 17592186044416
      rotate_left
      ·rw [if_neg c41] at H
       exact absurd H (by simp)
      rw [if_pos c41] at H
      have LMc41 := AZ.mk c41
      clear c41
      obtain ⟨y385, hy385⟩ : ∃ y_ : List Int, y_ = (x3_1 ++ [(-1)]) := ⟨_, rfl⟩
      replace H : (spec_l01Partners.l0 kj14 a0 y385 x4_1 (wrap64 (x5_1 + 1))) = some r := by first | (rw [hy385]; with_reducible exact H) | (have H2_ := (Option.bind_some _ _).symm.trans H; rw [hy385]; with_reducible exact H2_) | (have H2_ := (Option.bind_some _ _).symm.trans H; with_reducible exact H2_) | with_reducible exact H | (rw [hy385]; exact H) | exact H
      have Ny385 := AZ.mk hy385
      clear hy385
      have H' := AZ.mk H
      clear H
      have p36 : 0 ≤ (x5_1 : Int) := oT (by first | (with_reducible assumption) | assumption)
      have q36 : x5_1 < (a0.size : Int) := oT (by first | (with_reducible assumption) | assumption)
      have hx36 := bt_at a0 x5_1
      replace p36 := eq_true p36
      replace q36 := eq_true q36
      go_wp2_with (first | ((with_reducible refine gate_callee (f := 82) rfl ?_); refine goesL_ (some 63) rfl rfl Try.func82 (by kernel_rfl) rfl #[.int .u8 (bt a0 x5_1)] rfl (by (try simp only [List.map_toArray, List.map_cons, List.map_nil]); first | done | rfl | (simp only [List.length_drop, List.length_take]; rfl)) ?_; (with_reducible refine (spec_l01Return.calls (bt a0 x5_1) false _ A37.out).mono ?_); rintro e w' ⟨rfl, ⟨nd, rfl⟩⟩; refine ⟨_, rfl, ?_⟩) | ((with_reducible refine gate_builtin (b := .append) (xs := #[.tmp 15, .tmp 16]) rfl ?_); (try (refine gate_guard (by rfl) ?_; dsimp only)); at_builtin; refine Kd.R_append (Kd.int .i64) (w0 := w) w.heap.size rfl (.tmp 15) (.tmp 16) 23 2 (.int .i64 0) 8 rfl Try.underlying23 info2 rfl (by decide) (by omega) u3 x3_1 (-1) [.int .i64 (-1)] (fun _ => True) (fun _ => False) rfl rfl ?aP (fun _ hk => hk.elim) ?aF ?aO ?aB ?aS ?aL ?_; (case aP => exact rfl); (case aB => exact (by repeat (first | (with_reducible first | exact HB.out | apply pA | apply pN | apply pD) | exact HB.out))); (case aF => exact (fun _ _ => trivial)); (case aO => exact (by (with_reducible repeat (first | apply Kd.R_alloc | apply Kd.R_drewN | apply Kd.R_drew)); exact HO_3.out)); (case aS => exact (pZ (by repeat (first | (with_reducible first | exact HB.out | apply pA | apply pN | apply pD) | exact HB.out)))); (case aL => have := LMc41.out; omega); intro v386 w42 ho hb hg hat; rw [← Ny385.out] at ho; have n0_ := AZ.mk (Kd.R_over' (by (with_reducible repeat (first | apply Kd.R_alloc | apply Kd.R_drewN | apply Kd.R_drew)); exact HO_4.out) (Kd.R_typed (by (with_reducible repeat (first | apply Kd.R_alloc | apply Kd.R_drewN | apply Kd.R_drew)); exact HO_3.out)) (by decide) hg); have n1_ := AZ.mk (hb); have n2_ := AZ.mk (ho); clear HO_4; clear HB; clear HO_3; have HO_4 := n0_; have HB := n1_; have HO387 := n2_; clear n0_ n1_ n2_; clear ho hb hg hat))
      go_roundg kj14
      case measure => have := HK1.out; have := HJ14.out; omega
      case rel => exact ⟨(y385), (x4_1), (wrap64 (x5_1 + 1)), (by first | rfl | (simp; done) | (simp [*]; done)), H', ⟨by have := HK1.out; have := HJ14.out; omega⟩, ⟨by (with_reducible repeat (first | apply Kd.R_alloc | apply Kd.R_drewN | apply Kd.R_drew)); exact HO387.out⟩, ⟨by (with_reducible repeat (first | apply Kd.R_alloc | apply Kd.R_drewN | apply Kd.R_drew)); exact HO_4.out⟩, ⟨by repeat (first | (with_reducible first | exact HB.out | apply pA | apply pN | apply pD) | exact HB.out)⟩⟩
     subst c20
     have H1 : (if 0 ≤ (wrap64 ((x4_1.length : Int) - 1)) then (if (wrap64 ((x4_1.length : Int) - 1)) < (x4_1.length : Int) then (if (wrap64 ((x4_1.length : Int) - 1)) ≤ (x4_1.length : Int) then (if 0 ≤ (rd x4_1 (wrap64 ((x4_1.length : Int) - 1))) then (if (rd x4_1 (wrap64 ((x4_1.length : Int) - 1))) < (x3_1.length : Int) then ((some (x3_1.set ((rd x4_1 (wrap64 ((x4_1.length : Int) - 1))) : Int).toNat x5_1 : List Int)).bind fun y377 => (if y377.length < 17592186044416 then (spec_l01Partners.l0 kj14 a0 (y377 ++ [rd x4_1 (wrap64 ((x4_1.length : Int) - 1))]) (x4_1.take ((wrap64 ((x4_1.length : Int) - 1)) : Int).toNat) (wrap64 (x5_1 + 1))) else (none))) else (none)) else (none)) else (none)) else (none)) else (none)) = some r := by rw [if_pos rfl] at H; exact H
     clear H
     have H := H1
     clear H1
     obtain ⟨ji21, hji21⟩ : ∃ j_ : Int, (wrap64 ((x4_1.length : Int) - 1)) = j_ := ⟨_, rfl⟩
     replace H : (if 0 ≤ (ji21) then (if (ji21) < (x4_1.length : Int) then (if (ji21) ≤ (x4_1.length : Int) then (if 0 ≤ (rd x4_1 (ji21)) then (if (rd x4_1 (ji21)) < (x3_1.length : Int) then ((some (x3_1.set ((rd x4_1 (ji21)) : Int).toNat x5_1 : List Int)).bind fun y377 => (if y377.length < 17592186044416 then (spec_l01Partners.l0 kj14 a0 (y377 ++ [rd x4_1 (ji21)]) (x4_1.take ((ji21) : Int).toNat) (wrap64 (x5_1 + 1))) else (none))) else (none)) else (none)) else (none)) else (none)) else (none)) = some r := by first | (rw [hji21] at H; exact H) | (simp only [hji21] at H ⊢; exact H)
     have hji21w : (IntKind.i64.wrap ((x4_1.length : Int) - 1)) = ji21 := (i64_w _).trans hji21
     by_cases c22 : 0 ≤ (ji21)
     rotate_left
     ·rw [if_neg c22] at H
      exact absurd H (by simp)
     rw [if_pos c22] at H
     have c22b0 : decide (0 ≤ (ji21)) = true := decide_eq_true c22
     clear c22
     by_cases c23 : (ji21) < (x4_1.length : Int)
     rotate_left
     ·rw [if_neg c23] at H
      exact absurd H (by simp)
     rw [if_pos c23] at H
     have c23b0 : decide ((ji21) < (x4_1.length : Int)) = true := decide_eq_true c23
     clear c23
     by_cases c24 : (ji21) ≤ (x4_1.length : Int)
     rotate_left
     ·rw [if_neg c24] at H
      exact absurd H (by simp)
     rw [if_pos c24] at H
     have c24b0 := eq_true c24
     have c24b1 : decide ((ji21) ≤ (x4_1.length : Int)) = true := decide_eq_true c24
     clear c24
     obtain ⟨y374, hy374⟩ : ∃ y_ : List Int, y_ = (x4_1.take ((ji21) : Int).toNat) := ⟨_, rfl⟩
     replace H : (if 0 ≤ (rd x4_1 (ji21)) then (if (rd x4_1 (ji21)) < (x3_1.length : Int) then ((some (x3_1.set ((rd x4_1 (ji21)) : Int).toNat x5_1 : List Int)).bind fun y377 => (if y377.length < 17592186044416 then (spec_l01Partners.l0 kj14 a0 (y377 ++ [rd x4_1 (ji21)]) y374 (wrap64 (x5_1 + 1))) else (none))) else (none)) else (none)) = some r := by first | (rw [hy374]; with_reducible exact H) | (have H2_ := (Option.bind_some _ _).symm.trans H; rw [hy374]; with_reducible exact H2_) | (have H2_ := (Option.bind_some _ _).symm.trans H; with_reducible exact H2_) | with_reducible exact H | (rw [hy374]; exact H) | exact H
     have Ny374 := AZ.mk hy374
     clear hy374
     by_cases c25 : 0 ≤ (rd x4_1 (ji21))
     rotate_left
     ·rw [if_neg c25] at H
      exact absurd H (by simp)
     rw [if_pos c25] at H
     have c25b0 : decide (0 ≤ (rd x4_1 (ji21))) = true := decide_eq_true c25
     clear c25
     by_cases c26 : (rd x4_1 (ji21)) < (x3_1.length : Int)
     rotate_left
     ·rw [if_neg c26] at H
      exact absurd H (by simp)
     rw [if_pos c26] at H
     have c26b0 : decide ((rd x4_1 (ji21)) < (x3_1.length : Int)) = true := decide_eq_true c26
     clear c26
     obtain ⟨y377, hy377⟩ : ∃ y_ : List Int, y_ = (x3_1.set ((rd x4_1 (ji21)) : Int).toNat x5_1) := ⟨_, rfl⟩
     replace H : (if y377.length < 17592186044416 then (spec_l01Partners.l0 kj14 a0 (y377 ++ [rd x4_1 (ji21)]) y374 (wrap64 (x5_1 + 1))) else (none)) = some r := by first | (rw [hy377]; with_reducible exact H) | (have H2_ := (Option.bind_some _ _).symm.trans H; rw [hy377]; with_reducible exact H2_) | (have H2_ := (Option.bind_some _ _).symm.trans H; with_reducible exact H2_) | with_reducible exact H | (rw [hy377]; exact H) | exact H
     have Ny377 := AZ.mk hy377
     clear hy377
     by_cases c28 : y377.length < 17592186044416
     rotate_left
     ·rw [if_neg c28] at H
      exact absurd H (by simp)
     rw [if_pos c28] at H
     have LMc28 := AZ.mk c28
     clear c28
     obtain ⟨y378, hy378⟩ : ∃ y_ : List Int, y_ = (y377 ++ [rd x4_1 (ji21)]) := ⟨_, rfl⟩
     replace H : (spec_l01Partners.l0 kj14 a0 y378 y374 (wrap64 (x5_1 + 1))) = some r := by first | (rw [hy378]; with_reducible exact H) | (have H2_ := (Option.bind_some _ _).symm.trans H; rw [hy378]; with_reducible exact H2_) | (have H2_ := (Option.bind_some _ _).symm.trans H; with_reducible exact H2_) | with_reducible exact H | (rw [hy378]; exact H) | exact H
     have Ny378 := AZ.mk hy378
     clear hy378
     have H' := AZ.mk H
     clear H
     obtain ⟨Ao29, co29, eo29⟩ := Kd.R_slice HO_4.out
     subst eo29
     have p373 : 0 ≤ ((ji21) : Int) := oT (by first | (with_reducible assumption) | assumption)
     have q373 : (ji21) < (x4_1.length : Int) := oT (by first | (with_reducible assumption) | assumption)
     obtain ⟨ad373, e373, hx373_0⟩ := Kd.at_int (Kd.R_reads' HO_4.out).2.2 (ji21) p373 q373
     cases e373
     replace p373 := eq_true p373
     replace q373 := eq_true q373
     have q30 : ((ji21) : Int) ≤ ((x4_1.length : Int) : Int) := oT (by first | (with_reducible assumption) | assumption)
     obtain ⟨i030, hi030, _, hsz30, _⟩ := info_parts info3
     have hcut30 := cut_to (P := Try.prog) 99 3 .i64 Try.underlying99 hi030 (some ad373) x4_1.length co29 (ji21) (oT (by first | (with_reducible assumption) | assumption)) q30 (Kd.R_reads' HO_4.out).2.1
     have hr30 := Kd.R_take (m := ((ji21) : Int).toNat) HO_4.out (by omega)
     have hy30 : y374.length = ((ji21) : Int).toNat := (by rw [Ny374.out, List.length_take]; omega)
     rw [← Ny374.out] at hr30
     rw [← hy30] at hr30 hcut30
     clear hy30 hi030 hsz30 HO_4
     have HO376 := AZ.mk hr30
     clear hr30
     replace q30 := eq_true q30
     have p27 : 0 ≤ ((rd x4_1 (ji21)) : Int) := oT (by first | (with_reducible assumption) | assumption)
     have q27 : ((rd x4_1 (ji21)) : Int) < ((x3_1.length : Int) : Int) := oT (by first | (with_reducible assumption) | assumption)
     obtain ⟨go27, co27, eo27, gb27, gl27, cl27, HG27⟩ := Kd.R_form HO_3.out (by omega)
     (first | cases eo27 | (injection eo27 with ea_ en_ ec_; (first | subst ea_ | (injection ea_ with ea_; subst ea_)); subst ec_; clear en_))
     have GB27 := AZ.mk gb27
     have GG27 := AZ.mk HG27
     clear gb27 gl27 HG27
     obtain ⟨hx27_0, hf27_0⟩ := Kd.R_celln 0 HO_3.out ((rd x4_1 (ji21)) : Int) p27 q27
     replace p27 := eq_true p27
     replace q27 := eq_true q27
     have HP31 := Kd.R_putg HO_3.out ((rd x4_1 (ji21)) : Int) x5_1
     go_wp2_with (first | ((with_reducible refine gate_store (t := 2) (p := 54) rfl ?_); refine store_event (t := 2) (p := 54) (v := ?vo_w32) (w1 := (wc.setCell ⟨go27, ((rd x4_1 (ji21)) : Int).toNat, none⟩ (.int .i64 x5_1))) ?hg ?ho ?hn ?hr ?_; (case ho => rfl); (case hg => rfl); (case hn => rfl); (case hr => first | (go_simp; done) | (go_simp; rfl)); intro w32 hw; have hg : wc.grownBy w32 (some go27) := (by rw [hw]; exact HP31.2); have hp_ : Kd.R (Kd.int .i64) 2 w32 w.heap.size (fun _ => True) (.slice (some ⟨go27, 0, none⟩) x3_1.length co27) y377 := (by rw [hw, Ny377.out]; exact HP31.1); clear HP31; have n0_ := AZ.mk (hp_); have n1_ := AZ.mk (Kd.R_over' (v := (.slice (some ⟨go27, 0, none⟩) x3_1.length co27)) (by (with_reducible repeat (first | apply Kd.R_alloc | apply Kd.R_drewN | apply Kd.R_drew)); exact HO376.out) (Kd.R_typed HO_3.out) (by decide) hg); have n2_ := AZ.mk ((by rw [hw]; exact pS (HB.out) GB27.out : Below w.heap.size w w32)); clear HO_3; clear HO376; clear HB; have HO_3 := n0_; have HO376 := n1_; have HB := n2_; clear n0_ n1_ n2_; clear hg hw hp_) | ((with_reducible refine gate_builtin (b := .append) (xs := #[.tmp 55, .tmp 57]) rfl ?_); (try (refine gate_guard (by rfl) ?_; dsimp only)); at_builtin; refine Kd.R_append (Kd.int .i64) (w0 := w) w.heap.size rfl (.tmp 55) (.tmp 57) 23 2 (.int .i64 0) 8 rfl Try.underlying23 info2 rfl (by decide) (by omega) (.slice (some ⟨go27, 0, none⟩) x3_1.length co27) y377 (rd x4_1 (ji21)) [.int .i64 (rd x4_1 (ji21))] (fun _ => True) (fun _ => False) rfl rfl ?aP (fun _ hk => hk.elim) ?aF ?aO ?aB ?aS ?aL ?_; (case aP => exact rfl); (case aB => exact (by repeat (first | (with_reducible first | exact HB.out | apply pA | apply pN | apply pD) | exact HB.out))); (case aF => exact (fun _ _ => trivial)); (case aO => exact (by (with_reducible repeat (first | apply Kd.R_alloc | apply Kd.R_drewN | apply Kd.R_drew)); exact HO_3.out)); (case aS => exact (pZ (by repeat (first | (with_reducible first | exact HB.out | apply pA | apply pN | apply pD) | exact HB.out)))); (case aL => have := LMc28.out; omega); intro v379 w33 ho hb hg hat; rw [← Ny378.out] at ho; have n0_ := AZ.mk (Kd.R_over' (by (with_reducible repeat (first | apply Kd.R_alloc | apply Kd.R_drewN | apply Kd.R_drew)); exact HO376.out) (Kd.R_typed (by (with_reducible repeat (first | apply Kd.R_alloc | apply Kd.R_drewN | apply Kd.R_drew)); exact HO_3.out)) (by decide) hg); have n1_ := AZ.mk (hb); have n2_ := AZ.mk (ho); clear HO376; clear HB; clear HO_3; have HO376 := n0_; have HB := n1_; have HO380 := n2_; clear n0_ n1_ n2_; clear ho hb hg hat))
     go_roundg kj14
     case measure => have := HK1.out; have := HJ14.out; omega
     case rel => exact ⟨(y378), (y374), (wrap64 (x5_1 + 1)), (by first | rfl | (simp; done) | (simp [*]; done)), H', ⟨by have := HK1.out; have := HJ14.out; omega⟩, ⟨by (with_reducible repeat (first | apply Kd.R_alloc | apply Kd.R_drewN | apply Kd.R_drew)); exact HO380.out⟩, ⟨by (with_reducible repeat (first | apply Kd.R_alloc | apply Kd.R_drewN | apply Kd.R_drew)); exact HO376.out⟩, ⟨by repeat (first | (with_reducible first | exact HB.out | apply pA | apply pN | apply pD) | exact HB.out)⟩⟩
end Go.Proofs.Ytgfilbgjnloopaa.P
namespace Go.Proofs.Ytgfilbgjnloopaa.P
open Go.RowKit Go.Proofs.YtgfilbgjnloopaaW.PrintWords Go.Proofs.YtgfilbgjnloopaaW.PrintLast Go.Proofs.YtgfilbgjnloopaaW.PrintMore
attribute [local go_sem] max2_int min2_int max_two min_two max_three min_three max_four min_four
set_option linter.unusedVariables false
set_option linter.unusedSimpArgs false
mutual
def spec_l01Pending.l0 : Nat → ByteArray → List Int → Int → Int → Int → Option (Int × Int)
 | 0, _, _, _, _, _ => none
 | k + 1, x0, x4, x5, x6, x7 => if x7 < (x0.size : Int) then (if 0 ≤ x7 then (if x7 < (x4.length : Int) then (if (rd x4 x7) = (-2) then ((spec_l01Return.f (bt x0 x7)).bind fun t392 => (spec_l01Pending.j1 k x0 x4 x5 x6 x7 t392)) else (spec_l01Pending.j1 k x0 x4 x5 x6 x7 false)) else (none)) else (none)) else (some (x5, x6))
def spec_l01Pending.j1 : Nat → ByteArray → List Int → Int → Int → Int → Bool → Option (Int × Int)
 | 0, _, _, _, _, _, _ => none
 | k + 1, x0, x4, x5, x6, x7, x26 => if x26 = true then (if 0 ≤ x7 then (if x7 < (x4.length : Int) then (if (rd x4 x7) = (-2) then (if x7 < (x0.size : Int) then ((spec_l01Call.f (bt x0 x7)).bind fun t394 => (if t394 = true then (spec_l01Pending.l0 k x0 x4 (wrap64 (x5 + 1)) (wrap64 (x6 + 1)) (wrap64 (x7 + 1))) else (spec_l01Pending.l0 k x0 x4 (wrap64 (x5 + 1)) x6 (wrap64 (x7 + 1))))) else (none)) else (spec_l01Pending.l0 k x0 x4 (wrap64 (x5 + 1)) x6 (wrap64 (x7 + 1)))) else (none)) else (none)) else (if 0 ≤ x7 then (if x7 < (x4.length : Int) then (if (rd x4 x7) = (-2) then (if x7 < (x0.size : Int) then ((spec_l01Call.f (bt x0 x7)).bind fun t396 => (if t396 = true then (spec_l01Pending.l0 k x0 x4 x5 (wrap64 (x6 + 1)) (wrap64 (x7 + 1))) else (spec_l01Pending.l0 k x0 x4 x5 x6 (wrap64 (x7 + 1))))) else (none)) else (spec_l01Pending.l0 k x0 x4 x5 x6 (wrap64 (x7 + 1)))) else (none)) else (none))
end
def spec_l01Pending.f (k : Nat) (a0 : ByteArray) : Option (Int × Int) := (spec_l01Partners.f k a0).bind fun t388 => (spec_l01Pending.l0 k a0 t388 0 0 0)
set_option maxHeartbeats 8000000 in
set_option maxRecDepth 100000 in
theorem spec_l01Pending.calls (k : Nat) (a0 : ByteArray) (r1 : Int) (r2 : Int) (w : World) (h : spec_l01Pending.f k a0 = some (r1, r2)) :
  Calls Try.prog 74 #[.string a0] w fun e w' => e = .returned (.tuple #[.int .i64 r1, .int .i64 r2]) ∧ Below w.heap.size w w' := by
 have HB := AZ.mk (Below.refl w.heap.size w)
 have H : ((spec_l01Partners.f k a0).bind fun t388 => (spec_l01Pending.l0 k a0 t388 0 0 0)) = some (r1, r2) := h
 clear h
 replace H := Option.bind_eq_some_iff.mp H
 obtain ⟨t388, A20, H⟩ := H
 replace H : (spec_l01Pending.l0 k a0 t388 0 0 0) = some (r1, r2) := H
 have A2 := AZ.mk A20
 clear A20
 have H' := AZ.mk H
 clear H
 go_enter Try.func74, Try.ntmps74
 go_wp2_with (first | ((with_reducible refine gate_callee (f := 75) rfl ?_); refine goesL_ (some 9) rfl rfl Try.func75 (by kernel_rfl) rfl #[.string a0] rfl (by (try simp only [List.map_toArray, List.map_cons, List.map_nil]); first | done | rfl | (simp only [List.length_drop, List.length_take]; rfl)) ?_; (with_reducible refine (spec_l01Partners.calls k a0 t388 _ A2.out).mono ?_); rintro e w3 ⟨v389, rfl, ho0, hb⟩; refine ⟨_, rfl, ?_⟩; have n0_ := AZ.mk (Kd.R_lower ho0 (pZ (by repeat (first | (with_reducible first | exact HB.out | apply pA | apply pN | apply pD) | exact HB.out)))); have n1_ := AZ.mk (pT (by repeat (first | (with_reducible first | exact HB.out | apply pA | apply pN | apply pD) | exact HB.out)) hb); clear HB; have HO390 := n0_; have HB := n1_; clear n0_ n1_; (try clear hb); (try clear hb2); (try clear hk); (try clear hi); (try clear ho0)))
 go_loopg [5, 6, 7] k (fun kq v5 v6 v7 w' => ∃ (x5_1 : Int) (x6_1 : Int) (x7_1 : Int), v5 = .int .i64 x5_1 ∧ v6 = .int .i64 x6_1 ∧ v7 = .int .i64 x7_1 ∧ AZ (spec_l01Pending.l0 kq a0 t388 x5_1 x6_1 x7_1 = some (r1, r2)) ∧ AZ (kq ≤ k) ∧ AZ (Kd.R (Kd.int .i64) 2 w' w.heap.size (fun _ => True) v389 t388) ∧ AZ (Below w.heap.size w w'))
 case atStart => exact ⟨(0), (0), (0), (by first | rfl | (simp; done) | (simp [*]; done)), (by first | rfl | (simp; done) | (simp [*]; done)), (by first | rfl | (simp; done) | (simp [*]; done)), H', ⟨Nat.le_refl _⟩, ⟨by (with_reducible repeat (first | apply Kd.R_alloc | apply Kd.R_drewN | apply Kd.R_drew)); exact HO390.out⟩, ⟨by repeat (first | (with_reducible first | exact HB.out | apply pA | apply pN | apply pD) | exact HB.out)⟩⟩
 case round =>
  clear H'
  try clear p2
  obtain ⟨x5_1, x6_1, x7_1, rfl, rfl, rfl, HA, HK1, HO_4, HB⟩ := hrel
  cases gk with
  | zero => exact absurd HA.out (by simp [spec_l01Pending.l0])
  | succ k1 =>
   have H := HA.out
   clear HA
   simp only [spec_l01Pending.l0] at H
   by_cases c4 : x7_1 < (a0.size : Int)
   rotate_left
   ·rw [if_neg c4] at H
    have c4b0 : decide (x7_1 < (a0.size : Int)) = false := decide_eq_false c4
    clear c4
    simp only [Option.some.injEq, Prod.mk.injEq] at H
    obtain ⟨rfl, rfl⟩ := H
    go_wp2
    go_ret2
    exact ⟨by first | rfl | (simp [errW_none, errW_some] <;> rfl) | (simp [*, errW_none, errW_some] <;> rfl), by repeat (first | (with_reducible first | exact HB.out | apply pA | apply pN | apply pD) | exact HB.out)⟩
   rw [if_pos c4] at H
   have c4b0 : decide (x7_1 < (a0.size : Int)) = true := decide_eq_true c4
   clear c4
   have HC5 := AZ.mk H
   clear H
   go_upto_region 7 with (fail)
   go_cut [26] (fun v26 wc => ∃ (kq : Nat) (x26_4 : Bool), v26 = .bool x26_4 ∧ AZ (spec_l01Pending.j1 kq a0 t388 x5_1 x6_1 x7_1 x26_4 = some (r1, r2)) ∧ AZ (kq ≤ k1) ∧ AZ (Kd.R (Kd.int .i64) 2 wc w.heap.size (fun _ => True) v389 t388) ∧ AZ (Below w.heap.size w wc))
   case first =>
    have H := HC5.out
    clear HC5
    by_cases c6 : 0 ≤ x7_1
    rotate_left
    ·rw [if_neg c6] at H
     exact absurd H (by simp)
    rw [if_pos c6] at H
    have c6b0 : decide (0 ≤ x7_1) = true := decide_eq_true c6
    clear c6
    (first | rw [c6b0] | rw [c6b1] | (simp only [i64_w, i32_w]; rw [c6b0]) | skip)
    by_cases c7 : x7_1 < (t388.length : Int)
    rotate_left
    ·rw [if_neg c7] at H
     exact absurd H (by simp)
    rw [if_pos c7] at H
    have c7b0 : decide (x7_1 < (t388.length : Int)) = true := decide_eq_true c7
    clear c7
    by_cases c8 : (rd t388 x7_1) = (-2)
    rotate_left
    ·rw [if_neg c8] at H
     have c8b0 : ((rd t388 x7_1) == (-2)) = false := beq_eq_false_iff_ne.mpr c8
     have c8b1 : ((rd t388 x7_1) != (-2)) = true := bne_iff_ne.mpr c8
     have H' := AZ.mk H
     clear H
     obtain ⟨Ao12, co12, eo12⟩ := Kd.R_slice HO_4.out
     subst eo12
     have p391 : 0 ≤ (x7_1 : Int) := oT (by first | (with_reducible assumption) | assumption)
     have q391 : x7_1 < (t388.length : Int) := oT (by first | (with_reducible assumption) | assumption)
     obtain ⟨ad391, e391, hx391_0⟩ := Kd.at_int (Kd.R_reads' HO_4.out).2.2 x7_1 p391 q391
     cases e391
     replace p391 := eq_true p391
     replace q391 := eq_true q391
     go_wp2
     go_meet
     case rel => exact ⟨_, (false), (by first | rfl | (simp; done) | (simp [*]; done)), H', ⟨by have := HK1.out; first | omega | exact Nat.le_refl _⟩, ⟨by (with_reducible repeat (first | apply Kd.R_alloc | apply Kd.R_drewN | apply Kd.R_drew)); exact HO_4.out⟩, ⟨by repeat (first | (with_reducible first | exact HB.out | apply pA | apply pN | apply pD) | exact HB.out)⟩⟩
    rw [if_pos c8] at H
    have c8b0 : ((rd t388 x7_1) == (-2)) = true := beq_iff_eq.mpr c8
    have c8b1 : ((rd t388 x7_1) != (-2)) = false := bne_eq_false_iff_eq.mpr c8
    clear c8
    replace H := Option.bind_eq_some_iff.mp H
    obtain ⟨t392, A100, H⟩ := H
    replace H : (spec_l01Pending.j1 k1 a0 t388 x5_1 x6_1 x7_1 t392) = some (r1, r2) := H
    have A10 := AZ.mk A100
    clear A100
    have H' := AZ.mk H
    clear H
    obtain ⟨Ao11, co11, eo11⟩ := Kd.R_slice HO_4.out
    subst eo11
    have p391 : 0 ≤ (x7_1 : Int) := oT (by first | (with_reducible assumption) | assumption)
    have q391 : x7_1 < (t388.length : Int) := oT (by first | (with_reducible assumption) | assumption)
    obtain ⟨ad391, e391, hx391_0⟩ := Kd.at_int (Kd.R_reads' HO_4.out).2.2 x7_1 p391 q391
    cases e391
    replace p391 := eq_true p391
    replace q391 := eq_true q391
    have p9 : 0 ≤ (x7_1 : Int) := oT (by first | (with_reducible assumption) | assumption)
    have q9 : x7_1 < (a0.size : Int) := oT (by first | (with_reducible assumption) | assumption)
    have hx9 := bt_at a0 x7_1
    replace p9 := eq_true p9
    replace q9 := eq_true q9
    go_wp2_with (first | (go_at_call 82; (with_reducible refine (spec_l01Return.calls (bt a0 x7_1) t392 _ A10.out).mono ?_); rintro e w' ⟨rfl, ⟨nd, rfl⟩⟩))
    go_meet
    case rel => exact ⟨_, (t392), (by first | rfl | (simp; done) | (simp [*]; done)), H', ⟨by have := HK1.out; first | omega | exact Nat.le_refl _⟩, ⟨by (with_reducible repeat (first | apply Kd.R_alloc | apply Kd.R_drewN | apply Kd.R_drew)); exact HO_4.out⟩, ⟨by repeat (first | (with_reducible first | exact HB.out | apply pA | apply pN | apply pD) | exact HB.out)⟩⟩
   case rest =>
    clear HC5
    try clear p2
    try clear p3
    try clear q3
    try clear hx3
    try clear c4
    try clear c4b0
    try clear c6
    try clear c6b0
    try clear c6b1
    try clear c7
    try clear c7b0
    try clear c8
    try clear c8b0
    try clear c8b1
    try clear p9
    try clear q9
    try clear hx9
    try clear hx391_0
    try clear p2
    try clear p391
    try clear p9
    try clear q391
    try clear q9
    obtain ⟨kq, x26_4, rfl, HA, HJ4, HO_4, HB⟩ := hcut
    cases kq with
    | zero => exact absurd HA.out (by simp [spec_l01Pending.j1])
    | succ kj4 =>
     have H := HA.out
     clear HA
     simp only [spec_l01Pending.j1] at H
     by_cases c13 : x26_4 = true
     rotate_left
     ·replace c13 := Bool.eq_false_iff.mpr c13
      subst c13
      have H1 : (if 0 ≤ x7_1 then (if x7_1 < (t388.length : Int) then (if (rd t388 x7_1) = (-2) then (if x7_1 < (a0.size : Int) then ((spec_l01Call.f (bt a0 x7_1)).bind fun t396 => (if t396 = true then (spec_l01Pending.l0 kj4 a0 t388 x5_1 (wrap64 (x6_1 + 1)) (wrap64 (x7_1 + 1))) else (spec_l01Pending.l0 kj4 a0 t388 x5_1 x6_1 (wrap64 (x7_1 + 1))))) else (none)) else (spec_l01Pending.l0 kj4 a0 t388 x5_1 x6_1 (wrap64 (x7_1 + 1)))) else (none)) else (none)) = some (r1, r2) := by rw [if_neg (show ¬ (false = true) by decide)] at H; exact H
      clear H
      have H := H1
      clear H1
      by_cases c24 : 0 ≤ x7_1
      rotate_left
      ·rw [if_neg c24] at H
       exact absurd H (by simp)
      rw [if_pos c24] at H
      have c24b0 : decide (0 ≤ x7_1) = true := decide_eq_true c24
      clear c24
      by_cases c25 : x7_1 < (t388.length : Int)
      rotate_left
      ·rw [if_neg c25] at H
       exact absurd H (by simp)
      rw [if_pos c25] at H
      have c25b0 : decide (x7_1 < (t388.length : Int)) = true := decide_eq_true c25
      clear c25
      by_cases c26 : (rd t388 x7_1) = (-2)
      rotate_left
      ·rw [if_neg c26] at H
       have c26b0 : ((rd t388 x7_1) == (-2)) = false := beq_eq_false_iff_ne.mpr c26
       have c26b1 : ((rd t388 x7_1) != (-2)) = true := bne_iff_ne.mpr c26
       have H' := AZ.mk H
       clear H
       obtain ⟨Ao33, co33, eo33⟩ := Kd.R_slice HO_4.out
       subst eo33
       have p395 : 0 ≤ (x7_1 : Int) := oT (by first | (with_reducible assumption) | assumption)
       have q395 : x7_1 < (t388.length : Int) := oT (by first | (with_reducible assumption) | assumption)
       obtain ⟨ad395, e395, hx395_0⟩ := Kd.at_int (Kd.R_reads' HO_4.out).2.2 x7_1 p395 q395
       cases e395
       replace p395 := eq_true p395
       replace q395 := eq_true q395
       go_wp2
       go_roundg kj4
       case measure => have := HK1.out; have := HJ4.out; omega
       case rel => exact ⟨(x5_1), (x6_1), (wrap64 (x7_1 + 1)), (by first | rfl | (simp; done) | (simp [*]; done)), (by first | rfl | (simp; done) | (simp [*]; done)), (by first | rfl | (simp; done) | (simp [*]; done)), H', ⟨by have := HK1.out; have := HJ4.out; omega⟩, ⟨by (with_reducible repeat (first | apply Kd.R_alloc | apply Kd.R_drewN | apply Kd.R_drew)); exact HO_4.out⟩, ⟨by repeat (first | (with_reducible first | exact HB.out | apply pA | apply pN | apply pD) | exact HB.out)⟩⟩
      rw [if_pos c26] at H
      have c26b0 : ((rd t388 x7_1) == (-2)) = true := beq_iff_eq.mpr c26
      have c26b1 : ((rd t388 x7_1) != (-2)) = false := bne_eq_false_iff_eq.mpr c26
      clear c26
      by_cases c27 : x7_1 < (a0.size : Int)
      rotate_left
      ·rw [if_neg c27] at H
       exact absurd H (by simp)
      rw [if_pos c27] at H
      have c27b0 : decide (x7_1 < (a0.size : Int)) = true := decide_eq_true c27
      clear c27
      replace H := Option.bind_eq_some_iff.mp H
      obtain ⟨t396, A290, H⟩ := H
      replace H : (if t396 = true then (spec_l01Pending.l0 kj4 a0 t388 x5_1 (wrap64 (x6_1 + 1)) (wrap64 (x7_1 + 1))) else (spec_l01Pending.l0 kj4 a0 t388 x5_1 x6_1 (wrap64 (x7_1 + 1)))) = some (r1, r2) := H
      have A29 := AZ.mk A290
      clear A290
      by_cases c30 : t396 = true
      ·subst c30
       have H1 : (spec_l01Pending.l0 kj4 a0 t388 x5_1 (wrap64 (x6_1 + 1)) (wrap64 (x7_1 + 1))) = some (r1, r2) := by rw [if_pos rfl] at H; exact H
       clear H
       have H := H1
       clear H1
       have H' := AZ.mk H
       clear H
       obtain ⟨Ao31, co31, eo31⟩ := Kd.R_slice HO_4.out
       subst eo31
       have p395 : 0 ≤ (x7_1 : Int) := oT (by first | (with_reducible assumption) | assumption)
       have q395 : x7_1 < (t388.length : Int) := oT (by first | (with_reducible assumption) | assumption)
       obtain ⟨ad395, e395, hx395_0⟩ := Kd.at_int (Kd.R_reads' HO_4.out).2.2 x7_1 p395 q395
       cases e395
       replace p395 := eq_true p395
       replace q395 := eq_true q395
       have p28 : 0 ≤ (x7_1 : Int) := oT (by first | (with_reducible assumption) | assumption)
       have q28 : x7_1 < (a0.size : Int) := oT (by first | (with_reducible assumption) | assumption)
       have hx28 := bt_at a0 x7_1
       replace p28 := eq_true p28
       replace q28 := eq_true q28
       go_wp2_with (first | (go_at_call 76; (with_reducible refine (spec_l01Call.calls (bt a0 x7_1) true _ A29.out).mono ?_); rintro e w' ⟨rfl, ⟨nd, rfl⟩⟩))
       go_roundg kj4
       case measure => have := HK1.out; have := HJ4.out; omega
       case rel => exact ⟨(x5_1), (wrap64 (x6_1 + 1)), (wrap64 (x7_1 + 1)), (by first | rfl | (simp; done) | (simp [*]; done)), (by first | rfl | (simp; done) | (simp [*]; done)), (by first | rfl | (simp; done) | (simp [*]; done)), H', ⟨by have := HK1.out; have := HJ4.out; omega⟩, ⟨by (with_reducible repeat (first | apply Kd.R_alloc | apply Kd.R_drewN | apply Kd.R_drew)); exact HO_4.out⟩, ⟨by repeat (first | (with_reducible first | exact HB.out | apply pA | apply pN | apply pD) | exact HB.out)⟩⟩
      replace c30 := Bool.eq_false_iff.mpr c30
      subst c30
      have H1 : (spec_l01Pending.l0 kj4 a0 t388 x5_1 x6_1 (wrap64 (x7_1 + 1))) = some (r1, r2) := by rw [if_neg (show ¬ (false = true) by decide)] at H; exact H
      clear H
      have H := H1
      clear H1
      have H' := AZ.mk H
      clear H
      obtain ⟨Ao32, co32, eo32⟩ := Kd.R_slice HO_4.out
      subst eo32
      have p395 : 0 ≤ (x7_1 : Int) := oT (by first | (with_reducible assumption) | assumption)
      have q395 : x7_1 < (t388.length : Int) := oT (by first | (with_reducible assumption) | assumption)
      obtain ⟨ad395, e395, hx395_0⟩ := Kd.at_int (Kd.R_reads' HO_4.out).2.2 x7_1 p395 q395
      cases e395
      replace p395 := eq_true p395
      replace q395 := eq_true q395
      have p28 : 0 ≤ (x7_1 : Int) := oT (by first | (with_reducible assumption) | assumption)
      have q28 : x7_1 < (a0.size : Int) := oT (by first | (with_reducible assumption) | assumption)
      have hx28 := bt_at a0 x7_1
      replace p28 := eq_true p28
      replace q28 := eq_true q28
      go_wp2_with (first | (go_at_call 76; (with_reducible refine (spec_l01Call.calls (bt a0 x7_1) false _ A29.out).mono ?_); rintro e w' ⟨rfl, ⟨nd, rfl⟩⟩))
      go_roundg kj4
      case measure => have := HK1.out; have := HJ4.out; omega
      case rel => exact ⟨(x5_1), (x6_1), (wrap64 (x7_1 + 1)), (by first | rfl | (simp; done) | (simp [*]; done)), (by first | rfl | (simp; done) | (simp [*]; done)), (by first | rfl | (simp; done) | (simp [*]; done)), H', ⟨by have := HK1.out; have := HJ4.out; omega⟩, ⟨by (with_reducible repeat (first | apply Kd.R_alloc | apply Kd.R_drewN | apply Kd.R_drew)); exact HO_4.out⟩, ⟨by repeat (first | (with_reducible first | exact HB.out | apply pA | apply pN | apply pD) | exact HB.out)⟩⟩
     subst c13
     have H1 : (if 0 ≤ x7_1 then (if x7_1 < (t388.length : Int) then (if (rd t388 x7_1) = (-2) then (if x7_1 < (a0.size : Int) then ((spec_l01Call.f (bt a0 x7_1)).bind fun t394 => (if t394 = true then (spec_l01Pending.l0 kj4 a0 t388 (wrap64 (x5_1 + 1)) (wrap64 (x6_1 + 1)) (wrap64 (x7_1 + 1))) else (spec_l01Pending.l0 kj4 a0 t388 (wrap64 (x5_1 + 1)) x6_1 (wrap64 (x7_1 + 1))))) else (none)) else (spec_l01Pending.l0 kj4 a0 t388 (wrap64 (x5_1 + 1)) x6_1 (wrap64 (x7_1 + 1)))) else (none)) else (none)) = some (r1, r2) := by rw [if_pos rfl] at H; exact H
     clear H
     have H := H1
     clear H1
     by_cases c14 : 0 ≤ x7_1
     rotate_left
     ·rw [if_neg c14] at H
      exact absurd H (by simp)
     rw [if_pos c14] at H
     have c14b0 : decide (0 ≤ x7_1) = true := decide_eq_true c14
     clear c14
     by_cases c15 : x7_1 < (t388.length : Int)
     rotate_left
     ·rw [if_neg c15] at H
      exact absurd H (by simp)
     rw [if_pos c15] at H
     have c15b0 : decide (x7_1 < (t388.length : Int)) = true := decide_eq_true c15
     clear c15
     by_cases c16 : (rd t388 x7_1) = (-2)
     rotate_left
     ·rw [if_neg c16] at H
      have c16b0 : ((rd t388 x7_1) == (-2)) = false := beq_eq_false_iff_ne.mpr c16
      have c16b1 : ((rd t388 x7_1) != (-2)) = true := bne_iff_ne.mpr c16
      have H' := AZ.mk H
      clear H
      obtain ⟨Ao23, co23, eo23⟩ := Kd.R_slice HO_4.out
      subst eo23
      have p393 : 0 ≤ (x7_1 : Int) := oT (by first | (with_reducible assumption) | assumption)
      have q393 : x7_1 < (t388.length : Int) := oT (by first | (with_reducible assumption) | assumption)
      obtain ⟨ad393, e393, hx393_0⟩ := Kd.at_int (Kd.R_reads' HO_4.out).2.2 x7_1 p393 q393
      cases e393
      replace p393 := eq_true p393
      replace q393 := eq_true q393
      go_wp2
      go_roundg kj4
      case measure => have := HK1.out; have := HJ4.out; omega
      case rel => exact ⟨(wrap64 (x5_1 + 1)), (x6_1), (wrap64 (x7_1 + 1)), (by first | rfl | (simp; done) | (simp [*]; done)), (by first | rfl | (simp; done) | (simp [*]; done)), (by first | rfl | (simp; done) | (simp [*]; done)), H', ⟨by have := HK1.out; have := HJ4.out; omega⟩, ⟨by (with_reducible repeat (first | apply Kd.R_alloc | apply Kd.R_drewN | apply Kd.R_drew)); exact HO_4.out⟩, ⟨by repeat (first | (with_reducible first | exact HB.out | apply pA | apply pN | apply pD) | exact HB.out)⟩⟩
     rw [if_pos c16] at H
     have c16b0 : ((rd t388 x7_1) == (-2)) = true := beq_iff_eq.mpr c16
     have c16b1 : ((rd t388 x7_1) != (-2)) = false := bne_eq_false_iff_eq.mpr c16
     clear c16
     by_cases c17 : x7_1 < (a0.size : Int)
     rotate_left
     ·rw [if_neg c17] at H
      exact absurd H (by simp)
     rw [if_pos c17] at H
     have c17b0 : decide (x7_1 < (a0.size : Int)) = true := decide_eq_true c17
     clear c17
     replace H := Option.bind_eq_some_iff.mp H
     obtain ⟨t394, A190, H⟩ := H
     replace H : (if t394 = true then (spec_l01Pending.l0 kj4 a0 t388 (wrap64 (x5_1 + 1)) (wrap64 (x6_1 + 1)) (wrap64 (x7_1 + 1))) else (spec_l01Pending.l0 kj4 a0 t388 (wrap64 (x5_1 + 1)) x6_1 (wrap64 (x7_1 + 1)))) = some (r1, r2) := H
     have A19 := AZ.mk A190
     clear A190
     by_cases c20 : t394 = true
     ·subst c20
      have H1 : (spec_l01Pending.l0 kj4 a0 t388 (wrap64 (x5_1 + 1)) (wrap64 (x6_1 + 1)) (wrap64 (x7_1 + 1))) = some (r1, r2) := by rw [if_pos rfl] at H; exact H
      clear H
      have H := H1
      clear H1
      have H' := AZ.mk H
      clear H
      obtain ⟨Ao21, co21, eo21⟩ := Kd.R_slice HO_4.out
      subst eo21
      have p393 : 0 ≤ (x7_1 : Int) := oT (by first | (with_reducible assumption) | assumption)
      have q393 : x7_1 < (t388.length : Int) := oT (by first | (with_reducible assumption) | assumption)
      obtain ⟨ad393, e393, hx393_0⟩ := Kd.at_int (Kd.R_reads' HO_4.out).2.2 x7_1 p393 q393
      cases e393
      replace p393 := eq_true p393
      replace q393 := eq_true q393
      have p18 : 0 ≤ (x7_1 : Int) := oT (by first | (with_reducible assumption) | assumption)
      have q18 : x7_1 < (a0.size : Int) := oT (by first | (with_reducible assumption) | assumption)
      have hx18 := bt_at a0 x7_1
      replace p18 := eq_true p18
      replace q18 := eq_true q18
      go_wp2_with (first | (go_at_call 76; (with_reducible refine (spec_l01Call.calls (bt a0 x7_1) true _ A19.out).mono ?_); rintro e w' ⟨rfl, ⟨nd, rfl⟩⟩))
      go_roundg kj4
      case measure => have := HK1.out; have := HJ4.out; omega
      case rel => exact ⟨(wrap64 (x5_1 + 1)), (wrap64 (x6_1 + 1)), (wrap64 (x7_1 + 1)), (by first | rfl | (simp; done) | (simp [*]; done)), (by first | rfl | (simp; done) | (simp [*]; done)), (by first | rfl | (simp; done) | (simp [*]; done)), H', ⟨by have := HK1.out; have := HJ4.out; omega⟩, ⟨by (with_reducible repeat (first | apply Kd.R_alloc | apply Kd.R_drewN | apply Kd.R_drew)); exact HO_4.out⟩, ⟨by repeat (first | (with_reducible first | exact HB.out | apply pA | apply pN | apply pD) | exact HB.out)⟩⟩
     replace c20 := Bool.eq_false_iff.mpr c20
     subst c20
     have H1 : (spec_l01Pending.l0 kj4 a0 t388 (wrap64 (x5_1 + 1)) x6_1 (wrap64 (x7_1 + 1))) = some (r1, r2) := by rw [if_neg (show ¬ (false = true) by decide)] at H; exact H
     clear H
     have H := H1
     clear H1
     have H' := AZ.mk H
     clear H
     obtain ⟨Ao22, co22, eo22⟩ := Kd.R_slice HO_4.out
     subst eo22
     have p393 : 0 ≤ (x7_1 : Int) := oT (by first | (with_reducible assumption) | assumption)
     have q393 : x7_1 < (t388.length : Int) := oT (by first | (with_reducible assumption) | assumption)
     obtain ⟨ad393, e393, hx393_0⟩ := Kd.at_int (Kd.R_reads' HO_4.out).2.2 x7_1 p393 q393
     cases e393
     replace p393 := eq_true p393
     replace q393 := eq_true q393
     have p18 : 0 ≤ (x7_1 : Int) := oT (by first | (with_reducible assumption) | assumption)
     have q18 : x7_1 < (a0.size : Int) := oT (by first | (with_reducible assumption) | assumption)
     have hx18 := bt_at a0 x7_1
     replace p18 := eq_true p18
     replace q18 := eq_true q18
     go_wp2_with (first | (go_at_call 76; (with_reducible refine (spec_l01Call.calls (bt a0 x7_1) false _ A19.out).mono ?_); rintro e w' ⟨rfl, ⟨nd, rfl⟩⟩))
     go_roundg kj4
     case measure => have := HK1.out; have := HJ4.out; omega
     case rel => exact ⟨(wrap64 (x5_1 + 1)), (x6_1), (wrap64 (x7_1 + 1)), (by first | rfl | (simp; done) | (simp [*]; done)), (by first | rfl | (simp; done) | (simp [*]; done)), (by first | rfl | (simp; done) | (simp [*]; done)), H', ⟨by have := HK1.out; have := HJ4.out; omega⟩, ⟨by (with_reducible repeat (first | apply Kd.R_alloc | apply Kd.R_drewN | apply Kd.R_drew)); exact HO_4.out⟩, ⟨by repeat (first | (with_reducible first | exact HB.out | apply pA | apply pN | apply pD) | exact HB.out)⟩⟩
end Go.Proofs.Ytgfilbgjnloopaa.P
namespace Go.Proofs.Ytgfilbgjnloopaa.P
open Go.RowKit Go.Proofs.YtgfilbgjnloopaaW.PrintWords Go.Proofs.YtgfilbgjnloopaaW.PrintLast Go.Proofs.YtgfilbgjnloopaaW.PrintMore
attribute [local go_sem] max2_int min2_int max_two min_two max_three min_three max_four min_four
set_option linter.unusedVariables false
set_option linter.unusedSimpArgs false
def spec_l01Matched.f (k : Nat) (a0 : ByteArray) : Option (Bool) := (spec_l01Pending.f k a0).bind fun bt397 => (some ((wrap64 (bt397.1 + bt397.2)) == 0))
set_option maxHeartbeats 8000000 in
set_option maxRecDepth 100000 in
theorem spec_l01Matched.calls (k : Nat) (a0 : ByteArray) (r : Bool) (w : World) (h : spec_l01Matched.f k a0 = some r) :
  Calls Try.prog 63 #[.string a0] w fun e w' => e = .returned (.bool r) ∧ Below w.heap.size w w' := by
 have HB := AZ.mk (Below.refl w.heap.size w)
 have H : ((spec_l01Pending.f k a0).bind fun bt397 => (some ((wrap64 (bt397.1 + bt397.2)) == 0))) = some r := h
 clear h
 replace H := Option.bind_eq_some_iff.mp H
 obtain ⟨⟨t397, t398⟩, A20, H⟩ := H
 replace H : (some ((wrap64 (t397 + t398)) == 0)) = some r := H
 have A2 := AZ.mk A20
 clear A20
 obtain rfl := Option.some.inj H
 go_enter Try.func63, Try.ntmps63
 go_wp2_with (first | ((with_reducible refine gate_callee (f := 74) rfl ?_); refine goesL_ (some 7) rfl rfl Try.func74 (by kernel_rfl) rfl #[.string a0] rfl (by (try simp only [List.map_toArray, List.map_cons, List.map_nil]); first | done | rfl | (simp only [List.length_drop, List.length_take]; rfl)) ?_; (with_reducible refine (spec_l01Pending.calls k a0 t397 t398 _ A2.out).mono ?_); rintro e w3 ⟨rfl, hb⟩; refine ⟨_, rfl, ?_⟩; have n0_ := AZ.mk (pT (by repeat (first | (with_reducible first | exact HB.out | apply pA | apply pN | apply pD) | exact HB.out)) hb); clear HB; have HB := n0_; clear n0_; (try clear hb); (try clear hb2); (try clear hk); (try clear hi)))
 go_ret
 exact ⟨by first | rfl | (simp [errW_none, errW_some] <;> rfl) | (simp [*, errW_none, errW_some] <;> rfl), by repeat (first | (with_reducible first | exact HB.out | apply pA | apply pN | apply pD) | exact HB.out)⟩
end Go.Proofs.Ytgfilbgjnloopaa.P
namespace Go.Proofs.Ytgfilbgjnloopaa.P
open Go.RowKit Go.Proofs.YtgfilbgjnloopaaW.PrintWords Go.Proofs.YtgfilbgjnloopaaW.PrintLast Go.Proofs.YtgfilbgjnloopaaW.PrintMore
attribute [local go_sem] max2_int min2_int max_two min_two max_three min_three max_four min_four
set_option linter.unusedVariables false
set_option linter.unusedSimpArgs false
def spec_l04Given.j0 : Nat → ByteArray → Bool → Option (Int)
 | 0, _, _ => none
 | k + 1, x1, x12 => if x12 = true then (some 1) else ((spec_l01Matched.f k x1).bind fun t401 => (if t401 = true then (some 0) else (some 4)))
def spec_l04Given.f (k : Nat) (l0_0 : List (List Int)) (l0_1 : List (List Int)) (l0_2 : List Int) (l0_3 : List Bool) (a1 : ByteArray) : Option (Int) := (spec_l04Ok.f k l0_0 l0_1 l0_2 l0_3).bind fun t399 => (if t399 = true then ((spec_l01Ok.f k a1).bind fun t400 => (spec_l04Given.j0 k a1 (!t400))) else (spec_l04Given.j0 k a1 true))
set_option maxHeartbeats 8000000 in
set_option maxRecDepth 100000 in
theorem spec_l04Given.calls (k : Nat) (g0_ : Nat) (A0_0 : Option Addr) (c0_0 : Nat) (l0_0 : List (List Int)) (A0_1 : Option Addr) (c0_1 : Nat) (l0_1 : List (List Int)) (A0_2 : Option Addr) (c0_2 : Nat) (l0_2 : List Int) (A0_3 : Option Addr) (c0_3 : Nat) (l0_3 : List Bool) (a1 : ByteArray) (r : Int) (w : World) (hr0_0 : Kd.C (Kd.slice 2 (Kd.int .i64)) w A0_0 l0_0.length l0_0) (hc0_0 : l0_0.length ≤ c0_0) (hr0_1 : Kd.C (Kd.slice 2 (Kd.int .i64)) w A0_1 l0_1.length l0_1) (hc0_1 : l0_1.length ≤ c0_1) (hr0_2 : Kd.C (Kd.int .i64) w A0_2 l0_2.length l0_2) (hc0_2 : l0_2.length ≤ c0_2) (hr0_3 : Kd.C Kd.bool w A0_3 l0_3.length l0_3) (hc0_3 : l0_3.length ≤ c0_3) (hbk0_0 : w.heap[g0_]? = some (.cells #[.slice A0_0 l0_0.length c0_0, .slice A0_1 l0_1.length c0_1, .slice A0_2 l0_2.length c0_2, .slice A0_3 l0_3.length c0_3] 29 (0, 0))) (h : spec_l04Given.f k l0_0 l0_1 l0_2 l0_3 a1 = some r) :
  Calls Try.prog 45 #[.pointer (some ⟨g0_, 0, none⟩), .string a1] w fun e w' => e = .returned (.int .i64 r) ∧ Below w.heap.size w w' := by
 have HR0_0 := AZ.mk hr0_0
 have HC0_0 := AZ.mk hc0_0
 clear hr0_0 hc0_0
 have HR0_1 := AZ.mk hr0_1
 have HC0_1 := AZ.mk hc0_1
 clear hr0_1 hc0_1
 have HR0_2 := AZ.mk hr0_2
 have HC0_2 := AZ.mk hc0_2
 clear hr0_2 hc0_2
 have HR0_3 := AZ.mk hr0_3
 have HC0_3 := AZ.mk hc0_3
 clear hr0_3 hc0_3
 have BK0 := AZ.mk hbk0_0
 clear hbk0_0
 have HB := AZ.mk (Below.refl w.heap.size w)
 have H : ((spec_l04Ok.f k l0_0 l0_1 l0_2 l0_3).bind fun t399 => (if t399 = true then ((spec_l01Ok.f k a1).bind fun t400 => (spec_l04Given.j0 k a1 (!t400))) else (spec_l04Given.j0 k a1 true))) = some r := h
 clear h
 have HC3 := AZ.mk H
 clear H
 go_enter Try.func45, Try.ntmps45
 go_upto_region 1 with (fail)
 go_cut [12] (fun v12 wc => ∃ (kq : Nat) (x12_2 : Bool), v12 = .bool x12_2 ∧ AZ (spec_l04Given.j0 kq a1 x12_2 = some r) ∧ AZ (kq ≤ k) ∧ AZ (wc.heap[g0_]? = some (.cells #[(.slice A0_0 l0_0.length c0_0), (.slice A0_1 l0_1.length c0_1), (.slice A0_2 l0_2.length c0_2), (.slice A0_3 l0_3.length c0_3)] 29 (0, 0))) ∧ AZ (Below w.heap.size w wc))
 case first =>
  have H := HC3.out
  clear HC3
  replace H := Option.bind_eq_some_iff.mp H
  obtain ⟨t399, A40, H⟩ := H
  replace H : (if t399 = true then ((spec_l01Ok.f k a1).bind fun t400 => (spec_l04Given.j0 k a1 (!t400))) else (spec_l04Given.j0 k a1 true)) = some r := H
  have A4 := AZ.mk A40
  clear A40
  by_cases c5 : t399 = true
  rotate_left
  ·replace c5 := Bool.eq_false_iff.mpr c5
   subst c5
   have H1 : (spec_l04Given.j0 k a1 true) = some r := by rw [if_neg (show ¬ (false = true) by decide)] at H; exact H
   clear H
   have H := H1
   clear H1
   have H' := AZ.mk H
   clear H
   go_wp2_with (first | ((with_reducible refine gate_callee (f := 25) rfl ?_); refine goesL_ (some 6) rfl rfl Try.func25 (by kernel_rfl) rfl #[.pointer (some ⟨g0_, 0, none⟩)] rfl (by (try simp only [List.map_toArray, List.map_cons, List.map_nil]); first | done | rfl | (simp only [List.length_drop, List.length_take]; rfl)) ?_; (with_reducible refine (spec_l04Ok.calls k g0_ A0_0 c0_0 l0_0 A0_1 c0_1 l0_1 A0_2 c0_2 l0_2 A0_3 c0_3 l0_3 false _ ?side1 ?side2 ?side3 ?side4 ?side5 ?side6 ?side7 ?side8 ?side9 A4.out).mono ?_); (case side1 => repeat (first | exact (Kd.C_below HR0_0.out HB.out) | (with_reducible refine Kd.C_alloc ?_ _) | (with_reducible refine Kd.C_drewN ?_ _) | (with_reducible refine Kd.C_drew ?_))); (case side2 => exact HC0_0.out); (case side3 => repeat (first | exact (Kd.C_below HR0_1.out HB.out) | (with_reducible refine Kd.C_alloc ?_ _) | (with_reducible refine Kd.C_drewN ?_ _) | (with_reducible refine Kd.C_drew ?_))); (case side4 => exact HC0_1.out); (case side5 => repeat (first | exact (Kd.C_below HR0_2.out HB.out) | (with_reducible refine Kd.C_alloc ?_ _) | (with_reducible refine Kd.C_drewN ?_ _) | (with_reducible refine Kd.C_drew ?_))); (case side6 => exact HC0_2.out); (case side7 => repeat (first | exact (Kd.C_below HR0_3.out HB.out) | (with_reducible refine Kd.C_alloc ?_ _) | (with_reducible refine Kd.C_drewN ?_ _) | (with_reducible refine Kd.C_drew ?_))); (case side8 => exact HC0_3.out); (case side9 => exact (by (with_reducible repeat (first | refine bn_ ?_ _ | refine bd_ ?_ | refine ba_ ?_ _)); exact BK0.out)); rintro e w' ⟨rfl, ⟨nd, rfl⟩⟩; refine ⟨_, rfl, ?_⟩))
   go_meet
   case rel => exact ⟨_, (true), (by first | rfl | (simp; done) | (simp [*]; done)), H', ⟨by first | omega | exact Nat.le_refl _⟩, ⟨by (with_reducible repeat (first | refine bn_ ?_ _ | refine bd_ ?_ | refine ba_ ?_ _)); exact BK0.out⟩, ⟨by repeat (first | (with_reducible first | exact HB.out | apply pA | apply pN | apply pD | refine pS ?_ GE0.out) | exact HB.out)⟩⟩
  subst c5
  have H1 : ((spec_l01Ok.f k a1).bind fun t400 => (spec_l04Given.j0 k a1 (!t400))) = some r := by rw [if_pos rfl] at H; exact H
  clear H
  have H := H1
  clear H1
  replace H := Option.bind_eq_some_iff.mp H
  obtain ⟨t400, A60, H⟩ := H
  replace H : (spec_l04Given.j0 k a1 (!t400)) = some r := H
  have A6 := AZ.mk A60
  clear A60
  have H' := AZ.mk H
  clear H
  go_wp2_with (first | ((with_reducible refine gate_callee (f := 25) rfl ?_); refine goesL_ (some 6) rfl rfl Try.func25 (by kernel_rfl) rfl #[.pointer (some ⟨g0_, 0, none⟩)] rfl (by (try simp only [List.map_toArray, List.map_cons, List.map_nil]); first | done | rfl | (simp only [List.length_drop, List.length_take]; rfl)) ?_; (with_reducible refine (spec_l04Ok.calls k g0_ A0_0 c0_0 l0_0 A0_1 c0_1 l0_1 A0_2 c0_2 l0_2 A0_3 c0_3 l0_3 true _ ?side1 ?side2 ?side3 ?side4 ?side5 ?side6 ?side7 ?side8 ?side9 A4.out).mono ?_); (case side1 => repeat (first | exact (Kd.C_below HR0_0.out HB.out) | (with_reducible refine Kd.C_alloc ?_ _) | (with_reducible refine Kd.C_drewN ?_ _) | (with_reducible refine Kd.C_drew ?_))); (case side2 => exact HC0_0.out); (case side3 => repeat (first | exact (Kd.C_below HR0_1.out HB.out) | (with_reducible refine Kd.C_alloc ?_ _) | (with_reducible refine Kd.C_drewN ?_ _) | (with_reducible refine Kd.C_drew ?_))); (case side4 => exact HC0_1.out); (case side5 => repeat (first | exact (Kd.C_below HR0_2.out HB.out) | (with_reducible refine Kd.C_alloc ?_ _) | (with_reducible refine Kd.C_drewN ?_ _) | (with_reducible refine Kd.C_drew ?_))); (case side6 => exact HC0_2.out); (case side7 => repeat (first | exact (Kd.C_below HR0_3.out HB.out) | (with_reducible refine Kd.C_alloc ?_ _) | (with_reducible refine Kd.C_drewN ?_ _) | (with_reducible refine Kd.C_drew ?_))); (case side8 => exact HC0_3.out); (case side9 => exact (by (with_reducible repeat (first | refine bn_ ?_ _ | refine bd_ ?_ | refine ba_ ?_ _)); exact BK0.out)); rintro e w' ⟨rfl, ⟨nd, rfl⟩⟩; refine ⟨_, rfl, ?_⟩) | (go_at_call 62; (with_reducible refine (spec_l01Ok.calls k a1 t400 _ A6.out).mono ?_); rintro e w' ⟨rfl, ⟨nd, rfl⟩⟩))
  go_meet
  case rel => exact ⟨_, (!t400), (by first | rfl | (simp; done) | (simp [*]; done)), H', ⟨by first | omega | exact Nat.le_refl _⟩, ⟨by (with_reducible repeat (first | refine bn_ ?_ _ | refine bd_ ?_ | refine ba_ ?_ _)); exact BK0.out⟩, ⟨by repeat (first | (with_reducible first | exact HB.out | apply pA | apply pN | apply pD | refine pS ?_ GE0.out) | exact HB.out)⟩⟩
 case rest =>
  clear HC3
  try clear c2
  try clear p2
  try clear c4
  try clear c5
  obtain ⟨kq, x12_2, rfl, HA, HJ2, BK0, HB⟩ := hcut
  cases kq with
  | zero => exact absurd HA.out (by simp [spec_l04Given.j0])
  | succ kj2 =>
   have H := HA.out
   clear HA
   simp only [spec_l04Given.j0] at H
   by_cases c7 : x12_2 = true
   ·subst c7
    have H1 : (some 1) = some r := by rw [if_pos rfl] at H; exact H
    clear H
    have H := H1
    clear H1
    obtain rfl := Option.some.inj H
    go_wp2
    go_ret
    exact ⟨by first | rfl | (simp [errW_none, errW_some] <;> rfl) | (simp [*, errW_none, errW_some] <;> rfl), by repeat (first | (with_reducible first | exact HB.out | apply pA | apply pN | apply pD | refine pS ?_ GE0.out) | exact HB.out)⟩
   replace c7 := Bool.eq_false_iff.mpr c7
   subst c7
   have H1 : ((spec_l01Matched.f kj2 a1).bind fun t401 => (if t401 = true then (some 0) else (some 4))) = some r := by rw [if_neg (show ¬ (false = true) by decide)] at H; exact H
   clear H
   have H := H1
   clear H1
   replace H := Option.bind_eq_some_iff.mp H
   obtain ⟨t401, A80, H⟩ := H
   replace H : (if t401 = true then (some 0) else (some 4)) = some r := H
   have A8 := AZ.mk A80
   clear A80
   by_cases c9 : t401 = true
   ·subst c9
    have H1 : (some 0) = some r := by rw [if_pos rfl] at H; exact H
    clear H
    have H := H1
    clear H1
    obtain rfl := Option.some.inj H
    go_wp2_with (first | ((with_reducible refine gate_callee (f := 63) rfl ?_); refine goesL_ (some 14) rfl rfl Try.func63 (by kernel_rfl) rfl #[.string a1] rfl (by (try simp only [List.map_toArray, List.map_cons, List.map_nil]); first | done | rfl | (simp only [List.length_drop, List.length_take]; rfl)) ?_; (with_reducible refine (spec_l01Matched.calls kj2 a1 true _ A8.out).mono ?_); rintro e w10 ⟨rfl, hb⟩; refine ⟨_, rfl, ?_⟩; have n0_ := AZ.mk (bb_ (g := g0_) (o := .cells #[.slice A0_0 l0_0.length c0_0, .slice A0_1 l0_1.length c0_1, .slice A0_2 l0_2.length c0_2, .slice A0_3 l0_3.length c0_3] 29 (0, 0)) (by (with_reducible repeat (first | refine bn_ ?_ _ | refine bd_ ?_ | refine ba_ ?_ _)); exact BK0.out) hb); have n1_ := AZ.mk (pT (by repeat (first | (with_reducible first | exact HB.out | apply pA | apply pN | apply pD | refine pS ?_ GE0.out) | exact HB.out)) hb); clear BK0; clear HB; have BK0 := n0_; have HB := n1_; clear n0_ n1_; (try clear hb); (try clear hb2); (try clear hk); (try clear hi)))
    go_ret
    exact ⟨by first | rfl | (simp [errW_none, errW_some] <;> rfl) | (simp [*, errW_none, errW_some] <;> rfl), by repeat (first | (with_reducible first | exact HB.out | apply pA | apply pN | apply pD | refine pS ?_ GE0.out) | exact HB.out)⟩
   replace c9 := Bool.eq_false_iff.mpr c9
   subst c9
   have H1 : (some 4) = some r := by rw [if_neg (show ¬ (false = true) by decide)] at H; exact H
   clear H
   have H := H1
   clear H1
   obtain rfl := Option.some.inj H
   go_wp2_with (first | ((with_reducible refine gate_callee (f := 63) rfl ?_); refine goesL_ (some 14) rfl rfl Try.func63 (by kernel_rfl) rfl #[.string a1] rfl (by (try simp only [List.map_toArray, List.map_cons, List.map_nil]); first | done | rfl | (simp only [List.length_drop, List.length_take]; rfl)) ?_; (with_reducible refine (spec_l01Matched.calls kj2 a1 false _ A8.out).mono ?_); rintro e w11 ⟨rfl, hb⟩; refine ⟨_, rfl, ?_⟩; have n0_ := AZ.mk (bb_ (g := g0_) (o := .cells #[.slice A0_0 l0_0.length c0_0, .slice A0_1 l0_1.length c0_1, .slice A0_2 l0_2.length c0_2, .slice A0_3 l0_3.length c0_3] 29 (0, 0)) (by (with_reducible repeat (first | refine bn_ ?_ _ | refine bd_ ?_ | refine ba_ ?_ _)); exact BK0.out) hb); have n1_ := AZ.mk (pT (by repeat (first | (with_reducible first | exact HB.out | apply pA | apply pN | apply pD | refine pS ?_ GE0.out) | exact HB.out)) hb); clear BK0; clear HB; have BK0 := n0_; have HB := n1_; clear n0_ n1_; (try clear hb); (try clear hb2); (try clear hk); (try clear hi)))
   go_ret
   exact ⟨by first | rfl | (simp [errW_none, errW_some] <;> rfl) | (simp [*, errW_none, errW_some] <;> rfl), by repeat (first | (with_reducible first | exact HB.out | apply pA | apply pN | apply pD | refine pS ?_ GE0.out) | exact HB.out)⟩
end Go.Proofs.Ytgfilbgjnloopaa.P
namespace Go.Proofs.Ytgfilbgjnloopaa.P
open Go.RowKit Go.Proofs.YtgfilbgjnloopaaW.PrintWords Go.Proofs.YtgfilbgjnloopaaW.PrintLast Go.Proofs.YtgfilbgjnloopaaW.PrintMore
attribute [local go_sem] max2_int min2_int max_two min_two max_three min_three max_four min_four
set_option linter.unusedVariables false
set_option linter.unusedSimpArgs false
def spec_l01Factors.l0 : Nat → ByteArray → List Int → List ByteArray → Int → Option (List ByteArray)
 | 0, _, _, _, _ => none
 | k + 1, x0, x3, x4, x5 => if x5 < (x0.size : Int) then (if 0 ≤ x5 then ((spec_l01Call.f (bt x0 x5)).bind fun t408 => (if t408 = true then (if x5 < (x3.length : Int) then (if x5 ≤ (wrap64 ((rd x3 x5) + 1)) then (if (wrap64 ((rd x3 x5) + 1)) ≤ (x0.size : Int) then (if x4.length < 8796093022208 then (spec_l01Factors.l0 k x0 x3 (x4 ++ [x0.extract (x5 : Int).toNat ((wrap64 ((rd x3 x5) + 1)) : Int).toNat]) (wrap64 ((rd x3 x5) + 1))) else (none)) else (none)) else (none)) else (none)) else (if x5 ≤ (wrap64 (x5 + 1)) then (if (wrap64 (x5 + 1)) ≤ (x0.size : Int) then (if x4.length < 8796093022208 then (spec_l01Factors.l0 k x0 x3 (x4 ++ [x0.extract (x5 : Int).toNat ((wrap64 (x5 + 1)) : Int).toNat]) (wrap64 (x5 + 1))) else (none)) else (none)) else (none)))) else (none)) else (some x4)
def spec_l01Factors.f (k : Nat) (a0 : ByteArray) : Option (List ByteArray) := (spec_l01Partners.f k a0).bind fun t402 => (spec_l01Factors.l0 k a0 t402 (([] : List ByteArray)) 0)
set_option maxHeartbeats 8000000 in
set_option maxRecDepth 100000 in
theorem spec_l01Factors.calls (k : Nat) (a0 : ByteArray) (r : List ByteArray) (w : World) (h : spec_l01Factors.f k a0 = some r) :
  Calls Try.prog 64 #[.string a0] w fun e w' => ∃ v0_ : Value, e = .returned (v0_) ∧ Kd.R Kd.string 9 w' w.heap.size (fun _ => True) v0_ r ∧ Below w.heap.size w w' := by
 have HB := AZ.mk (Below.refl w.heap.size w)
 have H : ((spec_l01Partners.f k a0).bind fun t402 => (spec_l01Factors.l0 k a0 t402 (([] : List ByteArray)) 0)) = some r := h
 clear h
 replace H := Option.bind_eq_some_iff.mp H
 obtain ⟨t402, A20, H⟩ := H
 replace H : (spec_l01Factors.l0 k a0 t402 (([] : List ByteArray)) 0) = some r := H
 have A2 := AZ.mk A20
 clear A20
 obtain ⟨y405, hy405⟩ : ∃ y_ : List ByteArray, y_ = (([] : List ByteArray)) := ⟨_, rfl⟩
 replace H : (spec_l01Factors.l0 k a0 t402 y405 0) = some r := by first | (rw [hy405]; with_reducible exact H) | (have H2_ := (Option.bind_some _ _).symm.trans H; rw [hy405]; with_reducible exact H2_) | (have H2_ := (Option.bind_some _ _).symm.trans H; with_reducible exact H2_) | with_reducible exact H | (rw [hy405]; exact H) | exact H
 have Ny405 := AZ.mk hy405
 clear hy405
 have H' := AZ.mk H
 clear H
 go_enter Try.func64, Try.ntmps64
 go_wp2_with (first | ((with_reducible refine gate_callee (f := 75) rfl ?_); refine goesL_ (some 8) rfl rfl Try.func75 (by kernel_rfl) rfl #[.string a0] rfl (by (try simp only [List.map_toArray, List.map_cons, List.map_nil]); first | done | rfl | (simp only [List.length_drop, List.length_take]; rfl)) ?_; (with_reducible refine (spec_l01Partners.calls k a0 t402 _ A2.out).mono ?_); rintro e w3 ⟨v403, rfl, ho0, hb⟩; refine ⟨_, rfl, ?_⟩; have n0_ := AZ.mk (Kd.R_lower ho0 (pZ (by repeat (first | (with_reducible first | exact HB.out | apply pA | apply pN | apply pD) | exact HB.out)))); have n1_ := AZ.mk (pT (by repeat (first | (with_reducible first | exact HB.out | apply pA | apply pN | apply pD) | exact HB.out)) hb); clear HB; have HO404 := n0_; have HB := n1_; clear n0_ n1_; (try clear hb); (try clear hb2); (try clear hk); (try clear hi); (try clear ho0)) | ((with_reducible refine gate_dst (N := 9) rfl ?_); refine Kd.R_lit Kd.string _ 9 ?hg (N := 9) ?hd (xs := ([] : List ByteArray)) (inner := []) (ok := fun _ => True) (okp := fun _ => True) ?hr ?hp (fun _ hk => hk) trivial (Below.refl _ _) (Nat.le_refl _) (by simp) ?_; (case hd => rfl); (case hg => rfl); (case hr => first | (go_simp; done) | (go_simp; rfl)); (case hp => exact (Reps.none _ _)); intro v406 w4 ho5 hb hg_ hnew_; clear hg_ hnew_; (first | rw [← Ny405.out] at ho5 | (simp only [Int.reduceToNat] at ho5; rw [← Ny405.out] at ho5)); have n0_ := AZ.mk (Kd.R_below (by (with_reducible repeat (first | apply Kd.R_alloc | apply Kd.R_drewN | apply Kd.R_drew)); exact HO404.out) hb); have n1_ := AZ.mk (Kd.R_lower ho5 (pZ (by repeat (first | (with_reducible first | exact HB.out | apply pA | apply pN | apply pD) | exact HB.out)))); have n2_ := AZ.mk (pT (by repeat (first | (with_reducible first | exact HB.out | apply pA | apply pN | apply pD) | exact HB.out)) hb); clear HO404; clear HB; have HO404 := n0_; have HO407 := n1_; have HB := n2_; clear n0_ n1_ n2_; clear hb ho5))
 go_loopg [4, 5] k (fun kq v4 v5 w' => ∃ (x4_1 : List ByteArray) (x5_1 : Int), v5 = .int .i64 x5_1 ∧ AZ (spec_l01Factors.l0 kq a0 t402 x4_1 x5_1 = some r) ∧ AZ (kq ≤ k) ∧ AZ (Kd.R (Kd.int .i64) 2 w' w.heap.size (fun _ => True) v403 t402) ∧ AZ (Kd.R Kd.string 9 w' w.heap.size (fun _ => True) v4 x4_1) ∧ AZ (Below w.heap.size w w'))
 case atStart => exact ⟨(y405), (0), (by first | rfl | (simp; done) | (simp [*]; done)), H', ⟨Nat.le_refl _⟩, ⟨by (with_reducible repeat (first | apply Kd.R_alloc | apply Kd.R_drewN | apply Kd.R_drew)); exact HO404.out⟩, ⟨by (with_reducible repeat (first | apply Kd.R_alloc | apply Kd.R_drewN | apply Kd.R_drew)); exact HO407.out⟩, ⟨by repeat (first | (with_reducible first | exact HB.out | apply pA | apply pN | apply pD) | exact HB.out)⟩⟩
 case round =>
  clear H'
  try clear p2
  obtain ⟨x4_1, x5_1, rfl, HA, HK1, HO_3, HO_4, HB⟩ := hrel
  cases gk with
  | zero => exact absurd HA.out (by simp [spec_l01Factors.l0])
  | succ k1 =>
   have H := HA.out
   clear HA
   simp only [spec_l01Factors.l0] at H
   by_cases c6 : x5_1 < (a0.size : Int)
   rotate_left
   ·rw [if_neg c6] at H
    have c6b0 : decide (x5_1 < (a0.size : Int)) = false := decide_eq_false c6
    clear c6
    obtain rfl := Option.some.inj H
    go_wp2
    go_ret
    exact ⟨_, by first | rfl | (simp [errW_none, errW_some] <;> rfl) | (simp [*, errW_none, errW_some] <;> rfl), by (with_reducible repeat (first | apply Kd.R_alloc | apply Kd.R_drewN | apply Kd.R_drew)); exact HO_4.out, by repeat (first | (with_reducible first | exact HB.out | apply pA | apply pN | apply pD) | exact HB.out)⟩
   rw [if_pos c6] at H
   have c6b0 : decide (x5_1 < (a0.size : Int)) = true := decide_eq_true c6
   clear c6
   by_cases c7 : 0 ≤ x5_1
   rotate_left
   ·rw [if_neg c7] at H
    exact absurd H (by simp)
   rw [if_pos c7] at H
   have c7b0 : decide (0 ≤ x5_1) = true := decide_eq_true c7
   clear c7
   replace H := Option.bind_eq_some_iff.mp H
   obtain ⟨t408, A90, H⟩ := H
   replace H : (if t408 = true then (if x5_1 < (t402.length : Int) then (if x5_1 ≤ (wrap64 ((rd t402 x5_1) + 1)) then (if (wrap64 ((rd t402 x5_1) + 1)) ≤ (a0.size : Int) then (if x4_1.length < 8796093022208 then (spec_l01Factors.l0 k1 a0 t402 (x4_1 ++ [a0.extract (x5_1 : Int).toNat ((wrap64 ((rd t402 x5_1) + 1)) : Int).toNat]) (wrap64 ((rd t402 x5_1) + 1))) else (none)) else (none)) else (none)) else (none)) else (if x5_1 ≤ (wrap64 (x5_1 + 1)) then (if (wrap64 (x5_1 + 1)) ≤ (a0.size : Int) then (if x4_1.length < 8796093022208 then (spec_l01Factors.l0 k1 a0 t402 (x4_1 ++ [a0.extract (x5_1 : Int).toNat ((wrap64 (x5_1 + 1)) : Int).toNat]) (wrap64 (x5_1 + 1))) else (none)) else (none)) else (none))) = some r := H
   have A9 := AZ.mk A90
   clear A90
   by_cases c10 : t408 = true
   rotate_left
   ·replace c10 := Bool.eq_false_iff.mpr c10
    subst c10
    have H1 : (if x5_1 ≤ (wrap64 (x5_1 + 1)) then (if (wrap64 (x5_1 + 1)) ≤ (a0.size : Int) then (if x4_1.length < 8796093022208 then (spec_l01Factors.l0 k1 a0 t402 (x4_1 ++ [a0.extract (x5_1 : Int).toNat ((wrap64 (x5_1 + 1)) : Int).toNat]) (wrap64 (x5_1 + 1))) else (none)) else (none)) else (none)) = some r := by rw [if_neg (show ¬ (false = true) by decide)] at H; exact H
    clear H
    have H := H1
    clear H1
    have c18b0 := eq_true (oT (by first | (with_reducible assumption) | assumption) : 0 ≤ x5_1)
    by_cases c19 : x5_1 ≤ (wrap64 (x5_1 + 1))
    rotate_left
    ·rw [if_neg c19] at H
     exact absurd H (by simp)
    rw [if_pos c19] at H
    have c19b0 := eq_true c19
    have c19b1 : decide (x5_1 ≤ (wrap64 (x5_1 + 1))) = true := decide_eq_true c19
    by_cases c20 : (wrap64 (x5_1 + 1)) ≤ (a0.size : Int)
    rotate_left
    ·rw [if_neg c20] at H
     exact absurd H (by simp)
    rw [if_pos c20] at H
    have c20b0 := eq_true c20
    have c20b1 : decide ((wrap64 (x5_1 + 1)) ≤ (a0.size : Int)) = true := decide_eq_true c20
    by_cases c21 : x4_1.length < 8796093022208
    rotate_left
    ·rw [if_neg c21] at H
     exact absurd H (by simp)
    rw [if_pos c21] at H
    have LMc21 := AZ.mk c21
    clear c21
    obtain ⟨y413, hy413⟩ : ∃ y_ : List ByteArray, y_ = (x4_1 ++ [a0.extract (x5_1 : Int).toNat ((wrap64 (x5_1 + 1)) : Int).toNat]) := ⟨_, rfl⟩
    replace H : (spec_l01Factors.l0 k1 a0 t402 y413 (wrap64 (x5_1 + 1))) = some r := by first | (rw [hy413]; with_reducible exact H) | (have H2_ := (Option.bind_some _ _).symm.trans H; rw [hy413]; with_reducible exact H2_) | (have H2_ := (Option.bind_some _ _).symm.trans H; with_reducible exact H2_) | with_reducible exact H | (rw [hy413]; exact H) | exact H
    have Ny413 := AZ.mk hy413
    clear hy413
    have H' := AZ.mk H
    clear H
    have p8 : 0 ≤ (x5_1 : Int) := oT (by first | (with_reducible assumption) | assumption)
    have q8 : x5_1 < (a0.size : Int) := oT (by first | (with_reducible assumption) | assumption)
    have hx8 := bt_at a0 x5_1
    replace p8 := eq_true p8
    replace q8 := eq_true q8
    go_wp2_with (first | ((with_reducible refine gate_callee (f := 76) rfl ?_); refine goesL_ (some 19) rfl rfl Try.func76 (by kernel_rfl) rfl #[.int .u8 (bt a0 x5_1)] rfl (by (try simp only [List.map_toArray, List.map_cons, List.map_nil]); first | done | rfl | (simp only [List.length_drop, List.length_take]; rfl)) ?_; (with_reducible refine (spec_l01Call.calls (bt a0 x5_1) false _ A9.out).mono ?_); rintro e w' ⟨rfl, ⟨nd, rfl⟩⟩; refine ⟨_, rfl, ?_⟩) | ((with_reducible refine gate_builtin (b := .append) (xs := #[.tmp 25, .tmp 30]) rfl ?_); at_builtin; refine Kd.R_append Kd.string (w0 := w) w.heap.size rfl (.tmp 25) (.tmp 30) 86 9 (.string ⟨#[]⟩) 16 rfl Try.underlying86 info9 rfl (by decide) (by omega) u4 x4_1 (a0.extract (x5_1 : Int).toNat ((wrap64 (x5_1 + 1)) : Int).toNat) [.string (a0.extract (x5_1 : Int).toNat ((wrap64 (x5_1 + 1)) : Int).toNat)] (fun _ => True) (fun _ => False) rfl rfl ?aP (fun _ hk => hk.elim) ?aF ?aO ?aB ?aS ?aL ?_; (case aP => exact rfl); (case aB => exact (by repeat (first | (with_reducible first | exact HB.out | apply pA | apply pN | apply pD) | exact HB.out))); (case aF => exact (fun _ _ => trivial)); (case aO => exact (by (with_reducible repeat (first | apply Kd.R_alloc | apply Kd.R_drewN | apply Kd.R_drew)); exact HO_4.out)); (case aS => exact (pZ (by repeat (first | (with_reducible first | exact HB.out | apply pA | apply pN | apply pD) | exact HB.out)))); (case aL => have := LMc21.out; omega); intro v414 w22 ho hb hg hat; rw [← Ny413.out] at ho; have n0_ := AZ.mk (Kd.R_over' (by (with_reducible repeat (first | apply Kd.R_alloc | apply Kd.R_drewN | apply Kd.R_drew)); exact HO_3.out) (Kd.R_typed (by (with_reducible repeat (first | apply Kd.R_alloc | apply Kd.R_drewN | apply Kd.R_drew)); exact HO_4.out)) (by decide) hg); have n1_ := AZ.mk (hb); have n2_ := AZ.mk (ho); clear HO_3; clear HB; clear HO_4; have HO_3 := n0_; have HB := n1_; have HO415 := n2_; clear n0_ n1_ n2_; clear ho hb hg hat))
    go_roundg k1
    case measure => have := HK1.out; omega
    case rel => exact ⟨(y413), (wrap64 (x5_1 + 1)), (by first | rfl | (simp; done) | (simp [*]; done)), H', ⟨by have := HK1.out; omega⟩, ⟨by (with_reducible repeat (first | apply Kd.R_alloc | apply Kd.R_drewN | apply Kd.R_drew)); exact HO_3.out⟩, ⟨by (with_reducible repeat (first | apply Kd.R_alloc | apply Kd.R_drewN | apply Kd.R_drew)); exact HO415.out⟩, ⟨by repeat (first | (with_reducible first | exact HB.out | apply pA | apply pN | apply pD) | exact HB.out)⟩⟩
   subst c10
   have H1 : (if x5_1 < (t402.length : Int) then (if x5_1 ≤ (wrap64 ((rd t402 x5_1) + 1)) then (if (wrap64 ((rd t402 x5_1) + 1)) ≤ (a0.size : Int) then (if x4_1.length < 8796093022208 then (spec_l01Factors.l0 k1 a0 t402 (x4_1 ++ [a0.extract (x5_1 : Int).toNat ((wrap64 ((rd t402 x5_1) + 1)) : Int).toNat]) (wrap64 ((rd t402 x5_1) + 1))) else (none)) else (none)) else (none)) else (none)) = some r := by rw [if_pos rfl] at H; exact H
   clear H
   have H := H1
   clear H1
   by_cases c11 : x5_1 < (t402.length : Int)
   rotate_left
   ·rw [if_neg c11] at H
    exact absurd H (by simp)
   rw [if_pos c11] at H
   have c11b0 : decide (x5_1 < (t402.length : Int)) = true := decide_eq_true c11
   clear c11
   have c12b0 := eq_true (oT (by first | (with_reducible assumption) | assumption) : 0 ≤ x5_1)
   by_cases c13 : x5_1 ≤ (wrap64 ((rd t402 x5_1) + 1))
   rotate_left
   ·rw [if_neg c13] at H
    exact absurd H (by simp)
   rw [if_pos c13] at H
   have c13b0 := eq_true c13
   have c13b1 : decide (x5_1 ≤ (wrap64 ((rd t402 x5_1) + 1))) = true := decide_eq_true c13
   by_cases c14 : (wrap64 ((rd t402 x5_1) + 1)) ≤ (a0.size : Int)
   rotate_left
   ·rw [if_neg c14] at H
    exact absurd H (by simp)
   rw [if_pos c14] at H
   have c14b0 := eq_true c14
   have c14b1 : decide ((wrap64 ((rd t402 x5_1) + 1)) ≤ (a0.size : Int)) = true := decide_eq_true c14
   by_cases c15 : x4_1.length < 8796093022208
   rotate_left
   ·rw [if_neg c15] at H
    exact absurd H (by simp)
   rw [if_pos c15] at H
   have LMc15 := AZ.mk c15
   clear c15
   obtain ⟨y410, hy410⟩ : ∃ y_ : List ByteArray, y_ = (x4_1 ++ [a0.extract (x5_1 : Int).toNat ((wrap64 ((rd t402 x5_1) + 1)) : Int).toNat]) := ⟨_, rfl⟩
   replace H : (spec_l01Factors.l0 k1 a0 t402 y410 (wrap64 ((rd t402 x5_1) + 1))) = some r := by first | (rw [hy410]; with_reducible exact H) | (have H2_ := (Option.bind_some _ _).symm.trans H; rw [hy410]; with_reducible exact H2_) | (have H2_ := (Option.bind_some _ _).symm.trans H; with_reducible exact H2_) | with_reducible exact H | (rw [hy410]; exact H) | exact H
   have Ny410 := AZ.mk hy410
   clear hy410
   have H' := AZ.mk H
   clear H
   have p8 : 0 ≤ (x5_1 : Int) := oT (by first | (with_reducible assumption) | assumption)
   have q8 : x5_1 < (a0.size : Int) := oT (by first | (with_reducible assumption) | assumption)
   have hx8 := bt_at a0 x5_1
   replace p8 := eq_true p8
   replace q8 := eq_true q8
   go_wp2_with (first | ((with_reducible refine gate_callee (f := 76) rfl ?_); refine goesL_ (some 19) rfl rfl Try.func76 (by kernel_rfl) rfl #[.int .u8 (bt a0 x5_1)] rfl (by (try simp only [List.map_toArray, List.map_cons, List.map_nil]); first | done | rfl | (simp only [List.length_drop, List.length_take]; rfl)) ?_; (with_reducible refine (spec_l01Call.calls (bt a0 x5_1) true _ A9.out).mono ?_); rintro e w' ⟨rfl, ⟨nd, rfl⟩⟩; refine ⟨_, rfl, ?_⟩; obtain ⟨Ao16, co16, eo16⟩ := Kd.R_slice HO_3.out; subst eo16; have p409 : 0 ≤ (x5_1 : Int) := oT (by first | (with_reducible assumption) | assumption); have q409 : x5_1 < (t402.length : Int) := oT (by first | (with_reducible assumption) | assumption); obtain ⟨ad409, e409, hx409_0⟩ := Kd.at_int (Kd.R_reads' HO_3.out).2.2 x5_1 p409 q409; cases e409; replace p409 := eq_true p409; replace q409 := eq_true q409) | ((with_reducible refine gate_builtin (b := .append) (xs := #[.tmp 25, .tmp 30]) rfl ?_); at_builtin; refine Kd.R_append Kd.string (w0 := w) w.heap.size rfl (.tmp 25) (.tmp 30) 86 9 (.string ⟨#[]⟩) 16 rfl Try.underlying86 info9 rfl (by decide) (by omega) u4 x4_1 (a0.extract (x5_1 : Int).toNat ((wrap64 ((rd t402 x5_1) + 1)) : Int).toNat) [.string (a0.extract (x5_1 : Int).toNat ((wrap64 ((rd t402 x5_1) + 1)) : Int).toNat)] (fun _ => True) (fun _ => False) rfl rfl ?aP (fun _ hk => hk.elim) ?aF ?aO ?aB ?aS ?aL ?_; (case aP => exact rfl); (case aB => exact (by repeat (first | (with_reducible first | exact HB.out | apply pA | apply pN | apply pD) | exact HB.out))); (case aF => exact (fun _ _ => trivial)); (case aO => exact (by (with_reducible repeat (first | apply Kd.R_alloc | apply Kd.R_drewN | apply Kd.R_drew)); exact HO_4.out)); (case aS => exact (pZ (by repeat (first | (with_reducible first | exact HB.out | apply pA | apply pN | apply pD) | exact HB.out)))); (case aL => have := LMc15.out; omega); intro v411 w17 ho hb hg hat; rw [← Ny410.out] at ho; have n0_ := AZ.mk (Kd.R_over' (by (with_reducible repeat (first | apply Kd.R_alloc | apply Kd.R_drewN | apply Kd.R_drew)); exact HO_3.out) (Kd.R_typed (by (with_reducible repeat (first | apply Kd.R_alloc | apply Kd.R_drewN | apply Kd.R_drew)); exact HO_4.out)) (by decide) hg); have n1_ := AZ.mk (hb); have n2_ := AZ.mk (ho); clear HO_3; clear HB; clear HO_4; have HO_3 := n0_; have HB := n1_; have HO412 := n2_; clear n0_ n1_ n2_; clear ho hb hg hat))
   go_roundg k1
   case measure => have := HK1.out; omega
   case rel => exact ⟨(y410), (wrap64 ((rd t402 x5_1) + 1)), (by first | rfl | (simp; done) | (simp [*]; done)), H', ⟨by have := HK1.out; omega⟩, ⟨by (with_reducible repeat (first | apply Kd.R_alloc | apply Kd.R_drewN | apply Kd.R_drew)); exact HO_3.out⟩, ⟨by (with_reducible repeat (first | apply Kd.R_alloc | apply Kd.R_drewN | apply Kd.R_drew)); exact HO412.out⟩, ⟨by repeat (first | (with_reducible first | exact HB.out | apply pA | apply pN | apply pD) | exact HB.out)⟩⟩
end Go.Proofs.Ytgfilbgjnloopaa.P
namespace Go.Proofs.Ytgfilbgjnloopaa.P
open Go.RowKit Go.Proofs.YtgfilbgjnloopaaW.PrintWords Go.Proofs.YtgfilbgjnloopaaW.PrintLast Go.Proofs.YtgfilbgjnloopaaW.PrintMore
attribute [local go_sem] max2_int min2_int max_two min_two max_three min_three max_four min_four
set_option linter.unusedVariables false
set_option linter.unusedSimpArgs false
def spec_l04Kind.f (a0 : Int) (a1 : Int) : Option (Int) := if a0 = 91 then (if a1 = 93 then (some (2 + 1)) else (some 2)) else (if a1 = 93 then (some 1) else (some 0))
set_option maxHeartbeats 8000000 in
set_option maxRecDepth 100000 in
theorem spec_l04Kind.calls (a0 : Int) (a1 : Int) (r : Int) (w : World) (h : spec_l04Kind.f a0 a1 = some r) :
  Calls Try.prog 65 #[.int .u8 a0, .int .u8 a1] w fun e w' => e = .returned (.int .i64 r) ∧ Drawn0 w w' := by
 have H : (if a0 = 91 then (if a1 = 93 then (some (2 + 1)) else (some 2)) else (if a1 = 93 then (some 1) else (some 0))) = some r := h
 clear h
 by_cases c3 : a0 = 91
 rotate_left
 ·rw [if_neg c3] at H
  have c3b0 : (a0 == 91) = false := beq_eq_false_iff_ne.mpr c3
  have c3b1 : (a0 != 91) = true := bne_iff_ne.mpr c3
  by_cases c5 : a1 = 93
  rotate_left
  ·rw [if_neg c5] at H
   have c5b0 : (a1 == 93) = false := beq_eq_false_iff_ne.mpr c5
   have c5b1 : (a1 != 93) = true := bne_iff_ne.mpr c5
   obtain rfl := Option.some.inj H
   go_enter Try.func65, Try.ntmps65
   go_wp2
   go_ret
   exact ⟨by first | rfl | (simp; done) | (simp [*]; done), by repeat (first | exact Drawn0.refl _ | apply Drawn0.step)⟩
  rw [if_pos c5] at H
  have c5b0 : (a1 == 93) = true := beq_iff_eq.mpr c5
  have c5b1 : (a1 != 93) = false := bne_eq_false_iff_eq.mpr c5
  clear c5
  obtain rfl := Option.some.inj H
  go_enter Try.func65, Try.ntmps65
  go_wp2
  go_ret
  exact ⟨by first | rfl | (simp; done) | (simp [*]; done), by repeat (first | exact Drawn0.refl _ | apply Drawn0.step)⟩
 rw [if_pos c3] at H
 have c3b0 : (a0 == 91) = true := beq_iff_eq.mpr c3
 have c3b1 : (a0 != 91) = false := bne_eq_false_iff_eq.mpr c3
 clear c3
 by_cases c4 : a1 = 93
 rotate_left
 ·rw [if_neg c4] at H
  have c4b0 : (a1 == 93) = false := beq_eq_false_iff_ne.mpr c4
  have c4b1 : (a1 != 93) = true := bne_iff_ne.mpr c4
  obtain rfl := Option.some.inj H
  go_enter Try.func65, Try.ntmps65
  go_wp2
  go_ret
  exact ⟨by first | rfl | (simp; done) | (simp [*]; done), by repeat (first | exact Drawn0.refl _ | apply Drawn0.step)⟩
 rw [if_pos c4] at H
 have c4b0 : (a1 == 93) = true := beq_iff_eq.mpr c4
 have c4b1 : (a1 != 93) = false := bne_eq_false_iff_eq.mpr c4
 clear c4
 obtain rfl := Option.some.inj H
 go_enter Try.func65, Try.ntmps65
 go_wp2
 go_ret
 exact ⟨by first | rfl | (simp; done) | (simp [*]; done), by repeat (first | exact Drawn0.refl _ | apply Drawn0.step)⟩
end Go.Proofs.Ytgfilbgjnloopaa.P
namespace Go.Proofs.Ytgfilbgjnloopaa.P
open Go.RowKit Go.Proofs.YtgfilbgjnloopaaW.PrintWords Go.Proofs.YtgfilbgjnloopaaW.PrintLast Go.Proofs.YtgfilbgjnloopaaW.PrintMore
attribute [local go_sem] max2_int min2_int max_two min_two max_three min_three max_four min_four
set_option linter.unusedVariables false
set_option linter.unusedSimpArgs false
mutual
def spec_l04Element.l0 : Nat → Int → List ByteArray → Int → List (List Int) → List (List Int) → List Int → List Bool → Option (Int)
 | 0, _, _, _, _, _, _, _ => none
 | k + 1, x5, x6, x7, x1000, x1001, x1002, x1003 => if x7 < (x6.length : Int) then (if 0 ≤ x7 then (if ((rdOf ByteArray.empty x6 x7).size : Int) = 1 then (if 0 < ((rdOf ByteArray.empty x6 x7).size : Int) then (if 0 ≤ (((bt (rdOf ByteArray.empty x6 x7) 0) - 97) % 256) then (if (((bt (rdOf ByteArray.empty x6 x7) 0) - 97) % 256) < (x1002.length : Int) then (if 0 ≤ x5 then (if x5 < (x1000.length : Int) then (if 0 ≤ (rd x1002 (((bt (rdOf ByteArray.empty x6 x7) 0) - 97) % 256)) then (if (rd x1002 (((bt (rdOf ByteArray.empty x6 x7) 0) - 97) % 256)) < ((rd_L1 x1000 x5).length : Int) then (spec_l04Element.l0 k (rd (rd_L1 x1000 x5) (rd x1002 (((bt (rdOf ByteArray.empty x6 x7) 0) - 97) % 256))) x6 (wrap64 (x7 + 1)) x1000 x1001 x1002 x1003) else (none)) else (none)) else (none)) else (none)) else (none)) else (none)) else (none)) else (if 0 < ((rdOf ByteArray.empty x6 x7).size : Int) then (if 0 ≤ (wrap64 (((rdOf ByteArray.empty x6 x7).size : Int) - 1)) then (if (wrap64 (((rdOf ByteArray.empty x6 x7).size : Int) - 1)) < ((rdOf ByteArray.empty x6 x7).size : Int) then ((spec_l04Kind.f (bt (rdOf ByteArray.empty x6 x7) 0) (bt (rdOf ByteArray.empty x6 x7) (wrap64 (((rdOf ByteArray.empty x6 x7).size : Int) - 1)))).bind fun t423 => (if 0 ≤ t423 then (if t423 < (x1001.length : Int) then (if 1 ≤ (wrap64 (((rdOf ByteArray.empty x6 x7).size : Int) - 1)) then (if (wrap64 (((rdOf ByteArray.empty x6 x7).size : Int) - 1)) ≤ ((rdOf ByteArray.empty x6 x7).size : Int) then ((spec_l04Element.f k x1000 x1001 x1002 x1003 ((rdOf ByteArray.empty x6 x7).extract 1 ((wrap64 (((rdOf ByteArray.empty x6 x7).size : Int) - 1)) : Int).toNat)).bind fun t425 => (if 0 ≤ t425 then (if t425 < ((rd_L1 x1001 t423).length : Int) then (if 0 ≤ x5 then (if x5 < (x1000.length : Int) then (if 0 ≤ (rd (rd_L1 x1001 t423) t425) then (if (rd (rd_L1 x1001 t423) t425) < ((rd_L1 x1000 x5).length : Int) then (spec_l04Element.l0 k (rd (rd_L1 x1000 x5) (rd (rd_L1 x1001 t423) t425)) x6 (wrap64 (x7 + 1)) x1000 x1001 x1002 x1003) else (none)) else (none)) else (none)) else (none)) else (none)) else (none))) else (none)) else (none)) else (none)) else (none))) else (none)) else (none)) else (none))) else (none)) else (some x5)
def spec_l04Element.f : Nat → List (List Int) → List (List Int) → List Int → List Bool → ByteArray → Option (Int)
 | 0, _, _, _, _, _ => none
 | k + 1, l0_0, l0_1, l0_2, l0_3, a1 => (spec_l01Factors.f k a1).bind fun t416 => (spec_l04Element.l0 k 0 t416 0 l0_0 l0_1 l0_2 l0_3)
end
def spec_l04Element.T9 : Bool × List (List Nat × List Nat) := (true, [([], []), ([0], [0]), ([1], [1]), ([2], [2]), ([], []), ([4], [4]), ([5], [5]), ([3, 6], [3, 6]), ([7], [7]), ([8, 0, 1, 2, 3, 4, 5, 6, 7, 8], [8])])
def spec_l04Element.B9 : List Nat := [0, 1, 3, 7, 0, 16, 48, 127, 255, 511]
theorem spec_l04Element.tab9 : rtab .any (opsOf Try.f46 9) = spec_l04Element.T9 := by kernel_rfl
theorem spec_l04Element.bits9 : waitsOk spec_l04Element.T9.2 spec_l04Element.B9 = true := by kernel_rfl
def spec_l04Element.T10 : Bool × List (List Nat × List Nat) := (true, [([], []), ([0], [0]), ([1], [1]), ([2], [2]), ([], []), ([4], [4]), ([], []), ([], []), ([7], [7]), ([8], [8]), ([6, 9], [6, 9]), ([5, 10], [5, 10]), ([3, 11], [3, 11]), ([12], [12]), ([], []), ([], []), ([], []), ([16], [16]), ([17], [17]), ([15, 18], [15, 18]), ([14, 19, 11], [14, 19]), ([13, 20], [13, 20]), ([21], [21]), ([22, 20, 0, 1, 2, 3, 4, 5, 6, 7, 8, 9, 10, 11, 12, 13, 14, 15, 16, 17, 18, 19, 20, 21, 22], [22])])
def spec_l04Element.B10 : List Nat := [0, 1, 3, 7, 0, 16, 0, 0, 128, 384, 960, 2032, 4095, 8191, 0, 0, 0, 65536, 196608, 491520, 1036272, 2097151, 4194303, 8388607]
theorem spec_l04Element.tab10 : rtab .any (opsOf Try.f46 10) = spec_l04Element.T10 := by kernel_rfl
theorem spec_l04Element.bits10 : waitsOk spec_l04Element.T10.2 spec_l04Element.B10 = true := by kernel_rfl
def spec_l04Element.cz0 : List Nat := [0, 1, 2, 4, 403, 405, 6, 7, 408, 9]
def spec_l04Element.cz1 : List Nat := [0, 1, 2, 4, 6, 7, 8, 9, 14, 15, 16, 17, 18, 19, 403, 405, 410]
def spec_l04Element.cz2 : List Nat := [12, 413]
def spec_l04Element.cz3 : List Nat := [21, 422, 23]
set_option maxHeartbeats 8000000 in
set_option maxRecDepth 100000 in
theorem spec_l04Element.calls (k : Nat) : ∀ (g0_ : Nat) (A0_0 : Option Addr) (c0_0 : Nat) (l0_0 : List (List Int)) (A0_1 : Option Addr) (c0_1 : Nat) (l0_1 : List (List Int)) (A0_2 : Option Addr) (c0_2 : Nat) (l0_2 : List Int) (A0_3 : Option Addr) (c0_3 : Nat) (l0_3 : List Bool) (a1 : ByteArray) (r : Int) (w : World) (hr0_0 : Kd.C (Kd.slice 2 (Kd.int .i64)) w A0_0 l0_0.length l0_0) (hc0_0 : l0_0.length ≤ c0_0) (hr0_1 : Kd.C (Kd.slice 2 (Kd.int .i64)) w A0_1 l0_1.length l0_1) (hc0_1 : l0_1.length ≤ c0_1) (hr0_2 : Kd.C (Kd.int .i64) w A0_2 l0_2.length l0_2) (hc0_2 : l0_2.length ≤ c0_2) (hr0_3 : Kd.C Kd.bool w A0_3 l0_3.length l0_3) (hc0_3 : l0_3.length ≤ c0_3) (hbk0_0 : w.heap[g0_]? = some (.cells #[.slice A0_0 l0_0.length c0_0, .slice A0_1 l0_1.length c0_1, .slice A0_2 l0_2.length c0_2, .slice A0_3 l0_3.length c0_3] 29 (0, 0))) (h : spec_l04Element.f k l0_0 l0_1 l0_2 l0_3 a1 = some r),
  Calls Try.prog 46 #[.pointer (some ⟨g0_, 0, none⟩), .string a1] w fun e w' => e = .returned (.int .i64 r) ∧ Below w.heap.size w w' := by
 induction k using Nat.strongRecOn with
 | _ k ih =>
 intro g0_ A0_0 c0_0 l0_0 A0_1 c0_1 l0_1 A0_2 c0_2 l0_2 A0_3 c0_3 l0_3 a1 r w hr0_0 hc0_0 hr0_1 hc0_1 hr0_2 hc0_2 hr0_3 hc0_3 hbk0_0 h
 cases k with
 | zero => exact absurd h (by simp [spec_l04Element.f])
 | succ k =>
 simp only [spec_l04Element.f] at h
 have hu8w : ∀ x : Int, IntKind.u8.wrap x = x % 256 := fun x => rfl
 have HR0_0 := AZ.mk hr0_0
 have HC0_0 := AZ.mk hc0_0
 clear hr0_0 hc0_0
 have HR0_1 := AZ.mk hr0_1
 have HC0_1 := AZ.mk hc0_1
 clear hr0_1 hc0_1
 have HR0_2 := AZ.mk hr0_2
 have HC0_2 := AZ.mk hc0_2
 clear hr0_2 hc0_2
 have HR0_3 := AZ.mk hr0_3
 have HC0_3 := AZ.mk hc0_3
 clear hr0_3 hc0_3
 have BK0 := AZ.mk hbk0_0
 clear hbk0_0
 have HB := AZ.mk (Below.refl w.heap.size w)
 have H : ((spec_l01Factors.f k a1).bind fun t416 => (spec_l04Element.l0 k 0 t416 0 l0_0 l0_1 l0_2 l0_3)) = some r := h
 clear h
 replace H := Option.bind_eq_some_iff.mp H
 obtain ⟨t416, A30, H⟩ := H
 replace H : (spec_l04Element.l0 k 0 t416 0 l0_0 l0_1 l0_2 l0_3) = some r := H
 have A3 := AZ.mk A30
 clear A30
 have H' := AZ.mk H
 clear H
 go_enter Try.func46, Try.ntmps46
 go_wp2_with (first | ((with_reducible refine gate_callee (f := 64) rfl ?_); refine goesL_ (some 11) rfl rfl Try.func64 (by kernel_rfl) rfl #[.string a1] rfl (by (try simp only [List.map_toArray, List.map_cons, List.map_nil]); first | done | rfl | (simp only [List.length_drop, List.length_take]; rfl)) ?_; (with_reducible refine (spec_l01Factors.calls k a1 t416 _ A3.out).mono ?_); rintro e w4 ⟨v417, rfl, ho0, hb⟩; refine ⟨_, rfl, ?_⟩; have n0_ := AZ.mk (Kd.R_lower ho0 (pZ (by repeat (first | (with_reducible first | exact HB.out | apply pA | apply pN | apply pD | refine pS ?_ GE0.out) | exact HB.out)))); have n1_ := AZ.mk (bb_ (g := g0_) (o := .cells #[.slice A0_0 l0_0.length c0_0, .slice A0_1 l0_1.length c0_1, .slice A0_2 l0_2.length c0_2, .slice A0_3 l0_3.length c0_3] 29 (0, 0)) (by (with_reducible repeat (first | refine bn_ ?_ _ | refine bd_ ?_ | refine ba_ ?_ _)); exact BK0.out) hb); have n2_ := AZ.mk (pT (by repeat (first | (with_reducible first | exact HB.out | apply pA | apply pN | apply pD | refine pS ?_ GE0.out) | exact HB.out)) hb); clear BK0; clear HB; have HO418 := n0_; have BK0 := n1_; have HB := n2_; clear n0_ n1_ n2_; (try clear hb); (try clear hb2); (try clear hk); (try clear hi); (try clear ho0)))
 go_loopg [5, 7] k (fun kq v5 v7 w' => ∃ (x5_1 : Int) (x7_1 : Int), v5 = .int .i64 x5_1 ∧ v7 = .int .i64 x7_1 ∧ AZ (spec_l04Element.l0 kq x5_1 t416 x7_1 l0_0 l0_1 l0_2 l0_3 = some r) ∧ AZ (kq ≤ k) ∧ AZ (Kd.R Kd.string 9 w' w.heap.size (fun _ => True) v417 t416) ∧ AZ (w'.heap[g0_]? = some (.cells #[(.slice A0_0 l0_0.length c0_0), (.slice A0_1 l0_1.length c0_1), (.slice A0_2 l0_2.length c0_2), (.slice A0_3 l0_3.length c0_3)] 29 (0, 0))) ∧ AZ (Below w.heap.size w w'))
 case atStart => exact ⟨(0), (0), (by first | rfl | (simp; done) | (simp [*]; done)), (by first | rfl | (simp; done) | (simp [*]; done)), H', ⟨Nat.le_refl _⟩, ⟨by (with_reducible repeat (first | apply Kd.R_alloc | apply Kd.R_drewN | apply Kd.R_drew)); exact HO418.out⟩, ⟨by (with_reducible repeat (first | refine bn_ ?_ _ | refine bd_ ?_ | refine ba_ ?_ _)); exact BK0.out⟩, ⟨by repeat (first | (with_reducible first | exact HB.out | apply pA | apply pN | apply pD | refine pS ?_ GE0.out) | exact HB.out)⟩⟩
 case round =>
  clear H'
  try clear p2
  try clear c4
  obtain ⟨x5_1, x7_1, rfl, rfl, HA, HK1, HO_6, BK0, HB⟩ := hrel
  cases gk with
  | zero => exact absurd HA.out (by simp [spec_l04Element.l0])
  | succ k1 =>
   have H := HA.out
   clear HA
   simp only [spec_l04Element.l0] at H
   by_cases c5 : x7_1 < (t416.length : Int)
   rotate_left
   ·rw [if_neg c5] at H
    have c5b0 : decide (x7_1 < (t416.length : Int)) = false := decide_eq_false c5
    clear c5
    obtain rfl := Option.some.inj H
    obtain ⟨Ao42, co42, eo42⟩ := Kd.R_slice HO_6.out
    subst eo42
    go_wp2
    go_ret
    exact ⟨by first | rfl | (simp [errW_none, errW_some] <;> rfl) | (simp [*, errW_none, errW_some] <;> rfl), by repeat (first | (with_reducible first | exact HB.out | apply pA | apply pN | apply pD | refine pS ?_ GE0.out) | exact HB.out)⟩
   rw [if_pos c5] at H
   have c5b0 : decide (x7_1 < (t416.length : Int)) = true := decide_eq_true c5
   clear c5
   by_cases c6 : 0 ≤ x7_1
   rotate_left
   ·rw [if_neg c6] at H
    exact absurd H (by simp)
   rw [if_pos c6] at H
   have c6b0 : decide (0 ≤ x7_1) = true := decide_eq_true c6
   clear c6
   by_cases c7 : ((rdOf ByteArray.empty t416 x7_1).size : Int) = 1
   ·rw [if_pos c7] at H
    have c7b0 : (((rdOf ByteArray.empty t416 x7_1).size : Int) == 1) = true := beq_iff_eq.mpr c7
    have c7b1 : (((rdOf ByteArray.empty t416 x7_1).size : Int) != 1) = false := bne_eq_false_iff_eq.mpr c7
    clear c7
    by_cases c8 : 0 < ((rdOf ByteArray.empty t416 x7_1).size : Int)
    rotate_left
    ·rw [if_neg c8] at H
     exact absurd H (by simp)
    rw [if_pos c8] at H
    have c8b0 : decide (0 < ((rdOf ByteArray.empty t416 x7_1).size : Int)) = true := decide_eq_true c8
    have c8b1 : decide (0 < (rdOf ByteArray.empty t416 x7_1).size) = true := decide_eq_true (by omega)
    clear c8
    obtain ⟨ji10, hji10⟩ : ∃ j_ : Int, (((bt (rdOf ByteArray.empty t416 x7_1) 0) - 97) % 256) = j_ := ⟨_, rfl⟩
    replace H : (if 0 ≤ (ji10) then (if (ji10) < (l0_2.length : Int) then (if 0 ≤ x5_1 then (if x5_1 < (l0_0.length : Int) then (if 0 ≤ (rd l0_2 (ji10)) then (if (rd l0_2 (ji10)) < ((rd_L1 l0_0 x5_1).length : Int) then (spec_l04Element.l0 k1 (rd (rd_L1 l0_0 x5_1) (rd l0_2 (ji10))) t416 (wrap64 (x7_1 + 1)) l0_0 l0_1 l0_2 l0_3) else (none)) else (none)) else (none)) else (none)) else (none)) else (none)) = some r := by first | (rw [hji10] at H; exact H) | (simp only [hji10] at H ⊢; exact H)
    by_cases c11 : 0 ≤ (ji10)
    rotate_left
    ·rw [if_neg c11] at H
     exact absurd H (by simp)
    rw [if_pos c11] at H
    have c11b0 : decide (0 ≤ (ji10)) = true := decide_eq_true c11
    clear c11
    by_cases c12 : (ji10) < (l0_2.length : Int)
    rotate_left
    ·rw [if_neg c12] at H
     exact absurd H (by simp)
    rw [if_pos c12] at H
    have c12b0 : decide ((ji10) < (l0_2.length : Int)) = true := decide_eq_true c12
    clear c12
    by_cases c13 : 0 ≤ x5_1
    rotate_left
    ·rw [if_neg c13] at H
     exact absurd H (by simp)
    rw [if_pos c13] at H
    have c13b0 : decide (0 ≤ x5_1) = true := decide_eq_true c13
    clear c13
    by_cases c14 : x5_1 < (l0_0.length : Int)
    rotate_left
    ·rw [if_neg c14] at H
     exact absurd H (by simp)
    rw [if_pos c14] at H
    have c14b0 : decide (x5_1 < (l0_0.length : Int)) = true := decide_eq_true c14
    clear c14
    by_cases c15 : 0 ≤ (rd l0_2 (ji10))
    rotate_left
    ·rw [if_neg c15] at H
     exact absurd H (by simp)
    rw [if_pos c15] at H
    have c15b0 : decide (0 ≤ (rd l0_2 (ji10))) = true := decide_eq_true c15
    clear c15
    by_cases c16 : (rd l0_2 (ji10)) < ((rd_L1 l0_0 x5_1).length : Int)
    rotate_left
    ·rw [if_neg c16] at H
     exact absurd H (by simp)
    rw [if_pos c16] at H
    have c16b0 : decide ((rd l0_2 (ji10)) < ((rd_L1 l0_0 x5_1).length : Int)) = true := decide_eq_true c16
    clear c16
    have H' := AZ.mk H
    clear H
    obtain ⟨Ao17, co17, eo17⟩ := Kd.R_slice HO_6.out
    subst eo17
    have p419 : 0 ≤ (x7_1 : Int) := oT (by first | (with_reducible assumption) | assumption)
    have q419 : x7_1 < (t416.length : Int) := oT (by first | (with_reducible assumption) | assumption)
    obtain ⟨ad419, e419, hx419_0⟩ := Kd.at_string (Kd.R_reads' HO_6.out).2.2 x7_1 p419 q419
    cases e419
    replace p419 := eq_true p419
    replace q419 := eq_true q419
    try go_wp2
    have n0_ := AZ.mk (Kd.R_drew HO_6.out)
    have n1_ := AZ.mk (bd_ BK0.out)
    have n2_ := AZ.mk (pD HB.out)
    clear HO_6
    clear BK0
    clear HB
    have HO_6 := n0_
    have BK0 := n1_
    have HB := n2_
    clear n0_ n1_ n2_
    have p9 : 0 ≤ (0 : Int) := (by omega)
    have q9 : 0 < (rdOf ByteArray.empty t416 x7_1).size := (by have : (0 : Int) < ((rdOf ByteArray.empty t416 x7_1).size : Int) := oT (by first | (with_reducible assumption) | assumption); omega)
    have hx9 : ∀ h : 0 < (rdOf ByteArray.empty t416 x7_1).size, (((rdOf ByteArray.empty t416 x7_1)[0]'h).toNat : Int) = bt (rdOf ByteArray.empty t416 x7_1) 0 := bt_at (rdOf ByteArray.empty t416 x7_1) 0
    clear p9
    have qi9 : (0 < ((rdOf ByteArray.empty t416 x7_1).size : Int)) = True := eq_true (oT (by first | (with_reducible assumption) | assumption))
    replace q9 := eq_true q9
    have p420 : 0 ≤ ((ji10) : Int) := oT (by first | (with_reducible assumption) | assumption)
    have q420 : (ji10) < (l0_2.length : Int) := oT (by first | (with_reducible assumption) | assumption)
    obtain ⟨ad420, e420, hx420_0⟩ := Kd.at_int HR0_2.out (ji10) p420 q420
    have hw420_0 := hx420_0
    cases e420
    replace hx420_0 := (HB.out.cell (World.block_lt_of_cell? w _ hx420_0)).trans hx420_0
    replace p420 := eq_true p420
    replace q420 := eq_true q420
    refine start_ (n := 10) (S := fun w' => w'.cell? ⟨g0_, 0, none⟩ = some (.slice A0_0 l0_0.length c0_0) ∧ w'.cell? ⟨g0_, 1, none⟩ = some (.slice A0_1 l0_1.length c0_1) ∧ w'.cell? ⟨g0_, 2, none⟩ = some (.slice (some ad420) l0_2.length c0_2) ∧ w'.cell? ⟨g0_, 3, none⟩ = some (.slice A0_3 l0_3.length c0_3) ∧ w'.cell? (ad420.add ((ji10)).toNat) = some (.int .i64 (rd l0_2 (ji10)))) (ds := []) (bz 10 0) (by kernel_rfl) rfl rfl ⟨(bc BK0.out 0).trans rfl, (bc BK0.out 1).trans rfl, (bc BK0.out 2).trans rfl, (bc BK0.out 3).trans rfl, ((HB.out.cell (World.block_lt_of_cell? w _ hw420_0)).trans hw420_0)⟩ (fun hHeld => ?_); refine with_tabW spec_l04Element.tab9 spec_l04Element.bits9 (fun HT_ HW_ => ?_)
    generalize wr.drew = w18 at HO_6 BK0 HB hx420_0 hHeld ⊢
    iterate 10 (first | (refine pz_ HT_ spec_l04Element.cz0 rfl rfl rfl (v := ?_) (a' := ?_) (by kernel_rfl) (fun _ _ _ h => h) (Or.inl ⟨by rfl, ?_⟩) ?_ ?_; rotate_left; (intro w'; go_simp; with_reducible rfl); rotate_left; (simp only [Act.put, sA, sB, sC, i64_w, i32_w]; rfl)) | (refine tz_ HT_ HW_ spec_l04Element.cz0 rfl rfl rfl (v := ?_) (a' := ?_) (by kernel_rfl) (fun _ _ _ h => h) (Or.inl ⟨by rfl, ?_⟩) hHeld ?_ ?_; rotate_left; (rintro w' ⟨s0, s1, s2, s3, s4⟩; go_simp; with_reducible rfl); rotate_left; (simp only [Act.put, sA, sB, sC, i64_w, i32_w]; rfl)))
    refine done_ (done_of HT_.out (by kernel_rfl)) ?_
    have hcz19_0 : w18.cell? ⟨g0_, 0, none⟩ = some (.slice A0_0 l0_0.length c0_0) := (bc BK0.out 0).trans rfl
    have hcz19_1 : w18.cell? ⟨g0_, 1, none⟩ = some (.slice A0_1 l0_1.length c0_1) := (bc BK0.out 1).trans rfl
    have hcz19_2 : w18.cell? ⟨g0_, 2, none⟩ = some (.slice (some ad420) l0_2.length c0_2) := (bc BK0.out 2).trans rfl
    have hcz19_3 : w18.cell? ⟨g0_, 3, none⟩ = some (.slice A0_3 l0_3.length c0_3) := (bc BK0.out 3).trans rfl
    have hfz19_0 := bf BK0.out 0
    have hfz19_1 := bf BK0.out 1
    have hfz19_2 := bf BK0.out 2
    have hfz19_3 := bf BK0.out 3
    have p421 : 0 ≤ (x5_1 : Int) := oT (by first | (with_reducible assumption) | assumption)
    have q421 : x5_1 < (l0_0.length : Int) := oT (by first | (with_reducible assumption) | assumption)
    obtain ⟨ad421, A421_0, c421_0, e421, hx421_0, hl421_0, hi421_0⟩ := at_L1 HR0_0.out x5_1 p421 q421
    cases e421
    replace hx421_0 := (HB.out.cell (World.block_lt_of_cell? w _ hx421_0)).trans hx421_0
    have HR421_0 := AZ.mk hi421_0
    have HC421_0 := AZ.mk hl421_0
    clear hi421_0 hl421_0
    replace p421 := eq_true p421
    replace q421 := eq_true q421
    have p422 : 0 ≤ ((rd l0_2 (ji10)) : Int) := oT (by first | (with_reducible assumption) | assumption)
    have q422 : (rd l0_2 (ji10)) < ((rd_L1 l0_0 x5_1).length : Int) := oT (by first | (with_reducible assumption) | assumption)
    obtain ⟨ad422, e422, hx422_0⟩ := Kd.at_int HR421_0.out (rd l0_2 (ji10)) p422 q422
    cases e422
    replace hx422_0 := (HB.out.cell (World.block_lt_of_cell? w _ hx422_0)).trans hx422_0
    replace p422 := eq_true p422
    replace q422 := eq_true q422
    try go_wp2
    go_roundg k1
    case measure => have := HK1.out; omega
    case rel => exact ⟨(rd (rd_L1 l0_0 x5_1) (rd l0_2 (ji10))), (wrap64 (x7_1 + 1)), (by first | rfl | (simp; done) | (simp only [← hji10] <;> (first | rfl | simp)) | (simp [*]; done)), (by first | rfl | (simp; done) | (simp [*]; done)), H', ⟨by have := HK1.out; omega⟩, ⟨by (with_reducible repeat (first | apply Kd.R_alloc | apply Kd.R_drewN | apply Kd.R_drew)); exact HO_6.out⟩, ⟨by (with_reducible repeat (first | refine bn_ ?_ _ | refine bd_ ?_ | refine ba_ ?_ _)); exact BK0.out⟩, ⟨by repeat (first | (with_reducible first | exact HB.out | apply pA | apply pN | apply pD | refine pS ?_ GE0.out) | exact HB.out)⟩⟩
   rw [if_neg c7] at H
   have c7b0 : (((rdOf ByteArray.empty t416 x7_1).size : Int) == 1) = false := beq_eq_false_iff_ne.mpr c7
   have c7b1 : (((rdOf ByteArray.empty t416 x7_1).size : Int) != 1) = true := bne_iff_ne.mpr c7
   by_cases c20 : 0 < ((rdOf ByteArray.empty t416 x7_1).size : Int)
   rotate_left
   ·rw [if_neg c20] at H
    exact absurd H (by simp)
   rw [if_pos c20] at H
   have c20b0 : decide (0 < ((rdOf ByteArray.empty t416 x7_1).size : Int)) = true := decide_eq_true c20
   have c20b1 : decide (0 < (rdOf ByteArray.empty t416 x7_1).size) = true := decide_eq_true (by omega)
   clear c20
   obtain ⟨ji22, hji22⟩ : ∃ j_ : Int, (wrap64 (((rdOf ByteArray.empty t416 x7_1).size : Int) - 1)) = j_ := ⟨_, rfl⟩
   replace H : (if 0 ≤ (ji22) then (if (ji22) < ((rdOf ByteArray.empty t416 x7_1).size : Int) then ((spec_l04Kind.f (bt (rdOf ByteArray.empty t416 x7_1) 0) (bt (rdOf ByteArray.empty t416 x7_1) (ji22))).bind fun t423 => (if 0 ≤ t423 then (if t423 < (l0_1.length : Int) then (if 1 ≤ (ji22) then (if (ji22) ≤ ((rdOf ByteArray.empty t416 x7_1).size : Int) then ((spec_l04Element.f k1 l0_0 l0_1 l0_2 l0_3 ((rdOf ByteArray.empty t416 x7_1).extract 1 ((ji22) : Int).toNat)).bind fun t425 => (if 0 ≤ t425 then (if t425 < ((rd_L1 l0_1 t423).length : Int) then (if 0 ≤ x5_1 then (if x5_1 < (l0_0.length : Int) then (if 0 ≤ (rd (rd_L1 l0_1 t423) t425) then (if (rd (rd_L1 l0_1 t423) t425) < ((rd_L1 l0_0 x5_1).length : Int) then (spec_l04Element.l0 k1 (rd (rd_L1 l0_0 x5_1) (rd (rd_L1 l0_1 t423) t425)) t416 (wrap64 (x7_1 + 1)) l0_0 l0_1 l0_2 l0_3) else (none)) else (none)) else (none)) else (none)) else (none)) else (none))) else (none)) else (none)) else (none)) else (none))) else (none)) else (none)) = some r := by first | (rw [hji22] at H; exact H) | (simp only [hji22] at H ⊢; exact H)
   have hji22w : (IntKind.i64.wrap (((rdOf ByteArray.empty t416 x7_1).size : Int) - 1)) = ji22 := (i64_w _).trans hji22
   by_cases c23 : 0 ≤ (ji22)
   rotate_left
   ·rw [if_neg c23] at H
    exact absurd H (by simp)
   rw [if_pos c23] at H
   have c23b0 : decide (0 ≤ (ji22)) = true := decide_eq_true c23
   clear c23
   by_cases c24 : (ji22) < ((rdOf ByteArray.empty t416 x7_1).size : Int)
   rotate_left
   ·rw [if_neg c24] at H
    exact absurd H (by simp)
   rw [if_pos c24] at H
   have c24b0 : decide ((ji22) < ((rdOf ByteArray.empty t416 x7_1).size : Int)) = true := decide_eq_true c24
   clear c24
   replace H := Option.bind_eq_some_iff.mp H
   obtain ⟨t423, A260, H⟩ := H
   replace H : (if 0 ≤ t423 then (if t423 < (l0_1.length : Int) then (if 1 ≤ (ji22) then (if (ji22) ≤ ((rdOf ByteArray.empty t416 x7_1).size : Int) then ((spec_l04Element.f k1 l0_0 l0_1 l0_2 l0_3 ((rdOf ByteArray.empty t416 x7_1).extract 1 ((ji22) : Int).toNat)).bind fun t425 => (if 0 ≤ t425 then (if t425 < ((rd_L1 l0_1 t423).length : Int) then (if 0 ≤ x5_1 then (if x5_1 < (l0_0.length : Int) then (if 0 ≤ (rd (rd_L1 l0_1 t423) t425) then (if (rd (rd_L1 l0_1 t423) t425) < ((rd_L1 l0_0 x5_1).length : Int) then (spec_l04Element.l0 k1 (rd (rd_L1 l0_0 x5_1) (rd (rd_L1 l0_1 t423) t425)) t416 (wrap64 (x7_1 + 1)) l0_0 l0_1 l0_2 l0_3) else (none)) else (none)) else (none)) else (none)) else (none)) else (none))) else (none)) else (none)) else (none)) else (none)) = some r := H
   have A26 := AZ.mk A260
   clear A260
   by_cases c27 : 0 ≤ t423
   rotate_left
   ·rw [if_neg c27] at H
    exact absurd H (by simp)
   rw [if_pos c27] at H
   have c27b0 : decide (0 ≤ t423) = true := decide_eq_true c27
   clear c27
   by_cases c28 : t423 < (l0_1.length : Int)
   rotate_left
   ·rw [if_neg c28] at H
    exact absurd H (by simp)
   rw [if_pos c28] at H
   have c28b0 : decide (t423 < (l0_1.length : Int)) = true := decide_eq_true c28
   clear c28
   by_cases c29 : 1 ≤ (ji22)
   rotate_left
   ·rw [if_neg c29] at H
    exact absurd H (by simp)
   rw [if_pos c29] at H
   have c29b0 := eq_true c29
   have c29b1 : decide (1 ≤ (ji22)) = true := decide_eq_true c29
   clear c29
   by_cases c30 : (ji22) ≤ ((rdOf ByteArray.empty t416 x7_1).size : Int)
   rotate_left
   ·rw [if_neg c30] at H
    exact absurd H (by simp)
   rw [if_pos c30] at H
   have c30b0 := eq_true c30
   have c30b1 : decide ((ji22) ≤ ((rdOf ByteArray.empty t416 x7_1).size : Int)) = true := decide_eq_true c30
   clear c30
   replace H := Option.bind_eq_some_iff.mp H
   obtain ⟨t425, A310, H⟩ := H
   replace H : (if 0 ≤ t425 then (if t425 < ((rd_L1 l0_1 t423).length : Int) then (if 0 ≤ x5_1 then (if x5_1 < (l0_0.length : Int) then (if 0 ≤ (rd (rd_L1 l0_1 t423) t425) then (if (rd (rd_L1 l0_1 t423) t425) < ((rd_L1 l0_0 x5_1).length : Int) then (spec_l04Element.l0 k1 (rd (rd_L1 l0_0 x5_1) (rd (rd_L1 l0_1 t423) t425)) t416 (wrap64 (x7_1 + 1)) l0_0 l0_1 l0_2 l0_3) else (none)) else (none)) else (none)) else (none)) else (none)) else (none)) = some r := H
   have A31 := AZ.mk A310
   clear A310
   by_cases c32 : 0 ≤ t425
   rotate_left
   ·rw [if_neg c32] at H
    exact absurd H (by simp)
   rw [if_pos c32] at H
   have c32b0 : decide (0 ≤ t425) = true := decide_eq_true c32
   clear c32
   by_cases c33 : t425 < ((rd_L1 l0_1 t423).length : Int)
   rotate_left
   ·rw [if_neg c33] at H
    exact absurd H (by simp)
   rw [if_pos c33] at H
   have c33b0 : decide (t425 < ((rd_L1 l0_1 t423).length : Int)) = true := decide_eq_true c33
   clear c33
   by_cases c34 : 0 ≤ x5_1
   rotate_left
   ·rw [if_neg c34] at H
    exact absurd H (by simp)
   rw [if_pos c34] at H
   have c34b0 : decide (0 ≤ x5_1) = true := decide_eq_true c34
   clear c34
   by_cases c35 : x5_1 < (l0_0.length : Int)
   rotate_left
   ·rw [if_neg c35] at H
    exact absurd H (by simp)
   rw [if_pos c35] at H
   have c35b0 : decide (x5_1 < (l0_0.length : Int)) = true := decide_eq_true c35
   clear c35
   by_cases c36 : 0 ≤ (rd (rd_L1 l0_1 t423) t425)
   rotate_left
   ·rw [if_neg c36] at H
    exact absurd H (by simp)
   rw [if_pos c36] at H
   have c36b0 : decide (0 ≤ (rd (rd_L1 l0_1 t423) t425)) = true := decide_eq_true c36
   clear c36
   by_cases c37 : (rd (rd_L1 l0_1 t423) t425) < ((rd_L1 l0_0 x5_1).length : Int)
   rotate_left
   ·rw [if_neg c37] at H
    exact absurd H (by simp)
   rw [if_pos c37] at H
   have c37b0 : decide ((rd (rd_L1 l0_1 t423) t425) < ((rd_L1 l0_0 x5_1).length : Int)) = true := decide_eq_true c37
   clear c37
   have H' := AZ.mk H
   clear H
   obtain ⟨Ao38, co38, eo38⟩ := Kd.R_slice HO_6.out
   subst eo38
   have p419 : 0 ≤ (x7_1 : Int) := oT (by first | (with_reducible assumption) | assumption)
   have q419 : x7_1 < (t416.length : Int) := oT (by first | (with_reducible assumption) | assumption)
   obtain ⟨ad419, e419, hx419_0⟩ := Kd.at_string (Kd.R_reads' HO_6.out).2.2 x7_1 p419 q419
   cases e419
   replace p419 := eq_true p419
   replace q419 := eq_true q419
   try go_wp2
   have n0_ := AZ.mk (Kd.R_drew HO_6.out)
   have n1_ := AZ.mk (bd_ BK0.out)
   have n2_ := AZ.mk (pD HB.out)
   clear HO_6
   clear BK0
   clear HB
   have HO_6 := n0_
   have BK0 := n1_
   have HB := n2_
   clear n0_ n1_ n2_
   have p21 : 0 ≤ (0 : Int) := (by omega)
   have q21 : 0 < (rdOf ByteArray.empty t416 x7_1).size := (by have : (0 : Int) < ((rdOf ByteArray.empty t416 x7_1).size : Int) := oT (by first | (with_reducible assumption) | assumption); omega)
   have hx21 : ∀ h : 0 < (rdOf ByteArray.empty t416 x7_1).size, (((rdOf ByteArray.empty t416 x7_1)[0]'h).toNat : Int) = bt (rdOf ByteArray.empty t416 x7_1) 0 := bt_at (rdOf ByteArray.empty t416 x7_1) 0
   clear p21
   have qi21 : (0 < ((rdOf ByteArray.empty t416 x7_1).size : Int)) = True := eq_true (oT (by first | (with_reducible assumption) | assumption))
   replace q21 := eq_true q21
   have p25 : 0 ≤ ((ji22) : Int) := oT (by first | (with_reducible assumption) | assumption)
   have q25 : (ji22) < ((rdOf ByteArray.empty t416 x7_1).size : Int) := oT (by first | (with_reducible assumption) | assumption)
   have hx25 := bt_at (rdOf ByteArray.empty t416 x7_1) (ji22)
   replace p25 := eq_true p25
   replace q25 := eq_true q25
   have p424 : 0 ≤ (t423 : Int) := oT (by first | (with_reducible assumption) | assumption)
   have q424 : t423 < (l0_1.length : Int) := oT (by first | (with_reducible assumption) | assumption)
   obtain ⟨ad424, A424_0, c424_0, e424, hx424_0, hl424_0, hi424_0⟩ := at_L1 HR0_1.out t423 p424 q424
   have hw424_0 := hx424_0
   cases e424
   replace hx424_0 := (HB.out.cell (World.block_lt_of_cell? w _ hx424_0)).trans hx424_0
   have HR424_0 := AZ.mk hi424_0
   have HC424_0 := AZ.mk hl424_0
   clear hi424_0 hl424_0
   replace p424 := eq_true p424
   replace q424 := eq_true q424
   have p426 : 0 ≤ (t425 : Int) := oT (by first | (with_reducible assumption) | assumption)
   have q426 : t425 < ((rd_L1 l0_1 t423).length : Int) := oT (by first | (with_reducible assumption) | assumption)
   obtain ⟨ad426, e426, hx426_0⟩ := Kd.at_int HR424_0.out t425 p426 q426
   have hw426_0 := hx426_0
   cases e426
   replace hx426_0 := (HB.out.cell (World.block_lt_of_cell? w _ hx426_0)).trans hx426_0
   replace p426 := eq_true p426
   replace q426 := eq_true q426
   refine start_ (n := 24) (S := fun w' => w'.cell? ⟨g0_, 0, none⟩ = some (.slice A0_0 l0_0.length c0_0) ∧ w'.cell? ⟨g0_, 1, none⟩ = some (.slice (some ad424) l0_1.length c0_1) ∧ w'.cell? ⟨g0_, 2, none⟩ = some (.slice A0_2 l0_2.length c0_2) ∧ w'.cell? ⟨g0_, 3, none⟩ = some (.slice A0_3 l0_3.length c0_3) ∧ w'.cell? (ad424.add (t423).toNat) = some (.slice (some ad426) (rd_L1 l0_1 t423).length c424_0) ∧ w'.cell? (ad426.add (t425).toNat) = some (.int .i64 (rd (rd_L1 l0_1 t423) t425))) (ds := []) (bz 24 0) (by kernel_rfl) rfl rfl ⟨(bc BK0.out 0).trans rfl, (bc BK0.out 1).trans rfl, (bc BK0.out 2).trans rfl, (bc BK0.out 3).trans rfl, ((HB.out.cell (World.block_lt_of_cell? w _ hw424_0)).trans hw424_0), ((HB.out.cell (World.block_lt_of_cell? w _ hw426_0)).trans hw426_0)⟩ (fun hHeld => ?_); refine with_tabW spec_l04Element.tab10 spec_l04Element.bits10 (fun HT_ HW_ => ?_)
   generalize wr.drew = w39 at HO_6 BK0 HB HR424_0 hx424_0 hx426_0 hHeld ⊢
   iterate 17 (first | (refine pz_ HT_ spec_l04Element.cz1 rfl rfl rfl (v := ?_) (a' := ?_) (by kernel_rfl) (fun _ _ _ h => h) (Or.inl ⟨by rfl, ?_⟩) ?_ ?_; rotate_left; (intro w'; go_simp; with_reducible rfl); rotate_left; (simp only [Act.put, sA, sB, sC, i64_w, i32_w]; rfl)) | (refine tz_ HT_ HW_ spec_l04Element.cz1 rfl rfl rfl (v := ?_) (a' := ?_) (by kernel_rfl) (fun _ _ _ h => h) (Or.inl ⟨by rfl, ?_⟩) hHeld ?_ ?_; rotate_left; (rintro w' ⟨s0, s1, s2, s3, s4, s5⟩; go_simp; with_reducible rfl); rotate_left; (simp only [Act.put, sA, sB, sC, i64_w, i32_w]; rfl)))
   refine one_ (i := 11) (N := some 45) (bz 24 1036287) rfl rfl (one_of HT_.out (by kernel_rfl)) (by decide) (fun K hK => ?_)
   refine goes_ Try.func65 (by kernel_rfl) rfl #[.int .u8 (bt (rdOf ByteArray.empty t416 x7_1) 0), .int .u8 (bt (rdOf ByteArray.empty t416 x7_1) (ji22))] (by rfl) rfl rfl (by (try simp only [List.map_toArray, List.map_cons, List.map_nil]); first | done | (simp only [hji22]; rfl) | rfl | (simp only [List.length_drop, List.length_take]; rfl)) ?_
   with_reducible refine (spec_l04Kind.calls (bt (rdOf ByteArray.empty t416 x7_1) 0) (bt (rdOf ByteArray.empty t416 x7_1) (ji22)) t423 _ A26.out).mono ?_
   rintro e w' ⟨rfl, ⟨nd, rfl⟩⟩
   refine ⟨_, rfl, ?_⟩
   refine hK.out _ _ ⟨(bc BK0.out 0).trans rfl, (bc BK0.out 1).trans rfl, (bc BK0.out 2).trans rfl, (bc BK0.out 3).trans rfl, ((HB.out.cell (World.block_lt_of_cell? w _ hw424_0)).trans hw424_0), ((HB.out.cell (World.block_lt_of_cell? w _ hw426_0)).trans hw426_0)⟩ (fun hHeld => ?_)
   clear hK K
   refine norm_ (a' := ?_) ?_ ?_
   rotate_left
   ·show Act.put _ (some 45) _ = _
    simp only [Act.put, sA, sB, sC, i64_w, i32_w]
    rfl
   iterate 2 (first | (refine pz_ HT_ spec_l04Element.cz2 rfl rfl rfl (v := ?_) (a' := ?_) (by kernel_rfl) (fun _ _ _ h => h) (Or.inl ⟨by rfl, ?_⟩) ?_ ?_; rotate_left; (intro w'; go_simp; with_reducible rfl); rotate_left; (simp only [Act.put, sA, sB, sC, i64_w, i32_w]; rfl)) | (refine tz_ HT_ HW_ spec_l04Element.cz2 rfl rfl rfl (v := ?_) (a' := ?_) (by kernel_rfl) (fun _ _ _ h => h) (Or.inl ⟨by rfl, ?_⟩) hHeld ?_ ?_; rotate_left; (rintro w' ⟨s0, s1, s2, s3, s4, s5⟩; go_simp; with_reducible rfl); rotate_left; (simp only [Act.put, sA, sB, sC, i64_w, i32_w]; rfl)))
   refine one_ (i := 20) (N := some 54) (bz 24 2097151) rfl rfl (one_of HT_.out (by kernel_rfl)) (by decide) (fun K hK => ?_)
   refine goes_ Try.func46 (by kernel_rfl) rfl #[.pointer (some ⟨g0_, 0, none⟩), .string ((rdOf ByteArray.empty t416 x7_1).extract 1 ((ji22) : Int).toNat)] (by rfl) rfl rfl (by (try simp only [List.map_toArray, List.map_cons, List.map_nil]); first | done | (simp only [hji22]; rfl) | rfl | (simp only [List.length_drop, List.length_take]; rfl)) ?_
   with_reducible refine (ih k1 (by have := HK1.out; omega) g0_ A0_0 c0_0 l0_0 (some ad424) c0_1 l0_1 A0_2 c0_2 l0_2 A0_3 c0_3 l0_3 ((rdOf ByteArray.empty t416 x7_1).extract 1 ((ji22) : Int).toNat) t425 _ ?side1 ?side2 ?side3 ?side4 ?side5 ?side6 ?side7 ?side8 ?side9 A31.out).mono ?_
   (case side1 => repeat (first | exact (Kd.C_below HR0_0.out (by repeat (first | (with_reducible first | exact HB.out | apply pA | apply pN | apply pD | refine pS ?_ GE0.out) | exact HB.out))) | (with_reducible refine Kd.C_alloc ?_ _) | (with_reducible refine Kd.C_drewN ?_ _) | (with_reducible refine Kd.C_drew ?_)))
   (case side2 => exact HC0_0.out)
   (case side3 => repeat (first | exact (Kd.C_below HR0_1.out (by repeat (first | (with_reducible first | exact HB.out | apply pA | apply pN | apply pD | refine pS ?_ GE0.out) | exact HB.out))) | (with_reducible refine Kd.C_alloc ?_ _) | (with_reducible refine Kd.C_drewN ?_ _) | (with_reducible refine Kd.C_drew ?_)))
   (case side4 => exact HC0_1.out)
   (case side5 => repeat (first | exact (Kd.C_below HR0_2.out (by repeat (first | (with_reducible first | exact HB.out | apply pA | apply pN | apply pD | refine pS ?_ GE0.out) | exact HB.out))) | (with_reducible refine Kd.C_alloc ?_ _) | (with_reducible refine Kd.C_drewN ?_ _) | (with_reducible refine Kd.C_drew ?_)))
   (case side6 => exact HC0_2.out)
   (case side7 => repeat (first | exact (Kd.C_below HR0_3.out (by repeat (first | (with_reducible first | exact HB.out | apply pA | apply pN | apply pD | refine pS ?_ GE0.out) | exact HB.out))) | (with_reducible refine Kd.C_alloc ?_ _) | (with_reducible refine Kd.C_drewN ?_ _) | (with_reducible refine Kd.C_drew ?_)))
   (case side8 => exact HC0_3.out)
   (case side9 => exact (by (with_reducible repeat (first | refine bn_ ?_ _ | refine bd_ ?_ | refine ba_ ?_ _)); exact BK0.out))
   rintro e w40 ⟨rfl, hb⟩
   refine ⟨_, rfl, ?_⟩
   have n0_ := AZ.mk (Kd.R_below (by (with_reducible repeat (first | apply Kd.R_alloc | apply Kd.R_drewN | apply Kd.R_drew)); exact HO_6.out) hb)
   have n1_ := AZ.mk (bb_ (g := g0_) (o := .cells #[.slice A0_0 l0_0.length c0_0, .slice (some ad424) l0_1.length c0_1, .slice A0_2 l0_2.length c0_2, .slice A0_3 l0_3.length c0_3] 29 (0, 0)) (by (with_reducible repeat (first | refine bn_ ?_ _ | refine bd_ ?_ | refine ba_ ?_ _)); exact BK0.out) hb)
   have n2_ := AZ.mk (pT (by repeat (first | (with_reducible first | exact HB.out | apply pA | apply pN | apply pD | refine pS ?_ GE0.out) | exact HB.out)) hb)
   clear HO_6
   clear BK0
   clear HB
   have HO_6 := n0_
   have BK0 := n1_
   have HB := n2_
   clear n0_ n1_ n2_
   (try clear hb)
   (try clear hb2)
   (try clear hk)
   (try clear hi)
   refine hK.out _ _ ⟨(bc BK0.out 0).trans rfl, (bc BK0.out 1).trans rfl, (bc BK0.out 2).trans rfl, (bc BK0.out 3).trans rfl, ((HB.out.cell (World.block_lt_of_cell? w _ hw424_0)).trans hw424_0), ((HB.out.cell (World.block_lt_of_cell? w _ hw426_0)).trans hw426_0)⟩ (fun hHeld => ?_)
   clear hK K
   refine norm_ (a' := ?_) ?_ ?_
   rotate_left
   ·show Act.put _ (some 54) _ = _
    simp only [Act.put, sA, sB, sC, i64_w, i32_w]
    rfl
   iterate 3 (first | (refine pz_ HT_ spec_l04Element.cz3 rfl rfl rfl (v := ?_) (a' := ?_) (by kernel_rfl) (fun _ _ _ h => h) (Or.inl ⟨by rfl, ?_⟩) ?_ ?_; rotate_left; (intro w'; go_simp; with_reducible rfl); rotate_left; (simp only [Act.put, sA, sB, sC, i64_w, i32_w]; rfl)) | (refine tz_ HT_ HW_ spec_l04Element.cz3 rfl rfl rfl (v := ?_) (a' := ?_) (by kernel_rfl) (fun _ _ _ h => h) (Or.inl ⟨by rfl, ?_⟩) hHeld ?_ ?_; rotate_left; (rintro w' ⟨s0, s1, s2, s3, s4, s5⟩; go_simp; with_reducible rfl); rotate_left; (simp only [Act.put, sA, sB, sC, i64_w, i32_w]; rfl)))
   refine done_ (done_of HT_.out (by kernel_rfl)) ?_
   have hcz41_0 : w40.cell? ⟨g0_, 0, none⟩ = some (.slice A0_0 l0_0.length c0_0) := (bc BK0.out 0).trans rfl
   have hcz41_1 : w40.cell? ⟨g0_, 1, none⟩ = some (.slice (some ad424) l0_1.length c0_1) := (bc BK0.out 1).trans rfl
   have hcz41_2 : w40.cell? ⟨g0_, 2, none⟩ = some (.slice A0_2 l0_2.length c0_2) := (bc BK0.out 2).trans rfl
   have hcz41_3 : w40.cell? ⟨g0_, 3, none⟩ = some (.slice A0_3 l0_3.length c0_3) := (bc BK0.out 3).trans rfl
   have hfz41_0 := bf BK0.out 0
   have hfz41_1 := bf BK0.out 1
   have hfz41_2 := bf BK0.out 2
   have hfz41_3 := bf BK0.out 3
   have p427 : 0 ≤ (x5_1 : Int) := oT (by first | (with_reducible assumption) | assumption)
   have q427 : x5_1 < (l0_0.length : Int) := oT (by first | (with_reducible assumption) | assumption)
   obtain ⟨ad427, A427_0, c427_0, e427, hx427_0, hl427_0, hi427_0⟩ := at_L1 HR0_0.out x5_1 p427 q427
   cases e427
   replace hx427_0 := (HB.out.cell (World.block_lt_of_cell? w _ hx427_0)).trans hx427_0
   have HR427_0 := AZ.mk hi427_0
   have HC427_0 := AZ.mk hl427_0
   clear hi427_0 hl427_0
   replace p427 := eq_true p427
   replace q427 := eq_true q427
   have p428 : 0 ≤ ((rd (rd_L1 l0_1 t423) t425) : Int) := oT (by first | (with_reducible assumption) | assumption)
   have q428 : (rd (rd_L1 l0_1 t423) t425) < ((rd_L1 l0_0 x5_1).length : Int) := oT (by first | (with_reducible assumption) | assumption)
   obtain ⟨ad428, e428, hx428_0⟩ := Kd.at_int HR427_0.out (rd (rd_L1 l0_1 t423) t425) p428 q428
   cases e428
   replace hx428_0 := (HB.out.cell (World.block_lt_of_cell? w _ hx428_0)).trans hx428_0
   replace p428 := eq_true p428
   replace q428 := eq_true q428
   try go_wp2
   go_roundg k1
   case measure => have := HK1.out; omega
   case rel => exact ⟨(rd (rd_L1 l0_0 x5_1) (rd (rd_L1 l0_1 t423) t425)), (wrap64 (x7_1 + 1)), (by first | rfl | (simp; done) | (simp [*]; done)), (by first | rfl | (simp; done) | (simp [*]; done)), H', ⟨by have := HK1.out; omega⟩, ⟨by (with_reducible repeat (first | apply Kd.R_alloc | apply Kd.R_drewN | apply Kd.R_drew)); exact HO_6.out⟩, ⟨by (with_reducible repeat (first | refine bn_ ?_ _ | refine bd_ ?_ | refine ba_ ?_ _)); exact BK0.out⟩, ⟨by repeat (first | (with_reducible first | exact HB.out | apply pA | apply pN | apply pD | refine pS ?_ GE0.out) | exact HB.out)⟩⟩
end Go.Proofs.Ytgfilbgjnloopaa.P
namespace Go.Proofs.Ytgfilbgjnloopaa.P
open Go.RowKit Go.Proofs.YtgfilbgjnloopaaW.PrintWords Go.Proofs.YtgfilbgjnloopaaW.PrintLast Go.Proofs.YtgfilbgjnloopaaW.PrintMore
attribute [local go_sem] max2_int min2_int max_two min_two max_three min_three max_four min_four
set_option linter.unusedVariables false
set_option linter.unusedSimpArgs false
def spec_AlgebraTakes.f (k : Nat) (l0_0 : List (List Int)) (l0_1 : List (List Int)) (l0_2 : List Int) (l0_3 : List Bool) (a1 : ByteArray) : Option (Bool × Int) := (spec_l04Given.f k l0_0 l0_1 l0_2 l0_3 a1).bind fun t565 => (if t565 = 0 then ((spec_l04Element.f k l0_0 l0_1 l0_2 l0_3 a1).bind fun t566 => (if 0 ≤ t566 then (if t566 < (l0_3.length : Int) then (some (rdOf false l0_3 t566, 0)) else (none)) else (none))) else (some (false, t565)))
def spec_AlgebraTakes.T4 : Bool × List (List Nat × List Nat) := (true, [([], []), ([0], [0]), ([], []), ([2], [2]), ([1, 3], [1, 3]), ([4], [4]), ([5, 3, 0, 1, 2, 3, 4, 5], [5]), ([6, 0, 1, 2, 3, 4, 5, 6], [])])
def spec_AlgebraTakes.B4 : List Nat := [0, 1, 0, 4, 15, 31, 63, 127]
theorem spec_AlgebraTakes.tab4 : rtab .any (opsOf Try.f20 4) = spec_AlgebraTakes.T4 := by kernel_rfl
theorem spec_AlgebraTakes.bits4 : waitsOk spec_AlgebraTakes.T4.2 spec_AlgebraTakes.B4 = true := by kernel_rfl
def spec_AlgebraTakes.cz0 : List Nat := [0, 2, 401]
def spec_AlgebraTakes.cz1 : List Nat := [4, 405, 6, 7]
set_option maxHeartbeats 8000000 in
set_option maxRecDepth 100000 in
theorem spec_AlgebraTakes.calls (k : Nat) (A0_0 : Option Addr) (c0_0 : Nat) (l0_0 : List (List Int)) (A0_1 : Option Addr) (c0_1 : Nat) (l0_1 : List (List Int)) (A0_2 : Option Addr) (c0_2 : Nat) (l0_2 : List Int) (A0_3 : Option Addr) (c0_3 : Nat) (l0_3 : List Bool) (a1 : ByteArray) (r1 : Bool) (r2 : Int) (w : World) (hr0_0 : Kd.C (Kd.slice 2 (Kd.int .i64)) w A0_0 l0_0.length l0_0) (hc0_0 : l0_0.length ≤ c0_0) (hr0_1 : Kd.C (Kd.slice 2 (Kd.int .i64)) w A0_1 l0_1.length l0_1) (hc0_1 : l0_1.length ≤ c0_1) (hr0_2 : Kd.C (Kd.int .i64) w A0_2 l0_2.length l0_2) (hc0_2 : l0_2.length ≤ c0_2) (hr0_3 : Kd.C Kd.bool w A0_3 l0_3.length l0_3) (hc0_3 : l0_3.length ≤ c0_3) (h : spec_AlgebraTakes.f k l0_0 l0_1 l0_2 l0_3 a1 = some (r1, r2)) :
  Calls Try.prog 20 #[.agg #[.slice A0_0 l0_0.length c0_0, .slice A0_1 l0_1.length c0_1, .slice A0_2 l0_2.length c0_2, .slice A0_3 l0_3.length c0_3], .string a1] w fun e w' => e = .returned (.tuple #[.bool r1, .int .i64 r2]) ∧ Below w.heap.size w w' := by
 have hu29 := Try.underlying29
 have HR0_0 := AZ.mk hr0_0
 have HC0_0 := AZ.mk hc0_0
 clear hr0_0 hc0_0
 have HR0_1 := AZ.mk hr0_1
 have HC0_1 := AZ.mk hc0_1
 clear hr0_1 hc0_1
 have HR0_2 := AZ.mk hr0_2
 have HC0_2 := AZ.mk hc0_2
 clear hr0_2 hc0_2
 have HR0_3 := AZ.mk hr0_3
 have HC0_3 := AZ.mk hc0_3
 clear hr0_3 hc0_3
 have HB := AZ.mk (Below.refl w.heap.size w)
 have H : ((spec_l04Given.f k l0_0 l0_1 l0_2 l0_3 a1).bind fun t565 => (if t565 = 0 then ((spec_l04Element.f k l0_0 l0_1 l0_2 l0_3 a1).bind fun t566 => (if 0 ≤ t566 then (if t566 < (l0_3.length : Int) then (some (rdOf false l0_3 t566, 0)) else (none)) else (none))) else (some (false, t565)))) = some (r1, r2) := h
 clear h
 replace H := Option.bind_eq_some_iff.mp H
 obtain ⟨t565, A30, H⟩ := H
 replace H : (if t565 = 0 then ((spec_l04Element.f k l0_0 l0_1 l0_2 l0_3 a1).bind fun t566 => (if 0 ≤ t566 then (if t566 < (l0_3.length : Int) then (some (rdOf false l0_3 t566, 0)) else (none)) else (none))) else (some (false, t565))) = some (r1, r2) := H
 have A3 := AZ.mk A30
 clear A30
 by_cases c4 : t565 = 0
 rotate_left
 ·rw [if_neg c4] at H
  have c4b0 : (t565 == 0) = false := beq_eq_false_iff_ne.mpr c4
  have c4b1 : (t565 != 0) = true := bne_iff_ne.mpr c4
  simp only [Option.some.injEq, Prod.mk.injEq] at H
  obtain ⟨rfl, rfl⟩ := H
  go_enter Try.func20, Try.ntmps20
  go_wp2_with (first | ((with_reducible refine gate_dst (N := 2) rfl ?_); refine box_event ?hg (N := 2) ?hd (cs := #[.slice A0_0 l0_0.length c0_0, .slice A0_1 l0_1.length c0_1, .slice A0_2 l0_2.length c0_2, .slice A0_3 l0_3.length c0_3]) (t := 29) ?hr ?_; (case hd => rfl); (case hg => rfl); (case hr => first | (go_simp; done) | (go_simp; rfl)); intro gb564 hg w12 hbox hb; have n0_ := AZ.mk (pT (by repeat (first | (with_reducible first | exact HB.out | apply pA | apply pN | apply pD) | exact HB.out)) hb); have n1_ := AZ.mk (hbox); have n2_ := AZ.mk ((by rw [hg]; exact (pZ (by repeat (first | (with_reducible first | exact HB.out | apply pA | apply pN | apply pD) | exact HB.out))) : w.heap.size ≤ gb564)); have n3_ := AZ.mk ((by rw [hg]; exact (pZ (by repeat (first | (with_reducible first | exact HB.out | apply pA | apply pN | apply pD) | exact HB.out))) : w.heap.size ≤ gb564)); clear HB; have HB := n0_; have BK564 := n1_; have GW564 := n2_; have GE564 := n3_; clear n0_ n1_ n2_ n3_; clear hb hbox hg) | ((with_reducible refine gate_callee (f := 45) rfl ?_); refine goesL_ (some 8) rfl rfl Try.func45 (by kernel_rfl) rfl #[.pointer (some ⟨gb564, 0, none⟩), .string a1] rfl (by (try simp only [List.map_toArray, List.map_cons, List.map_nil]); first | done | rfl | (simp only [List.length_drop, List.length_take]; rfl)) ?_; (with_reducible refine (spec_l04Given.calls k gb564 A0_0 c0_0 l0_0 A0_1 c0_1 l0_1 A0_2 c0_2 l0_2 A0_3 c0_3 l0_3 a1 t565 _ ?side1 ?side2 ?side3 ?side4 ?side5 ?side6 ?side7 ?side8 ?side9 A3.out).mono ?_); (case side1 => repeat (first | exact (Kd.C_below HR0_0.out HB.out) | (with_reducible refine Kd.C_alloc ?_ _) | (with_reducible refine Kd.C_drewN ?_ _) | (with_reducible refine Kd.C_drew ?_))); (case side2 => exact HC0_0.out); (case side3 => repeat (first | exact (Kd.C_below HR0_1.out HB.out) | (with_reducible refine Kd.C_alloc ?_ _) | (with_reducible refine Kd.C_drewN ?_ _) | (with_reducible refine Kd.C_drew ?_))); (case side4 => exact HC0_1.out); (case side5 => repeat (first | exact (Kd.C_below HR0_2.out HB.out) | (with_reducible refine Kd.C_alloc ?_ _) | (with_reducible refine Kd.C_drewN ?_ _) | (with_reducible refine Kd.C_drew ?_))); (case side6 => exact HC0_2.out); (case side7 => repeat (first | exact (Kd.C_below HR0_3.out HB.out) | (with_reducible refine Kd.C_alloc ?_ _) | (with_reducible refine Kd.C_drewN ?_ _) | (with_reducible refine Kd.C_drew ?_))); (case side8 => exact HC0_3.out); (case side9 => exact (by (with_reducible repeat (first | refine bn_ ?_ _ | refine bd_ ?_ | refine ba_ ?_ _)); exact BK564.out)); rintro e w13 ⟨rfl, hb⟩; refine ⟨_, rfl, ?_⟩; have n0_ := AZ.mk (bb_ (g := gb564) (o := .cells #[.slice A0_0 l0_0.length c0_0, .slice A0_1 l0_1.length c0_1, .slice A0_2 l0_2.length c0_2, .slice A0_3 l0_3.length c0_3] 29 (0, 0)) (by (with_reducible repeat (first | refine bn_ ?_ _ | refine bd_ ?_ | refine ba_ ?_ _)); exact BK564.out) hb); have n1_ := AZ.mk (pT (by repeat (first | (with_reducible first | exact HB.out | apply pA | apply pN | apply pD | refine pS ?_ GE564.out) | exact HB.out)) hb); clear BK564; clear HB; have BK564 := n0_; have HB := n1_; clear n0_ n1_; (try clear hb); (try clear hb2); (try clear hk); (try clear hi)))
  go_ret2
  exact ⟨by first | rfl | (simp [errW_none, errW_some] <;> rfl) | (simp [*, errW_none, errW_some] <;> rfl), by repeat (first | (with_reducible first | exact HB.out | apply pA | apply pN | apply pD | refine pS ?_ GE564.out) | exact HB.out)⟩
 rw [if_pos c4] at H
 have c4b0 : (t565 == 0) = true := beq_iff_eq.mpr c4
 have c4b1 : (t565 != 0) = false := bne_eq_false_iff_eq.mpr c4
 clear c4
 replace H := Option.bind_eq_some_iff.mp H
 obtain ⟨t566, A50, H⟩ := H
 replace H : (if 0 ≤ t566 then (if t566 < (l0_3.length : Int) then (some (rdOf false l0_3 t566, 0)) else (none)) else (none)) = some (r1, r2) := H
 have A5 := AZ.mk A50
 clear A50
 by_cases c6 : 0 ≤ t566
 rotate_left
 ·rw [if_neg c6] at H
  exact absurd H (by simp)
 rw [if_pos c6] at H
 have c6b0 : decide (0 ≤ t566) = true := decide_eq_true c6
 clear c6
 by_cases c7 : t566 < (l0_3.length : Int)
 rotate_left
 ·rw [if_neg c7] at H
  exact absurd H (by simp)
 rw [if_pos c7] at H
 have c7b0 : decide (t566 < (l0_3.length : Int)) = true := decide_eq_true c7
 clear c7
 simp only [Option.some.injEq, Prod.mk.injEq] at H
 obtain ⟨rfl, rfl⟩ := H
 go_enter Try.func20, Try.ntmps20
 try go_wp2_with (first | ((with_reducible refine gate_dst (N := 2) rfl ?_); refine box_event ?hg (N := 2) ?hd (cs := #[.slice A0_0 l0_0.length c0_0, .slice A0_1 l0_1.length c0_1, .slice A0_2 l0_2.length c0_2, .slice A0_3 l0_3.length c0_3]) (t := 29) ?hr ?_; (case hd => rfl); (case hg => rfl); (case hr => first | (go_simp; done) | (go_simp; rfl)); intro gb564 hg w8 hbox hb; have n0_ := AZ.mk (pT (by repeat (first | (with_reducible first | exact HB.out | apply pA | apply pN | apply pD) | exact HB.out)) hb); have n1_ := AZ.mk (hbox); have n2_ := AZ.mk ((by rw [hg]; exact (pZ (by repeat (first | (with_reducible first | exact HB.out | apply pA | apply pN | apply pD) | exact HB.out))) : w.heap.size ≤ gb564)); have n3_ := AZ.mk ((by rw [hg]; exact (pZ (by repeat (first | (with_reducible first | exact HB.out | apply pA | apply pN | apply pD) | exact HB.out))) : w.heap.size ≤ gb564)); clear HB; have HB := n0_; have BK564 := n1_; have GW564 := n2_; have GE564 := n3_; clear n0_ n1_ n2_ n3_; clear hb hbox hg) | ((with_reducible refine gate_callee (f := 45) rfl ?_); refine goesL_ (some 8) rfl rfl Try.func45 (by kernel_rfl) rfl #[.pointer (some ⟨gb564, 0, none⟩), .string a1] rfl (by (try simp only [List.map_toArray, List.map_cons, List.map_nil]); first | done | rfl | (simp only [List.length_drop, List.length_take]; rfl)) ?_; (with_reducible refine (spec_l04Given.calls k gb564 A0_0 c0_0 l0_0 A0_1 c0_1 l0_1 A0_2 c0_2 l0_2 A0_3 c0_3 l0_3 a1 t565 _ ?side1 ?side2 ?side3 ?side4 ?side5 ?side6 ?side7 ?side8 ?side9 A3.out).mono ?_); (case side1 => repeat (first | exact (Kd.C_below HR0_0.out HB.out) | (with_reducible refine Kd.C_alloc ?_ _) | (with_reducible refine Kd.C_drewN ?_ _) | (with_reducible refine Kd.C_drew ?_))); (case side2 => exact HC0_0.out); (case side3 => repeat (first | exact (Kd.C_below HR0_1.out HB.out) | (with_reducible refine Kd.C_alloc ?_ _) | (with_reducible refine Kd.C_drewN ?_ _) | (with_reducible refine Kd.C_drew ?_))); (case side4 => exact HC0_1.out); (case side5 => repeat (first | exact (Kd.C_below HR0_2.out HB.out) | (with_reducible refine Kd.C_alloc ?_ _) | (with_reducible refine Kd.C_drewN ?_ _) | (with_reducible refine Kd.C_drew ?_))); (case side6 => exact HC0_2.out); (case side7 => repeat (first | exact (Kd.C_below HR0_3.out HB.out) | (with_reducible refine Kd.C_alloc ?_ _) | (with_reducible refine Kd.C_drewN ?_ _) | (with_reducible refine Kd.C_drew ?_))); (case side8 => exact HC0_3.out); (case side9 => exact (by (with_reducible repeat (first | refine bn_ ?_ _ | refine bd_ ?_ | refine ba_ ?_ _)); exact BK564.out)); rintro e w9 ⟨rfl, hb⟩; refine ⟨_, rfl, ?_⟩; have n0_ := AZ.mk (bb_ (g := gb564) (o := .cells #[.slice A0_0 l0_0.length c0_0, .slice A0_1 l0_1.length c0_1, .slice A0_2 l0_2.length c0_2, .slice A0_3 l0_3.length c0_3] 29 (0, 0)) (by (with_reducible repeat (first | refine bn_ ?_ _ | refine bd_ ?_ | refine ba_ ?_ _)); exact BK564.out) hb); have n1_ := AZ.mk (pT (by repeat (first | (with_reducible first | exact HB.out | apply pA | apply pN | apply pD | refine pS ?_ GE564.out) | exact HB.out)) hb); clear BK564; clear HB; have BK564 := n0_; have HB := n1_; clear n0_ n1_; (try clear hb); (try clear hb2); (try clear hk); (try clear hi)))
 have n0_ := AZ.mk (bd_ BK564.out)
 have n1_ := AZ.mk (pD HB.out)
 clear BK564
 clear HB
 have BK564 := n0_
 have HB := n1_
 clear n0_ n1_
 have p567 : 0 ≤ (t566 : Int) := oT (by first | (with_reducible assumption) | assumption)
 have q567 : t566 < (l0_3.length : Int) := oT (by first | (with_reducible assumption) | assumption)
 obtain ⟨ad567, e567, hx567_0⟩ := Kd.at_bool HR0_3.out t566 p567 q567
 have hw567_0 := hx567_0
 cases e567
 replace hx567_0 := (HB.out.cell (World.block_lt_of_cell? w _ hx567_0)).trans hx567_0
 replace p567 := eq_true p567
 replace q567 := eq_true q567
 refine start_ (n := 8) (S := fun w' => w'.cell? ⟨gb564, 0, none⟩ = some (.slice A0_0 l0_0.length c0_0) ∧ w'.cell? ⟨gb564, 1, none⟩ = some (.slice A0_1 l0_1.length c0_1) ∧ w'.cell? ⟨gb564, 2, none⟩ = some (.slice A0_2 l0_2.length c0_2) ∧ w'.cell? ⟨gb564, 3, none⟩ = some (.slice (some ad567) l0_3.length c0_3) ∧ w'.cell? (ad567.add (t566).toNat) = some (.bool (rdOf false l0_3 t566))) (ds := []) (bz 8 0) (by kernel_rfl) rfl rfl ⟨(bc BK564.out 0).trans rfl, (bc BK564.out 1).trans rfl, (bc BK564.out 2).trans rfl, (bc BK564.out 3).trans rfl, ((HB.out.cell (World.block_lt_of_cell? w _ hw567_0)).trans hw567_0)⟩ (fun hHeld => ?_); refine with_tabW spec_AlgebraTakes.tab4 spec_AlgebraTakes.bits4 (fun HT_ HW_ => ?_)
 generalize w9.drew = w10 at BK564 HB hx567_0 hHeld ⊢
 iterate 3 (first | (refine pz_ HT_ spec_AlgebraTakes.cz0 rfl rfl rfl (v := ?_) (a' := ?_) (by kernel_rfl) (fun _ _ _ h => h) (Or.inl ⟨by rfl, ?_⟩) ?_ ?_; rotate_left; (intro w'; go_simp; with_reducible rfl); rotate_left; (simp only [Act.put, sA, sB, sC, i64_w, i32_w]; rfl)) | (refine tz_ HT_ HW_ spec_AlgebraTakes.cz0 rfl rfl rfl (v := ?_) (a' := ?_) (by kernel_rfl) (fun _ _ _ h => h) (Or.inl ⟨by rfl, ?_⟩) hHeld ?_ ?_; rotate_left; (rintro w' ⟨s0, s1, s2, s3, s4⟩; go_simp; with_reducible rfl); rotate_left; (simp only [Act.put, sA, sB, sC, i64_w, i32_w]; rfl)))
 refine one_ (i := 3) (N := some 15) (bz 8 15) rfl rfl (one_of HT_.out (by kernel_rfl)) (by decide) (fun K hK => ?_)
 refine goes_ Try.func46 (by kernel_rfl) rfl #[.pointer (some ⟨gb564, 0, none⟩), .string a1] (by rfl) rfl rfl (by (try simp only [List.map_toArray, List.map_cons, List.map_nil]); first | done | rfl | (simp only [List.length_drop, List.length_take]; rfl)) ?_
 with_reducible refine (spec_l04Element.calls k gb564 A0_0 c0_0 l0_0 A0_1 c0_1 l0_1 A0_2 c0_2 l0_2 (some ad567) c0_3 l0_3 a1 t566 _ ?side1 ?side2 ?side3 ?side4 ?side5 ?side6 ?side7 ?side8 ?side9 A5.out).mono ?_
 (case side1 => repeat (first | exact (Kd.C_below HR0_0.out HB.out) | (with_reducible refine Kd.C_alloc ?_ _) | (with_reducible refine Kd.C_drewN ?_ _) | (with_reducible refine Kd.C_drew ?_)))
 (case side2 => exact HC0_0.out)
 (case side3 => repeat (first | exact (Kd.C_below HR0_1.out HB.out) | (with_reducible refine Kd.C_alloc ?_ _) | (with_reducible refine Kd.C_drewN ?_ _) | (with_reducible refine Kd.C_drew ?_)))
 (case side4 => exact HC0_1.out)
 (case side5 => repeat (first | exact (Kd.C_below HR0_2.out HB.out) | (with_reducible refine Kd.C_alloc ?_ _) | (with_reducible refine Kd.C_drewN ?_ _) | (with_reducible refine Kd.C_drew ?_)))
 (case side6 => exact HC0_2.out)
 (case side7 => repeat (first | exact (Kd.C_below HR0_3.out HB.out) | (with_reducible refine Kd.C_alloc ?_ _) | (with_reducible refine Kd.C_drewN ?_ _) | (with_reducible refine Kd.C_drew ?_)))
 (case side8 => exact HC0_3.out)
 (case side9 => exact (by (with_reducible repeat (first | refine bn_ ?_ _ | refine bd_ ?_ | refine ba_ ?_ _)); exact BK564.out))
 rintro e w11 ⟨rfl, hb⟩
 refine ⟨_, rfl, ?_⟩
 have n0_ := AZ.mk (bb_ (g := gb564) (o := .cells #[.slice A0_0 l0_0.length c0_0, .slice A0_1 l0_1.length c0_1, .slice A0_2 l0_2.length c0_2, .slice (some ad567) l0_3.length c0_3] 29 (0, 0)) (by (with_reducible repeat (first | refine bn_ ?_ _ | refine bd_ ?_ | refine ba_ ?_ _)); exact BK564.out) hb)
 have n1_ := AZ.mk (pT (by repeat (first | (with_reducible first | exact HB.out | apply pA | apply pN | apply pD | refine pS ?_ GE564.out) | exact HB.out)) hb)
 clear BK564
 clear HB
 have BK564 := n0_
 have HB := n1_
 clear n0_ n1_
 (try clear hb)
 (try clear hb2)
 (try clear hk)
 (try clear hi)
 refine hK.out _ _ ⟨(bc BK564.out 0).trans rfl, (bc BK564.out 1).trans rfl, (bc BK564.out 2).trans rfl, (bc BK564.out 3).trans rfl, ((HB.out.cell (World.block_lt_of_cell? w _ hw567_0)).trans hw567_0)⟩ (fun hHeld => ?_)
 clear hK K
 refine norm_ (a' := ?_) ?_ ?_
 rotate_left
 ·show Act.put _ (some 15) _ = _
  simp only [Act.put, sA, sB, sC, i64_w, i32_w]
  rfl
 iterate 4 (first | (refine pz_ HT_ spec_AlgebraTakes.cz1 rfl rfl rfl (v := ?_) (a' := ?_) (by kernel_rfl) (fun _ _ _ h => h) (Or.inl ⟨by rfl, ?_⟩) ?_ ?_; rotate_left; (intro w'; go_simp; with_reducible rfl); rotate_left; (simp only [Act.put, sA, sB, sC, i64_w, i32_w]; rfl)) | (refine tz_ HT_ HW_ spec_AlgebraTakes.cz1 rfl rfl rfl (v := ?_) (a' := ?_) (by kernel_rfl) (fun _ _ _ h => h) (Or.inl ⟨by rfl, ?_⟩) hHeld ?_ ?_; rotate_left; (rintro w' ⟨s0, s1, s2, s3, s4⟩; go_simp; with_reducible rfl); rotate_left; (simp only [Act.put, sA, sB, sC, i64_w, i32_w]; rfl)))
 refine done_ (done_of HT_.out (by kernel_rfl)) ?_
 try go_wp2
 go_ret2
 exact ⟨by first | rfl | (simp [errW_none, errW_some] <;> rfl) | (simp [*, errW_none, errW_some] <;> rfl), by repeat (first | (with_reducible first | exact HB.out | apply pA | apply pN | apply pD | refine pS ?_ GE564.out) | exact HB.out)⟩
end Go.Proofs.Ytgfilbgjnloopaa.P
namespace Go.Proofs.Ytgfilbgjnloopaa.P
open Go.RowKit Go.Proofs.YtgfilbgjnloopaaW.PrintWords Go.Proofs.YtgfilbgjnloopaaW.PrintLast Go.Proofs.YtgfilbgjnloopaaW.PrintMore
attribute [local go_sem] max2_int min2_int max_two min_two max_three min_three max_four min_four
set_option linter.unusedVariables false
set_option linter.unusedSimpArgs false
def impl_size_bool.f (l0 : List Bool) : Option (Int) := some (l0.length : Int)
set_option maxHeartbeats 8000000 in
set_option maxRecDepth 100000 in
theorem impl_size_bool.calls (A0 : Option Addr) (c0 : Nat) (l0 : List Bool) (r : Int) (w : World) (hr0 : Kd.C Kd.bool w A0 l0.length l0) (hc0 : l0.length ≤ c0) (h : impl_size_bool.f l0 = some r) :
  Calls Try.prog 53 #[.slice A0 l0.length c0] w fun e w' => e = .returned (.int .i64 r) ∧ Drawn0 w w' := by
 have HR0 := AZ.mk hr0
 have HC0 := AZ.mk hc0
 clear hr0 hc0
 have H : (some (l0.length : Int)) = some r := h
 clear h
 obtain rfl := Option.some.inj H
 go_enter Try.func53, Try.ntmps53
 go_wp2
 go_ret
 exact ⟨by first | rfl | (simp; done) | (simp [*]; done), by repeat (first | exact Drawn0.refl _ | apply Drawn0.step)⟩
end Go.Proofs.Ytgfilbgjnloopaa.P
namespace Go.Proofs.Ytgfilbgjnloopaa.P
open Go.RowKit Go.Proofs.YtgfilbgjnloopaaW.PrintWords Go.Proofs.YtgfilbgjnloopaaW.PrintLast Go.Proofs.YtgfilbgjnloopaaW.PrintMore
attribute [local go_sem] max2_int min2_int max_two min_two max_three min_three max_four min_four
set_option linter.unusedVariables false
set_option linter.unusedSimpArgs false
def impl_Algebra_elements.f (l0_0 : List (List Int)) (l0_1 : List (List Int)) (l0_2 : List Int) (l0_3 : List Bool) : Option (Int) := (impl_size_bool.f l0_3).bind fun t164 => (some t164)
set_option maxHeartbeats 8000000 in
set_option maxRecDepth 100000 in
theorem impl_Algebra_elements.calls (A0_0 : Option Addr) (c0_0 : Nat) (l0_0 : List (List Int)) (A0_1 : Option Addr) (c0_1 : Nat) (l0_1 : List (List Int)) (A0_2 : Option Addr) (c0_2 : Nat) (l0_2 : List Int) (A0_3 : Option Addr) (c0_3 : Nat) (l0_3 : List Bool) (r : Int) (w : World) (hr0_0 : Kd.C (Kd.slice 2 (Kd.int .i64)) w A0_0 l0_0.length l0_0) (hc0_0 : l0_0.length ≤ c0_0) (hr0_1 : Kd.C (Kd.slice 2 (Kd.int .i64)) w A0_1 l0_1.length l0_1) (hc0_1 : l0_1.length ≤ c0_1) (hr0_2 : Kd.C (Kd.int .i64) w A0_2 l0_2.length l0_2) (hc0_2 : l0_2.length ≤ c0_2) (hr0_3 : Kd.C Kd.bool w A0_3 l0_3.length l0_3) (hc0_3 : l0_3.length ≤ c0_3) (h : impl_Algebra_elements.f l0_0 l0_1 l0_2 l0_3 = some r) :
  Calls Try.prog 29 #[.agg #[.slice A0_0 l0_0.length c0_0, .slice A0_1 l0_1.length c0_1, .slice A0_2 l0_2.length c0_2, .slice A0_3 l0_3.length c0_3]] w fun e w' => e = .returned (.int .i64 r) ∧ Below w.heap.size w w' := by
 have hu29 := Try.underlying29
 have HR0_0 := AZ.mk hr0_0
 have HC0_0 := AZ.mk hc0_0
 clear hr0_0 hc0_0
 have HR0_1 := AZ.mk hr0_1
 have HC0_1 := AZ.mk hc0_1
 clear hr0_1 hc0_1
 have HR0_2 := AZ.mk hr0_2
 have HC0_2 := AZ.mk hc0_2
 clear hr0_2 hc0_2
 have HR0_3 := AZ.mk hr0_3
 have HC0_3 := AZ.mk hc0_3
 clear hr0_3 hc0_3
 have HB := AZ.mk (Below.refl w.heap.size w)
 have H : ((impl_size_bool.f l0_3).bind fun t164 => (some t164)) = some r := h
 clear h
 replace H := Option.bind_eq_some_iff.mp H
 obtain ⟨t164, A20, H⟩ := H
 replace H : (some t164) = some r := H
 have A2 := AZ.mk A20
 clear A20
 obtain rfl := Option.some.inj H
 go_enter Try.func29, Try.ntmps29
 go_wp2_with (first | ((with_reducible refine gate_dst (N := 1) rfl ?_); refine box_event ?hg (N := 1) ?hd (cs := #[.slice A0_0 l0_0.length c0_0, .slice A0_1 l0_1.length c0_1, .slice A0_2 l0_2.length c0_2, .slice A0_3 l0_3.length c0_3]) (t := 29) ?hr ?_; (case hd => rfl); (case hg => rfl); (case hr => first | (go_simp; done) | (go_simp; rfl)); intro gb163 hg w3 hbox hb; have n0_ := AZ.mk (pT (by repeat (first | (with_reducible first | exact HB.out | apply pA | apply pN | apply pD) | exact HB.out)) hb); have n1_ := AZ.mk (hbox); have n2_ := AZ.mk ((by rw [hg]; exact (pZ (by repeat (first | (with_reducible first | exact HB.out | apply pA | apply pN | apply pD) | exact HB.out))) : w.heap.size ≤ gb163)); have n3_ := AZ.mk ((by rw [hg]; exact (pZ (by repeat (first | (with_reducible first | exact HB.out | apply pA | apply pN | apply pD) | exact HB.out))) : w.heap.size ≤ gb163)); clear HB; have HB := n0_; have BK163 := n1_; have GW163 := n2_; have GE163 := n3_; clear n0_ n1_ n2_ n3_; clear hb hbox hg; have hcz4_0 : w3.cell? ⟨gb163, 0, none⟩ = some (.slice A0_0 l0_0.length c0_0) := (bc BK163.out 0).trans rfl; have hcz4_1 : w3.cell? ⟨gb163, 1, none⟩ = some (.slice A0_1 l0_1.length c0_1) := (bc BK163.out 1).trans rfl; have hcz4_2 : w3.cell? ⟨gb163, 2, none⟩ = some (.slice A0_2 l0_2.length c0_2) := (bc BK163.out 2).trans rfl; have hcz4_3 : w3.cell? ⟨gb163, 3, none⟩ = some (.slice A0_3 l0_3.length c0_3) := (bc BK163.out 3).trans rfl; have hfz4_0 := bf BK163.out 0; have hfz4_1 := bf BK163.out 1; have hfz4_2 := bf BK163.out 2; have hfz4_3 := bf BK163.out 3) | ((with_reducible refine gate_callee (f := 53) rfl ?_); refine goesL_ (some 5) rfl rfl Try.func53 (by kernel_rfl) rfl #[.slice A0_3 l0_3.length c0_3] rfl (by (try simp only [List.map_toArray, List.map_cons, List.map_nil]); first | done | rfl | (simp only [List.length_drop, List.length_take]; rfl)) ?_; (with_reducible refine (impl_size_bool.calls _ _ l0_3 t164 _ ?side1 ?side2 A2.out).mono ?_); (case side1 => repeat (first | exact (Kd.C_below HR0_3.out HB.out) | (with_reducible refine Kd.C_alloc ?_ _) | (with_reducible refine Kd.C_drewN ?_ _) | (with_reducible refine Kd.C_drew ?_))); (case side2 => exact HC0_3.out); rintro e w' ⟨rfl, ⟨nd, rfl⟩⟩; refine ⟨_, rfl, ?_⟩))
 go_ret
 exact ⟨by first | rfl | (simp [errW_none, errW_some] <;> rfl) | (simp [*, errW_none, errW_some] <;> rfl), by repeat (first | (with_reducible first | exact HB.out | apply pA | apply pN | apply pD | refine pS ?_ GE163.out) | exact HB.out)⟩
end Go.Proofs.Ytgfilbgjnloopaa.P
namespace Go.Proofs.Ytgfilbgjnloopaa.P
open Go.RowKit Go.Proofs.YtgfilbgjnloopaaW.PrintWords Go.Proofs.YtgfilbgjnloopaaW.PrintLast Go.Proofs.YtgfilbgjnloopaaW.PrintMore
attribute [local go_sem] max2_int min2_int max_two min_two max_three min_three max_four min_four
set_option linter.unusedVariables false
set_option linter.unusedSimpArgs false
def impl_size_int64.f (l0 : List Int) : Option (Int) := some (l0.length : Int)
set_option maxHeartbeats 8000000 in
set_option maxRecDepth 100000 in
theorem impl_size_int64.calls (A0 : Option Addr) (c0 : Nat) (l0 : List Int) (r : Int) (w : World) (hr0 : Kd.C (Kd.int .i64) w A0 l0.length l0) (hc0 : l0.length ≤ c0) (h : impl_size_int64.f l0 = some r) :
  Calls Try.prog 31 #[.slice A0 l0.length c0] w fun e w' => e = .returned (.int .i64 r) ∧ Drawn0 w w' := by
 have HR0 := AZ.mk hr0
 have HC0 := AZ.mk hc0
 clear hr0 hc0
 have H : (some (l0.length : Int)) = some r := h
 clear h
 obtain rfl := Option.some.inj H
 go_enter Try.func31, Try.ntmps31
 go_wp2
 go_ret
 exact ⟨by first | rfl | (simp; done) | (simp [*]; done), by repeat (first | exact Drawn0.refl _ | apply Drawn0.step)⟩
end Go.Proofs.Ytgfilbgjnloopaa.P
namespace Go.Proofs.Ytgfilbgjnloopaa.P
open Go.RowKit Go.Proofs.YtgfilbgjnloopaaW.PrintWords Go.Proofs.YtgfilbgjnloopaaW.PrintLast Go.Proofs.YtgfilbgjnloopaaW.PrintMore
attribute [local go_sem] max2_int min2_int max_two min_two max_three min_three max_four min_four
set_option linter.unusedVariables false
set_option linter.unusedSimpArgs false
def impl_within.f (a0 : Int) (a1 : Int) (a2 : Int) : Option (Bool) := if a0 ≥ a1 then (some (decide (a0 ≤ a2))) else (some false)
set_option maxHeartbeats 8000000 in
set_option maxRecDepth 100000 in
theorem impl_within.calls (a0 : Int) (a1 : Int) (a2 : Int) (r : Bool) (w : World) (h : impl_within.f a0 a1 a2 = some r) :
  Calls Try.prog 34 #[.int .i64 a0, .int .i64 a1, .int .i64 a2] w fun e w' => e = .returned (.bool r) ∧ Drawn0 w w' := by
 have H : (if a0 ≥ a1 then (some (decide (a0 ≤ a2))) else (some false)) = some r := h
 clear h
 by_cases c4 : a0 ≥ a1
 ·rw [if_pos c4] at H
  have c4b0 : decide (a1 ≤ a0) = true := decide_eq_true c4
  clear c4
  obtain rfl := Option.some.inj H
  go_enter Try.func34, Try.ntmps34
  go_wp2
  go_ret
  exact ⟨by first | rfl | (simp; done) | (simp [*]; done), by repeat (first | exact Drawn0.refl _ | apply Drawn0.step)⟩
 rw [if_neg c4] at H
 have c4b0 : decide (a1 ≤ a0) = false := decide_eq_false c4
 clear c4
 obtain rfl := Option.some.inj H
 go_enter Try.func34, Try.ntmps34
 go_wp2
 go_ret
 exact ⟨by first | rfl | (simp; done) | (simp [*]; done), by repeat (first | exact Drawn0.refl _ | apply Drawn0.step)⟩
end Go.Proofs.Ytgfilbgjnloopaa.P
namespace Go.Proofs.Ytgfilbgjnloopaa.P
open Go.RowKit Go.Proofs.YtgfilbgjnloopaaW.PrintWords Go.Proofs.YtgfilbgjnloopaaW.PrintLast Go.Proofs.YtgfilbgjnloopaaW.PrintMore
attribute [local go_sem] max2_int min2_int max_two min_two max_three min_three max_four min_four
set_option linter.unusedVariables false
set_option linter.unusedSimpArgs false
def impl_size_Lint64.f (l0 : List (List Int)) : Option (Int) := some (l0.length : Int)
set_option maxHeartbeats 8000000 in
set_option maxRecDepth 100000 in
theorem impl_size_Lint64.calls (A0 : Option Addr) (c0 : Nat) (l0 : List (List Int)) (r : Int) (w : World) (hr0 : Kd.C (Kd.slice 2 (Kd.int .i64)) w A0 l0.length l0) (hc0 : l0.length ≤ c0) (h : impl_size_Lint64.f l0 = some r) :
  Calls Try.prog 36 #[.slice A0 l0.length c0] w fun e w' => e = .returned (.int .i64 r) ∧ Drawn0 w w' := by
 have HR0 := AZ.mk hr0
 have HC0 := AZ.mk hc0
 clear hr0 hc0
 have H : (some (l0.length : Int)) = some r := h
 clear h
 obtain rfl := Option.some.inj H
 go_enter Try.func36, Try.ntmps36
 go_wp2
 go_ret
 exact ⟨by first | rfl | (simp; done) | (simp [*]; done), by repeat (first | exact Drawn0.refl _ | apply Drawn0.step)⟩
end Go.Proofs.Ytgfilbgjnloopaa.P
namespace Go.Proofs.Ytgfilbgjnloopaa.P
open Go.RowKit Go.Proofs.YtgfilbgjnloopaaW.PrintWords Go.Proofs.YtgfilbgjnloopaaW.PrintLast Go.Proofs.YtgfilbgjnloopaaW.PrintMore
set_option linter.unusedVariables false
set_option linter.unusedSimpArgs false
def inR (n x : Int) : Bool := decide (0 ≤ x) && decide (x ≤ n - 1)
def areEl (n : Int) (l : List Int) (m : Int) : Bool := ((l.length : Int) == m) && !(l.any fun x => !(inR n x))
theorem inR_eq (n x : Int) : impl_within.f x 0 (n - 1) = some (inR n x) := by
 unfold impl_within.f inR
 by_cases h : 0 ≤ x
 ·rw [if_pos h, decide_eq_true h, Bool.true_and]
 ·rw [if_neg h, decide_eq_false h, Bool.false_and]
theorem take_rd (l : List Int) (i : Nat) (h : i < l.length) : l.take (i + 1) = l.take i ++ [rd l (i : Int)] := by
 unfold rd
 rw [List.take_add_one, Int.toNat_natCast, List.getD_eq_getElem?_getD, List.getElem?_eq_getElem h]
 rfl
set_option maxHeartbeats 8000000 in
set_option maxRecDepth 100000 in
theorem c33_calls (x n : Int) (hn : 1 ≤ n ∧ n ≤ 40) (gN : Nat) (w : World) (bN : w.heap[gN]? = some (.cells #[.int .i64 n] 2 (0, 0))) :
  Calls Try.prog 33 #[.int .i64 x, .pointer (some ⟨gN, 0, none⟩)] w fun e w' => e = .returned (.bool (!(inR n x))) ∧ Below w.heap.size w w' := by
 have hc_ : w.cell? ⟨gN, 0, none⟩ = some (.int .i64 n) := (bc bN 0).trans rfl
 have hw1 : wrap64 (n - 1) = n - 1 := by clear bN hc_; unfold wrap64; omega
 have hw2 : IntKind.i64.wrap (n - 1) = n - 1 := (i64_w _).trans hw1
 have HB := AZ.mk (Below.refl w.heap.size w)
 have HI := AZ.mk (inR_eq n x)
 clear bN hn
 go_enter Try.func33, Try.ntmps33
 go_wp2_with (first | ((with_reducible refine gate_callee (f := 34) rfl ?_); (try (refine gate_guard (by rfl) ?_; dsimp only)); refine goesL_ (some 7) rfl rfl Try.func34 (by kernel_rfl) rfl #[.int .i64 x, .int .i64 0, .int .i64 (n - 1)] rfl (by (try simp only [List.map_toArray, List.map_cons, List.map_nil]); first | done | rfl) ?_; refine (impl_within.calls x 0 (n - 1) (inR n x) _ HI.out).mono ?_; rintro e w7 ⟨rfl, hd⟩; refine ⟨_, rfl, ?_⟩; have hb := hd.below; have n0_ := AZ.mk (pT HB.out hb); clear HB; have HB := n0_; clear n0_; clear hb hd))
 go_ret
 exact ⟨rfl, HB.out⟩
set_option maxHeartbeats 8000000 in
set_option maxRecDepth 100000 in
theorem idx_calls (A : Option Addr) (c : Nat) (l : List Int) (n : Int) (hn : 1 ≤ n ∧ n ≤ 40) (gN : Nat) (w : World) (hr : (Kd.int .i64).C w A l.length l) (hc : l.length ≤ c) (hl : l.length ≤ 9223372036854775807) (bN : w.heap[gN]? = some (.cells #[.int .i64 n] 2 (0, 0))) :
  Calls Try.prog 54 #[.slice A l.length c, .func (.func 33) #[] #[.pointer (some ⟨gN, 0, none⟩)]] w fun e w' => ∃ r : Int, e = .returned (.int .i64 r) ∧ decide (r ≥ 0) = (l.any fun x => !(inR n x)) ∧ Below w.heap.size w w' := by
 have HR := AZ.mk hr
 have HN := AZ.mk hn
 have HL := AZ.mk hl
 have HB := AZ.mk (Below.refl w.heap.size w)
 have BN := AZ.mk bN
 clear hr hn hl hc bN
 go_enter Try.func54, Try.ntmps54
 go_wp2
 go_loopg [8] l.length (fun kq v8 w' => ∃ i : Nat, v8 = .int .i64 (i : Int) ∧ AZ (kq + i = l.length) ∧ AZ (∀ x ∈ l.take i, inR n x = true) ∧ AZ (Below w.heap.size w w'))
 case atStart => exact ⟨0, rfl, ⟨by omega⟩, ⟨fun x hx => by simp at hx⟩, HB⟩
 case round =>
  clear HB
  obtain ⟨i, rfl, HK, HT, HB⟩ := hrel
  by_cases hi : i < l.length
  ·have c1 : decide ((i : Int) < (l.length : Int)) = true := decide_eq_true (by omega)
   have c2 : decide (i < l.length) = true := decide_eq_true hi
   have c3 := eq_true hi
   have hw1 : IntKind.i64.wrap ((i : Int) + 1) = ((i + 1 : Nat) : Int) := (i64_w _).trans (by have := HL.out; clear c1 c2 c3; unfold wrap64; omega)
   obtain ⟨ad, rfl, hx⟩ := Kd.at_int HR.out (i : Int) (by omega) (by omega)
   replace hx := (HB.out.cell (World.block_lt_of_cell? w _ hx)).trans hx
   have p1 := eq_true (show 0 ≤ (i : Int) by omega)
   have q1 := eq_true (show (i : Int) < (l.length : Int) by omega)
   rw [Int.toNat_natCast] at hx
   obtain ⟨y, hy⟩ : ∃ y, y = rd l (i : Int) := ⟨_, rfl⟩
   have HY := AZ.mk (take_rd l i hi)
   rw [← hy] at hx HY
   clear hy
   obtain ⟨v, hv⟩ : ∃ v, v = inR n y := ⟨_, rfl⟩
   have HV := AZ.mk hv
   clear hv
   cases v with
   | true =>
    go_wp2_with (first | ((with_reducible refine gate_value (t := 11) rfl ?_); (try (refine gate_guard (by rfl) ?_; dsimp only)); refine goesVL_ (some 16) rfl rfl Try.func33 (by kernel_rfl) rfl #[.int .i64 y] _ rfl (by rfl) (by (try simp only [List.map_toArray, List.map_cons, List.map_nil]); first | done | rfl) rfl ?_; refine (c33_calls y n HN.out gN _ (bb_ BN.out HB.out)).mono ?_; rintro e w16 ⟨rfl, hb⟩; refine ⟨_, rfl, ?_⟩; rw [← HV.out]; have n0_ := AZ.mk (pT HB.out hb); clear HB; have HB := n0_; clear n0_; clear hb))
    go_roundg (l.length - (i + 1))
    case measure => have := HK.out; omega
    case rel => exact ⟨i + 1, by (try simp only [hw1]); try rfl, ⟨by omega⟩, ⟨fun x hx => by rw [HY.out] at hx; exact (List.mem_append.1 hx).elim (HT.out x) (fun h => by rw [List.mem_singleton.1 h]; exact HV.out.symm)⟩, HB⟩
   | false =>
    go_wp2_with (first | ((with_reducible refine gate_value (t := 11) rfl ?_); (try (refine gate_guard (by rfl) ?_; dsimp only)); refine goesVL_ (some 16) rfl rfl Try.func33 (by kernel_rfl) rfl #[.int .i64 y] _ rfl (by rfl) (by (try simp only [List.map_toArray, List.map_cons, List.map_nil]); first | done | rfl) rfl ?_; refine (c33_calls y n HN.out gN _ (bb_ BN.out HB.out)).mono ?_; rintro e w16 ⟨rfl, hb⟩; refine ⟨_, rfl, ?_⟩; rw [← HV.out]; have n0_ := AZ.mk (pT HB.out hb); clear HB; have HB := n0_; clear n0_; clear hb))
    go_ret
    refine ⟨_, rfl, ?_, HB.out⟩
    have h1 : (l.any fun x => !(inR n x)) = true := List.any_eq_true.2 ⟨y, List.mem_of_mem_take (i := i + 1) (by rw [HY.out]; simp), by rw [← HV.out]; rfl⟩
    rw [h1]
    exact decide_eq_true (by omega)
  ·have c1 : decide ((i : Int) < (l.length : Int)) = false := decide_eq_false (by omega)
   have c2 : decide (i < l.length) = false := decide_eq_false hi
   have c3 := eq_false hi
   go_wp2
   go_ret
   refine ⟨_, rfl, ?_, HB.out⟩
   have h1 : (l.any fun x => !(inR n x)) = false := List.any_eq_false.2 (fun x hx => by
    have h9 := HT.out x (by rw [List.take_of_length_le (by omega)]; exact hx)
    rw [h9]; decide)
   rw [h1]
   rfl
set_option maxHeartbeats 8000000 in
set_option maxRecDepth 100000 in
theorem has_calls (A : Option Addr) (c : Nat) (l : List Int) (n : Int) (hn : 1 ≤ n ∧ n ≤ 40) (gN : Nat) (w : World) (hr : (Kd.int .i64).C w A l.length l) (hc : l.length ≤ c) (hl : l.length ≤ 9223372036854775807) (bN : w.heap[gN]? = some (.cells #[.int .i64 n] 2 (0, 0))) :
  Calls Try.prog 32 #[.slice A l.length c, .func (.func 33) #[] #[.pointer (some ⟨gN, 0, none⟩)]] w fun e w' => e = .returned (.bool (l.any fun x => !(inR n x))) ∧ Below w.heap.size w w' := by
 have HR := AZ.mk hr
 have HN := AZ.mk hn
 have HL := AZ.mk hl
 have HC := AZ.mk hc
 have HB := AZ.mk (Below.refl w.heap.size w)
 have BN := AZ.mk bN
 clear hr hn hl hc bN
 go_enter Try.func32, Try.ntmps32
 go_wp2_with (first | ((with_reducible refine gate_callee (f := 54) rfl ?_); (try (refine gate_guard (by rfl) ?_; dsimp only)); refine goesL_ (some 7) rfl rfl Try.func54 (by kernel_rfl) rfl #[.slice A l.length c, .func (.func 33) #[] #[.pointer (some ⟨gN, 0, none⟩)]] rfl (by (try simp only [List.map_toArray, List.map_cons, List.map_nil]); first | done | rfl) ?_; refine (idx_calls A c l n HN.out gN _ (Kd.C_below HR.out HB.out) HC.out HL.out (bb_ BN.out HB.out)).mono ?_; rintro e w7 ⟨r, rfl, hr, hb⟩; refine ⟨_, rfl, ?_⟩; have n0_ := AZ.mk (pT HB.out hb); clear HB; have HB := n0_; clear n0_; clear hb))
 go_ret
 exact ⟨rfl, HB.out⟩
set_option maxHeartbeats 8000000 in
set_option maxRecDepth 100000 in
theorem c30_calls (A : Option Addr) (c : Nat) (l : List Int) (m n : Int) (hn : 1 ≤ n ∧ n ≤ 40) (gN : Nat) (w : World) (hr : (Kd.int .i64).C w A l.length l) (hc : l.length ≤ c) (hl : l.length ≤ 9223372036854775807) (bN : w.heap[gN]? = some (.cells #[.int .i64 n] 2 (0, 0))) :
  Calls Try.prog 30 #[.slice A l.length c, .int .i64 m, .pointer (some ⟨gN, 0, none⟩)] w fun e w' => e = .returned (.bool (areEl n l m)) ∧ Below w.heap.size w w' := by
 have HR := AZ.mk hr
 have HN := AZ.mk hn
 have HL := AZ.mk hl
 have HC := AZ.mk hc
 have HB := AZ.mk (Below.refl w.heap.size w)
 have BN := AZ.mk bN
 clear hr hn hl hc bN
 by_cases e : (l.length : Int) = m
 ·have e1 : ((l.length : Int) == m) = true := beq_iff_eq.2 e
  have e2 := decide_eq_true e
  have HE := AZ.mk (show areEl n l m = !(l.any fun x => !(inR n x)) by unfold areEl; rw [e1]; rfl)
  clear e
  go_enter Try.func30, Try.ntmps30
  go_wp2_with (first | ((with_reducible refine gate_callee (f := 31) rfl ?_); (try (refine gate_guard (by rfl) ?_; dsimp only)); refine goesL_ (some 7) rfl rfl Try.func31 (by kernel_rfl) rfl #[.slice A l.length c] rfl (by (try simp only [List.map_toArray, List.map_cons, List.map_nil]); first | done | rfl) ?_; refine (impl_size_int64.calls A c l (l.length : Int) _ (Kd.C_below HR.out HB.out) HC.out rfl).mono ?_; rintro e w7 ⟨rfl, hd⟩; refine ⟨_, rfl, ?_⟩; have hb := hd.below; have n0_ := AZ.mk (pT HB.out hb); clear HB; have HB := n0_; clear n0_; clear hb hd) | ((with_reducible refine gate_callee (f := 32) rfl ?_); (try (refine gate_guard (by rfl) ?_; dsimp only)); refine goesL_ (some 13) rfl rfl Try.func32 (by kernel_rfl) rfl #[.slice A l.length c, .func (.func 33) #[] #[.pointer (some ⟨gN, 0, none⟩)]] rfl (by (try simp only [List.map_toArray, List.map_cons, List.map_nil]); first | done | rfl) ?_; refine (has_calls A c l n HN.out gN _ (Kd.C_below HR.out HB.out) HC.out HL.out (bb_ BN.out HB.out)).mono ?_; rintro e w13 ⟨rfl, hb⟩; refine ⟨_, rfl, ?_⟩; have n0_ := AZ.mk (pT HB.out hb); clear HB; have HB := n0_; clear n0_; clear hb))
  go_ret
  exact ⟨congrArg (fun b => Ending.returned (Value.bool b)) HE.out.symm, HB.out⟩
 ·have e1 : ((l.length : Int) == m) = false := beq_eq_false_iff_ne.2 e
  have e2 := decide_eq_false e
  have HE := AZ.mk (show areEl n l m = false by unfold areEl; rw [e1]; rfl)
  clear e
  go_enter Try.func30, Try.ntmps30
  go_wp2_with (first | ((with_reducible refine gate_callee (f := 31) rfl ?_); (try (refine gate_guard (by rfl) ?_; dsimp only)); refine goesL_ (some 7) rfl rfl Try.func31 (by kernel_rfl) rfl #[.slice A l.length c] rfl (by (try simp only [List.map_toArray, List.map_cons, List.map_nil]); first | done | rfl) ?_; refine (impl_size_int64.calls A c l (l.length : Int) _ (Kd.C_below HR.out HB.out) HC.out rfl).mono ?_; rintro e w7 ⟨rfl, hd⟩; refine ⟨_, rfl, ?_⟩; have hb := hd.below; have n0_ := AZ.mk (pT HB.out hb); clear HB; have HB := n0_; clear n0_; clear hb hd))
  go_ret
  exact ⟨congrArg (fun b => Ending.returned (Value.bool b)) HE.out.symm, HB.out⟩
set_option maxHeartbeats 8000000 in
set_option maxRecDepth 100000 in
theorem c35_calls (A : Option Addr) (c : Nat) (l : List Int) (n : Int) (hn : 1 ≤ n ∧ n ≤ 40) (gF gN : Nat) (w : World) (hr : (Kd.int .i64).C w A l.length l) (hc : l.length ≤ c) (hl : l.length ≤ 9223372036854775807) (bF : w.heap[gF]? = some (.cells #[.func (.func 30) #[] #[.pointer (some ⟨gN, 0, none⟩)]] 55 (0, 0))) (bN : w.heap[gN]? = some (.cells #[.int .i64 n] 2 (0, 0))) :
  Calls Try.prog 35 #[.slice A l.length c, .pointer (some ⟨gF, 0, none⟩), .pointer (some ⟨gN, 0, none⟩)] w fun e w' => e = .returned (.bool (areEl n l n)) ∧ Below w.heap.size w w' := by
 have hcf : w.cell? ⟨gF, 0, none⟩ = some (.func (.func 30) #[] #[.pointer (some ⟨gN, 0, none⟩)]) := (bc bF 0).trans rfl
 have hcn : w.cell? ⟨gN, 0, none⟩ = some (.int .i64 n) := (bc bN 0).trans rfl
 have HR := AZ.mk hr
 have HN := AZ.mk hn
 have HL := AZ.mk hl
 have HC := AZ.mk hc
 have HB := AZ.mk (Below.refl w.heap.size w)
 have BN := AZ.mk bN
 clear hr hn hl hc bN bF
 go_enter Try.func35, Try.ntmps35
 go_wp2_with (first | ((with_reducible refine gate_value (t := 5) rfl ?_); (try (refine gate_guard (by rfl) ?_; dsimp only)); refine goesVL_ (some 8) rfl rfl Try.func30 (by kernel_rfl) rfl #[.slice A l.length c, .int .i64 n] _ rfl (by rfl) (by (try simp only [List.map_toArray, List.map_cons, List.map_nil]); first | done | rfl) rfl ?_; refine (c30_calls A c l n n HN.out gN _ (Kd.C_below HR.out HB.out) HC.out HL.out (bb_ BN.out HB.out)).mono ?_; rintro e w8 ⟨rfl, hb⟩; refine ⟨_, rfl, ?_⟩; have n0_ := AZ.mk (pT HB.out hb); clear HB; have HB := n0_; clear n0_; clear hb))
 go_ret
 exact ⟨rfl, HB.out⟩
end Go.Proofs.Ytgfilbgjnloopaa.P
namespace Go.Proofs.Ytgfilbgjnloopaa.P
open Go.RowKit Go.Proofs.YtgfilbgjnloopaaW.PrintWords Go.Proofs.YtgfilbgjnloopaaW.PrintLast Go.Proofs.YtgfilbgjnloopaaW.PrintMore
set_option linter.unusedVariables false
set_option linter.unusedSimpArgs false
theorem F_of_ints {w : World} {A : Option Addr} {n : Nat} {xs : List (List Int)} (h : Kd.C (Kd.slice 2 (Kd.int .i64)) w A n xs) : Kd.F (Kd.slice 2 (Kd.int .i64)) w (fun _ => True) A n xs := fun W' hW => by
 have hsz : w.heap.size ≤ W'.heap.size := by
  rcases Nat.eq_zero_or_pos w.heap.size with h0 | h0
  ·omega
  ·have := heap_lt (hW (w.heap.size - 1) trivial (by omega)) (by omega)
   omega
 have hb : Below w.heap.size w { W' with os := w.os, tape := w.tape, output := w.output } := ⟨rfl, rfl, rfl, hsz, fun k hk => hW k trivial hk⟩
 have h2 : Kd.C (Kd.slice 2 (Kd.int .i64)) { W' with os := w.os, tape := w.tape, output := w.output } A n xs := Kd.C_below h hb
 exact h2
theorem F_old {w w1 : World} {A : Option Addr} {n : Nat} {xs : List (List Int)} (h : Kd.F (Kd.slice 2 (Kd.int .i64)) w (fun _ => True) A n xs) (hb : Below w.heap.size w w1) : Kd.F (Kd.slice 2 (Kd.int .i64)) w1 (fun k => True ∧ k < w.heap.size) A n xs := Kd.F_old h hb
theorem N_elder {w w1 : World} {ok : Nat → Prop} {v : Value} {xs : List (List Int)} {k : Nat} (h : Kd.N (Kd.slice 2 (Kd.int .i64)) 23 w1 w.heap.size ok v xs) (hk : k < w.heap.size) : some k ≠ v.ownBlock := fun e => by have := Kd.N_base h k e.symm; omega
theorem N_elder2 {w w1 : World} {ok : Nat → Prop} {v : Value} {xs : List (List Int)} {k : Nat} (h : Kd.N (Kd.slice 2 (Kd.int .i64)) 23 w1 w.heap.size ok v xs) (hk : k < w.heap.size) : some k ≠ v.ownBlock := N_elder h hk
theorem zero_row {w : World} : Kd.FK (Kd.slice 2 (Kd.int .i64)) w (fun _ => False) [] (Value.slice none 0 0).cells.toList := Kd.FK_slice_mk (Nat.le_refl _) (Kd.F_nil _ _ _)
set_option maxHeartbeats 8000000 in
set_option maxRecDepth 100000 in
theorem grow_calls (m : Nat) (hm : 1 ≤ m ∧ m ≤ 1000) (w : World) :
  Calls Try.prog 55 #[.slice none 0 0, .int .i64 (m : Int)] w fun e w' => ∃ v : Value, e = .returned v ∧ Kd.N (Kd.slice 2 (Kd.int .i64)) 23 w' w.heap.size (fun _ => True) v [] ∧ Below w.heap.size w w' := by
 have hu := Try.underlying22
 have HB := AZ.mk (Below.refl w.heap.size w)
 have HM := AZ.mk hm
 have c1 : decide ((m : Int) < 0) = false := decide_eq_false (by omega)
 have c2 : decide ((0 : Int) < (m : Int)) = true := decide_eq_true (by omega)
 have c3 : decide (0 < m) = true := decide_eq_true (by omega)
 have c4 : IntKind.i64.wrap (m : Int) = (m : Int) := (i64_w _).trans (by clear c1 c2 c3; unfold wrap64; omega)
 clear hm
 go_enter Try.func55, Try.ntmps55
 go_wp2_with (first | ((with_reducible refine gate_dst (N := 22) rfl ?_); at_builtin; refine Kd.N_append_zeros (Kd.slice 2 (Kd.int .i64)) (w0 := w) w.heap.size rfl (.tmp 20) (.tmp 21) 22 3 23 (.slice none 0 0) 24 rfl Try.underlying22 Try.underlying3 info23 rfl Nat.zero_lt_one (by decide) (.slice none 0 0) [] [] (m : Int) (fun _ => True) rfl rfl zero_row (fun _ _ => trivial) (Kd.N_nil _ _ _ _ _) (by omega) HB.out (pZ HB.out) (by have := HM.out; simp; omega) ?_; intro v22 w22 ho hb hg hat; clear hg hat; have HO := AZ.mk ho; have n0_ := AZ.mk hb; clear HB ho hb; have HB := n0_; clear n0_; obtain ⟨A22, c22, e22⟩ := Kd.N_slice HO.out; obtain ⟨k22, hk22⟩ : ∃ k : Nat, k = ([] ++ List.replicate (m : Int).toNat ([] : List Int)).length := ⟨_, rfl⟩; rw [← hk22] at e22; clear hk22; subst e22))
 go_ret
 exact ⟨_, rfl, Kd.N_take HO.out (Nat.zero_le _), HB.out⟩
set_option maxHeartbeats 8000000 in
set_option maxRecDepth 100000 in
theorem concat_calls (A0 : Option Addr) (c0 : Nat) (xs : List (List Int)) (A1 : Option Addr) (c1 : Nat) (ys : List (List Int)) (g : Nat) (w : World) (hx : Kd.C (Kd.slice 2 (Kd.int .i64)) w A0 xs.length xs) (hy : Kd.C (Kd.slice 2 (Kd.int .i64)) w A1 ys.length ys) (hs : 1 ≤ xs.length + ys.length ∧ xs.length + ys.length ≤ 1000) (bG : w.heap[g]? = some (.cells #[.slice A0 xs.length c0, .slice A1 ys.length c1] 22 (0, 0))) :
  Calls Try.prog 37 #[.slice (some ⟨g, 0, none⟩) 2 2] w fun e w' => ∃ v : Value, e = .returned v ∧ Kd.N (Kd.slice 2 (Kd.int .i64)) 23 w' w.heap.size (fun _ => True) v (xs ++ ys) ∧ Below w.heap.size w w' := by
 have hu := Try.underlying22
 have HB := AZ.mk (Below.refl w.heap.size w)
 have HS := AZ.mk hs
 have FX := AZ.mk (F_of_ints hx)
 have FY := AZ.mk (F_of_ints hy)
 have BG := AZ.mk bG
 have GG := AZ.mk (blk_lt bG)
 clear hx hy hs bG
 go_enter Try.func37, Try.ntmps37
 go_wp2
 go_loopg [3, 11] 2 (fun kq v3 v11 w' => ∃ i s : Nat, v11 = .int .i64 (i : Int) ∧ v3 = .int .i64 (s : Int) ∧ AZ (kq + i = 2) ∧ AZ (s = if i = 0 then 0 else if i = 1 then xs.length else xs.length + ys.length) ∧ AZ (Below w.heap.size w w') ∧ AZ (w'.heap[g]? = some (.cells #[.slice A0 xs.length c0, .slice A1 ys.length c1] 22 (0, 0))))
 case atStart => exact ⟨0, 0, rfl, rfl, ⟨rfl⟩, ⟨rfl⟩, HB, BG⟩
 case round =>
  clear HB BG
  obtain ⟨i, s, rfl, rfl, HK, HI, HB, BG⟩ := hrel
  obtain rfl | rfl | rfl : i = 0 ∨ i = 1 ∨ i = 2 := by have := HK.out; omega
  ·obtain rfl : s = 0 := HI.out
   have hx0 : World.cell? _ ⟨g, 0, none⟩ = some (.slice A0 xs.length c0) := (bc BG.out 0).trans rfl
   have hx1 : World.cell? _ ⟨g, 1, none⟩ = some (.slice A1 ys.length c1) := (bc BG.out 1).trans rfl
   have d1 : decide ((xs.length : Int) < 0) = false := decide_eq_false (by omega)
   have d2 : IntKind.i64.wrap (xs.length : Int) = (xs.length : Int) := (i64_w _).trans (by have := HS.out; clear d1; unfold wrap64; omega)
   go_wp2
   go_roundg 1
   case measure => have := HK.out; omega
   case rel => exact ⟨1, xs.length, rfl, rfl, ⟨rfl⟩, ⟨rfl⟩, HB, BG⟩
  ·obtain rfl : s = xs.length := HI.out
   have hx0 : World.cell? _ ⟨g, 0, none⟩ = some (.slice A0 xs.length c0) := (bc BG.out 0).trans rfl
   have hx1 : World.cell? _ ⟨g, 1, none⟩ = some (.slice A1 ys.length c1) := (bc BG.out 1).trans rfl
   obtain ⟨t, ht⟩ : ∃ t, t = xs.length + ys.length := ⟨_, rfl⟩
   have d1 : decide ((t : Int) < 0) = false := decide_eq_false (by omega)
   have d2 : IntKind.i64.wrap ((xs.length : Int) + (ys.length : Int)) = (t : Int) := (i64_w _).trans (by have := HS.out; clear d1; unfold wrap64; omega)
   have HT := AZ.mk ht
   clear ht
   go_wp2
   go_roundg 0
   case measure => have := HK.out; omega
   case rel => exact ⟨2, t, rfl, rfl, ⟨rfl⟩, ⟨HT.out⟩, HB, BG⟩
  ·obtain rfl : s = xs.length + ys.length := HI.out
   clear HI HK
   go_wp2_with (first | ((with_reducible refine gate_callee (f := 55) rfl ?_); refine goesL_ (some 24) rfl rfl Try.func55 (by kernel_rfl) rfl #[.slice none 0 0, .int .i64 ((xs.length + ys.length : Nat) : Int)] rfl (by (try simp only [List.map_toArray, List.map_cons, List.map_nil]); first | done | rfl) ?_; refine (grow_calls (xs.length + ys.length) HS.out _).mono ?_; rintro e w24 ⟨v24, rfl, ho, hb⟩; refine ⟨_, rfl, ?_⟩; have HO := AZ.mk (Kd.N_lower ho (pZ HB.out)); have n0_ := AZ.mk (pT HB.out hb); have n1_ := AZ.mk (bb_ BG.out hb); clear HB BG hb ho; have HB := n0_; have BG := n1_; clear n0_ n1_))
   have HO0 := HO
   clear HO
   go_loopg [6, 27] 2 (fun kq v6 v27 w' => ∃ i : Nat, v27 = .int .i64 (i : Int) ∧ AZ (kq + i = 2) ∧ AZ (Kd.N (Kd.slice 2 (Kd.int .i64)) 23 w' w.heap.size (fun _ => True) v6 (if i = 0 then [] else if i = 1 then [] ++ xs else [] ++ xs ++ ys)) ∧ AZ (Below w.heap.size w w') ∧ AZ (w'.heap[g]? = some (.cells #[.slice A0 xs.length c0, .slice A1 ys.length c1] 22 (0, 0))))
   case atStart => exact ⟨0, rfl, ⟨rfl⟩, HO0, HB, BG⟩
   case round =>
    clear HB BG HO0
    obtain ⟨i, rfl, HK, HO, HB, BG⟩ := hrel
    obtain rfl | rfl | rfl : i = 0 ∨ i = 1 ∨ i = 2 := by have := HK.out; omega
    ·replace HO := AZ.mk (show Kd.N (Kd.slice 2 (Kd.int .i64)) 23 wr w.heap.size (fun _ => True) u6 [] from HO.out)
     have hx0 : World.cell? _ ⟨g, 0, none⟩ = some (.slice A0 xs.length c0) := (bc BG.out 0).trans rfl
     have hx1 : World.cell? _ ⟨g, 1, none⟩ = some (.slice A1 ys.length c1) := (bc BG.out 1).trans rfl
     go_wp2_with (first | ((with_reducible refine gate_dst (N := 33) rfl ?_); at_builtin; refine Kd.N_append_rows (Kd.slice 2 (Kd.int .i64)) (w0 := w) w.heap.size rfl (.tmp 31) (.tmp 32) 22 23 (.slice none 0 0) 24 rfl Try.underlying22 info23 rfl Nat.zero_lt_one (by decide) _ [] xs A0 xs.length c0 (fun _ => True) (fun k => True ∧ k < w.heap.size) rfl rfl HO.out (F_old FX.out HB.out) (fun k hk => ⟨trivial, N_elder HO.out hk.2⟩) (fun _ _ => trivial) HB.out (pZ HB.out) (by have := HS.out; simp only [List.length_append, List.length_nil]; omega) ?_; intro v33 w33 ho hb hg hat; have n1_ := AZ.mk (blk_grown BG.out hg (N_elder2 HO.out GG.out)); clear hg hat; have n2_ := AZ.mk ho; have n0_ := AZ.mk hb; clear HB BG HO ho hb; have HB := n0_; have BG := n1_; have HO := n2_; clear n0_ n1_ n2_))
     go_roundg 1
     case measure => have := HK.out; omega
     case rel => exact ⟨1, rfl, ⟨rfl⟩, HO, HB, BG⟩
    ·replace HO := AZ.mk (show Kd.N (Kd.slice 2 (Kd.int .i64)) 23 wr w.heap.size (fun _ => True) u6 ([] ++ xs) from HO.out)
     have hx0 : World.cell? _ ⟨g, 0, none⟩ = some (.slice A0 xs.length c0) := (bc BG.out 0).trans rfl
     have hx1 : World.cell? _ ⟨g, 1, none⟩ = some (.slice A1 ys.length c1) := (bc BG.out 1).trans rfl
     go_wp2_with (first | ((with_reducible refine gate_dst (N := 33) rfl ?_); at_builtin; refine Kd.N_append_rows (Kd.slice 2 (Kd.int .i64)) (w0 := w) w.heap.size rfl (.tmp 31) (.tmp 32) 22 23 (.slice none 0 0) 24 rfl Try.underlying22 info23 rfl Nat.zero_lt_one (by decide) _ ([] ++ xs) ys A1 ys.length c1 (fun _ => True) (fun k => True ∧ k < w.heap.size) rfl rfl HO.out (F_old FY.out HB.out) (fun k hk => ⟨trivial, N_elder HO.out hk.2⟩) (fun _ _ => trivial) HB.out (pZ HB.out) (by have := HS.out; simp only [List.length_append, List.length_nil]; omega) ?_; intro v33 w33 ho hb hg hat; have n1_ := AZ.mk (blk_grown BG.out hg (N_elder2 HO.out GG.out)); clear hg hat; have n2_ := AZ.mk ho; have n0_ := AZ.mk hb; clear HB BG HO ho hb; have HB := n0_; have BG := n1_; have HO := n2_; clear n0_ n1_ n2_))
     go_roundg 0
     case measure => have := HK.out; omega
     case rel => exact ⟨2, rfl, ⟨rfl⟩, HO, HB, BG⟩
    ·replace HO := AZ.mk (show Kd.N (Kd.slice 2 (Kd.int .i64)) 23 wr w.heap.size (fun _ => True) u6 ([] ++ xs ++ ys) from HO.out)
     go_wp2
     go_ret
     exact ⟨_, rfl, HO.out, HB.out⟩
end Go.Proofs.Ytgfilbgjnloopaa.P
namespace Go.Proofs.Ytgfilbgjnloopaa.P
open Go.RowKit Go.Proofs.YtgfilbgjnloopaaW.PrintWords Go.Proofs.YtgfilbgjnloopaaW.PrintLast Go.Proofs.YtgfilbgjnloopaaW.PrintMore
set_option linter.unusedVariables false
set_option linter.unusedSimpArgs false
def pp (P : List (List Int)) (i k : Int) : Int := rd (rd_L1 P i) k
def asc (P : List (List Int)) (i k j : Nat) : Prop := pp P (pp P i k) j = pp P i (pp P k j)
structure Tab (n : Nat) (P : List (List Int)) : Prop where
 num : P.length = n
 ent : ∀ i k : Nat, i < n → k < n → ∃ a : Nat, rd (rd_L1 P (i : Int)) (k : Int) = (a : Int) ∧ a < n
 len : ∀ i : Nat, i < n → (rd_L1 P (i : Int)).length = n
theorem el_eq {P Wr : List (List Int)} {In : List Int} {Ac : List Bool} {n : Nat} (h : Ac.length = n) : impl_Algebra_elements.f P Wr In Ac = some (n : Int) := by
 unfold impl_Algebra_elements.f impl_size_bool.f
 rw [h]; rfl
theorem three_one (x y z : Int) : (#[.int .i64 x, .int .i64 y, .int .i64 z] : Array Value).all (·.oneCell') = true := by
 simp [Value.oneCell']
theorem size59 : (Try.prog.info? 59).map (·.size) = some 3 := by kernel_rfl
theorem store59 {ops : Array Oper} {rest : List Oper} {o : Oper} {a : Act} {Q : Exit → Act → World → Prop} {W : World} (hgd : o.guard = none) (p v : Tmp) (ho : o.op = .store 59 (.tmp p) (.tmp v)) {g : Nat} {old cs : Array Value} (hx : a.eval (.tmp p) = .pointer (some ⟨g, 0, none⟩)) (hy : a.eval (.tmp v) = .agg cs) (hb : W.heap[g]? = some (.cells old 59 (0, 0)))
  (hs : cs.size = 3) (hs0 : old.size = 3) (h1 : cs.all (·.oneCell') = true)
  (h : ∀ w', w'.heap[g]? = some (.cells cs 59 (0, 0)) → (∀ B w0, Below B w0 W → B ≤ g → Below B w0 w') → (∀ k, k ≠ g → w'.heap[k]? = W.heap[k]?) → wpList Try.prog ops Q rest (a.put o.dst undef) w') : wpList Try.prog ops Q (o :: rest) a W := by
 refine wpList_plain hgd fun K hK => wp_store_row 59 _ _ ho g cs hx hy 59 old hb (by rw [size59, hs]) (by omega) h1 ?_
 exact hK _ _ (h _ (setRow_heap _ _ _ _ _ _ hb) (fun B w0 hB hle => hB.trans ⟨rfl, rfl, rfl, by simp, fun k hk => setRow_other _ _ _ _ (by omega)⟩) (fun k hk => setRow_other _ _ _ _ hk))
set_option maxHeartbeats 8000000 in
set_option maxRecDepth 100000 in
theorem apart_calls (n : Nat) (A0 : Option Addr) (c0 : Nat) (P : List (List Int)) (A1 : Option Addr) (c1 : Nat) (Wr : List (List Int)) (A2 : Option Addr) (c2 : Nat) (In : List Int) (A3 : Option Addr) (c3 : Nat) (Ac : List Bool) (w : World)
  (hP : Kd.C (Kd.slice 2 (Kd.int .i64)) w A0 P.length P) (h0 : P.length ≤ c0) (hW : Kd.C (Kd.slice 2 (Kd.int .i64)) w A1 Wr.length Wr) (h1 : Wr.length ≤ c1) (hI : (Kd.int .i64).C w A2 In.length In) (h2 : In.length ≤ c2) (hA : Kd.bool.C w A3 Ac.length Ac) (h3 : Ac.length ≤ c3) (hE : Ac.length = n) (hn : n ≤ 40) (hT : Tab n P) :
  Calls Try.prog 38 #[.agg #[.slice A0 P.length c0, .slice A1 Wr.length c1, .slice A2 In.length c2, .slice A3 Ac.length c3]] w fun e w' => ∃ x y z : Int, ∃ b : Bool, e = .returned (.tuple #[.agg #[.int .i64 x, .int .i64 y, .int .i64 z], .bool b]) ∧ (b = false ↔ ∀ i k j : Nat, i < n → k < n → j < n → asc P i k j) ∧ Below w.heap.size w w' := by
 have hu29 := Try.underlying29
 have hu59 := Try.underlying59
 have HP := AZ.mk hP
 have HW := AZ.mk hW
 have HI := AZ.mk hI
 have HA := AZ.mk hA
 have HC0 := AZ.mk h0
 have HC1 := AZ.mk h1
 have HC2 := AZ.mk h2
 have HC3 := AZ.mk h3
 have HE := AZ.mk hE
 have HN := AZ.mk hn
 have HT := AZ.mk hT
 have HB := AZ.mk (Below.refl w.heap.size w)
 clear hP h0 hW h1 hI h2 hA h3 hE hn hT
 go_enter Try.func38, Try.ntmps38
 go_wp2_with (first | ((with_reducible refine gate_dst (N := 1) rfl ?_); refine box_event ?hg (N := 1) ?hd (cs := #[.slice A0 P.length c0, .slice A1 Wr.length c1, .slice A2 In.length c2, .slice A3 Ac.length c3]) (t := 29) ?hr ?_; (case hd => rfl); (case hg => rfl); (case hr => first | (go_simp; done) | (go_simp; rfl)); intro gB hg WgB hbx hb; have BB := AZ.mk hbx; have n0_ := AZ.mk (pT HB.out hb); clear HB; have HB := n0_; clear n0_; clear hb hbx hg; have hz0 := (bc BB.out 0).trans rfl; have hz1 := (bc BB.out 1).trans rfl; have hz2 := (bc BB.out 2).trans rfl; have hz3 := (bc BB.out 3).trans rfl) | ((with_reducible refine gate_dst (N := 2) rfl ?_); refine box_event ?hg (N := 2) ?hd (cs := #[.int .i64 0, .int .i64 0, .int .i64 0]) (t := 59) ?hr ?_; (case hd => rfl); (case hg => rfl); (case hr => first | (go_simp; done) | (go_simp; rfl)); intro gR hg WgR hbx hb; have BR := AZ.mk hbx; have GR := AZ.mk (show w.heap.size ≤ gR by rw [hg]; exact pZ HB.out); have NB := AZ.mk (show gB ≠ gR by rw [hg]; exact Nat.ne_of_lt (blk_lt BB.out)); have n0_ := AZ.mk (pT HB.out hb); have n1_ := AZ.mk (bb_ BB.out hb); clear HB BB; have HB := n0_; have BB := n1_; clear n0_ n1_; clear hb hbx hg hz0 hz1 hz2 hz3; have hz0 := (bc BB.out 0).trans rfl; have hz1 := (bc BB.out 1).trans rfl; have hz2 := (bc BB.out 2).trans rfl; have hz3 := (bc BB.out 3).trans rfl) | ((with_reducible refine gate_callee (f := 29) rfl ?_); (try (refine gate_guard (by rfl) ?_; dsimp only)); refine goesL_ (some 9) rfl rfl Try.func29 (by kernel_rfl) rfl #[.agg #[.slice A0 P.length c0, .slice A1 Wr.length c1, .slice A2 In.length c2, .slice A3 Ac.length c3]] rfl (by (try simp only [List.map_toArray, List.map_cons, List.map_nil]); first | done | rfl) ?_; refine (impl_Algebra_elements.calls A0 c0 P A1 c1 Wr A2 c2 In A3 c3 Ac (n : Int) _ (Kd.C_below HP.out HB.out) HC0.out (Kd.C_below HW.out HB.out) HC1.out (Kd.C_below HI.out HB.out) HC2.out (Kd.C_below HA.out HB.out) HC3.out (el_eq HE.out)).mono ?_; rintro e w9 ⟨rfl, hb⟩; refine ⟨_, rfl, ?_⟩; have n0_ := AZ.mk (pT HB.out hb); have n1_ := AZ.mk (bb_ BB.out hb); have n2_ := AZ.mk (bb_ BR.out hb); clear HB BB BR; have HB := n0_; have BB := n1_; have BR := n2_; clear n0_ n1_ n2_; clear hb hz0 hz1 hz2 hz3; have hz0 := (bc BB.out 0).trans rfl; have hz1 := (bc BB.out 1).trans rfl; have hz2 := (bc BB.out 2).trans rfl; have hz3 := (bc BB.out 3).trans rfl))
 go_loopg [11] n (fun kq v11 w' => ∃ i : Nat, v11 = .int .i64 (i : Int) ∧ AZ (kq + i = n) ∧ AZ (∀ i' k j : Nat, i' < i → k < n → j < n → asc P i' k j) ∧ AZ (Below w.heap.size w w') ∧ AZ (w'.heap[gB]? = some (.cells #[.slice A0 P.length c0, .slice A1 Wr.length c1, .slice A2 In.length c2, .slice A3 Ac.length c3] 29 (0, 0))) ∧ AZ (w'.heap[gR]? = some (.cells #[.int .i64 0, .int .i64 0, .int .i64 0] 59 (0, 0))))
 case atStart => exact ⟨0, rfl, ⟨by omega⟩, ⟨fun i' k j h => by omega⟩, HB, BB, BR⟩
 case round =>
  clear HB BB BR hz0 hz1 hz2 hz3
  obtain ⟨i, rfl, HK1, HD1, HB, BB, BR⟩ := hrel
  by_cases hi : i < n
  ·have ci := decide_eq_true (show (i : Int) < (n : Int) by omega)
   go_wp2
   go_loopg [15] n (fun kq v15 w' => ∃ k : Nat, v15 = .int .i64 (k : Int) ∧ AZ (kq + k = n) ∧ AZ (∀ k' j : Nat, k' < k → j < n → asc P i k' j) ∧ AZ (Below w.heap.size w w') ∧ AZ (w'.heap[gB]? = some (.cells #[.slice A0 P.length c0, .slice A1 Wr.length c1, .slice A2 In.length c2, .slice A3 Ac.length c3] 29 (0, 0))) ∧ AZ (w'.heap[gR]? = some (.cells #[.int .i64 0, .int .i64 0, .int .i64 0] 59 (0, 0))))
   case atStart => exact ⟨0, rfl, ⟨by omega⟩, ⟨fun k' j h => by omega⟩, HB, BB, BR⟩
   case round =>
    clear HB BB BR
    obtain ⟨k, rfl, HK2, HD2, HB, BB, BR⟩ := hrel
    by_cases hk : k < n
    ·have ck := decide_eq_true (show (k : Int) < (n : Int) by omega)
     go_wp2
     go_loopg [19] n (fun kq v19 w' => ∃ j : Nat, v19 = .int .i64 (j : Int) ∧ AZ (kq + j = n) ∧ AZ (∀ j' : Nat, j' < j → asc P i k j') ∧ AZ (Below w.heap.size w w') ∧ AZ (w'.heap[gB]? = some (.cells #[.slice A0 P.length c0, .slice A1 Wr.length c1, .slice A2 In.length c2, .slice A3 Ac.length c3] 29 (0, 0))) ∧ AZ (w'.heap[gR]? = some (.cells #[.int .i64 0, .int .i64 0, .int .i64 0] 59 (0, 0))))
     case atStart => exact ⟨0, rfl, ⟨by omega⟩, ⟨fun j' h => by omega⟩, HB, BB, BR⟩
     case round =>
      clear HB BB BR
      obtain ⟨j, rfl, HK3, HD3, HB, BB, BR⟩ := hrel
      by_cases hj : j < n
      ·have cj := decide_eq_true (show (j : Int) < (n : Int) by omega)
       obtain ⟨ad1, A1_, c1_, e1, hx1, -, hr1⟩ := at_L1 HP.out (i : Int) (by omega) (by have := HT.out.num; omega)
       subst e1
       obtain ⟨ad2, A2_, c2_, e2, hx2, -, hr2⟩ := at_L1 HP.out (k : Int) (by omega) (by have := HT.out.num; omega)
       obtain rfl : ad1 = ad2 := by injection e2
       obtain ⟨a, ea, ha⟩ := HT.out.ent i k hi hk
       obtain ⟨b, eb, hb_⟩ := HT.out.ent k j hk hj
       obtain ⟨ad3, A3_, c3_, e3, hx3, -, hr3⟩ := at_L1 HP.out (a : Int) (by omega) (by have := HT.out.num; omega)
       obtain rfl : ad1 = ad3 := by injection e3
       have l1 := HT.out.len i hi
       have l2 := HT.out.len k hk
       have l3 := HT.out.len a ha
       obtain ⟨bd1, f1, hy1⟩ := Kd.at_int hr1 (k : Int) (by omega) (by omega)
       obtain ⟨bd2, f2, hy2⟩ := Kd.at_int hr1 (b : Int) (by omega) (by omega)
       subst f1
       obtain rfl : bd1 = bd2 := by injection f2
       obtain ⟨bd3, f3, hy3⟩ := Kd.at_int hr2 (j : Int) (by omega) (by omega)
       subst f3
       obtain ⟨bd4, f4, hy4⟩ := Kd.at_int hr3 (j : Int) (by omega) (by omega)
       subst f4
       rw [ea] at hy1
       rw [eb] at hy3
       replace hx1 := (HB.out.cell (World.block_lt_of_cell? w _ hx1)).trans hx1
       replace hx2 := (HB.out.cell (World.block_lt_of_cell? w _ hx2)).trans hx2
       replace hx3 := (HB.out.cell (World.block_lt_of_cell? w _ hx3)).trans hx3
       replace hy1 := (HB.out.cell (World.block_lt_of_cell? w _ hy1)).trans hy1
       replace hy2 := (HB.out.cell (World.block_lt_of_cell? w _ hy2)).trans hy2
       replace hy3 := (HB.out.cell (World.block_lt_of_cell? w _ hy3)).trans hy3
       replace hy4 := (HB.out.cell (World.block_lt_of_cell? w _ hy4)).trans hy4
       rw [Int.toNat_natCast] at hx1 hx2 hx3 hy1 hy2 hy3 hy4
       rw [l1] at hx1
       rw [l2] at hx2
       rw [l3] at hx3
       obtain ⟨x, hx⟩ : ∃ x, x = rd (rd_L1 P (a : Int)) (j : Int) := ⟨_, rfl⟩
       obtain ⟨y, hy⟩ : ∃ y, y = rd (rd_L1 P (i : Int)) (b : Int) := ⟨_, rfl⟩
       have HX := AZ.mk (show (asc P i k j) ↔ x = y by unfold asc pp; rw [ea, eb, hx, hy])
       rw [← hx] at hy4
       rw [← hy] at hy2
       clear hx hy ea eb e2 e3 f2 hr1 hr2 hr3 l1 l2 l3
       have hp : (P.length : Int) = (n : Int) := by have := HT.out.num; omega
       have hz0 : World.cell? _ ⟨gB, 0, none⟩ = some (.slice (some ad1) n c0) := ((bc BB.out 0).trans rfl).trans (by rw [HT.out.num]; rfl)
       have pi := eq_true (show 0 ≤ (i : Int) by omega)
       have qi := eq_true (show (i : Int) < (n : Int) by omega)
       have pk := eq_true (show 0 ≤ (k : Int) by omega)
       have qk := eq_true (show (k : Int) < (n : Int) by omega)
       have pj := eq_true (show 0 ≤ (j : Int) by omega)
       have qj := eq_true (show (j : Int) < (n : Int) by omega)
       have pa := eq_true (show 0 ≤ (a : Int) by omega)
       have qa := eq_true (show (a : Int) < (n : Int) by omega)
       have pb := eq_true (show 0 ≤ (b : Int) by omega)
       have qb := eq_true (show (b : Int) < (n : Int) by omega)
       by_cases exy : x = y
       ·have b0 : (x == y) = true := beq_iff_eq.mpr exy
        have b1 : (x != y) = false := bne_eq_false_iff_eq.mpr exy
        have HX2 := AZ.mk (HX.out.2 exy)
        have hw1 : IntKind.i64.wrap ((j : Int) + 1) = ((j + 1 : Nat) : Int) := (i64_w _).trans (by have := HN.out; clear ci ck cj b0 b1 pi qi pk qk pj qj pa qa pb qb; unfold wrap64; omega)
        clear exy HX
        go_wp2
        repeat (go_quiet (fail); try go_wp2)
        go_roundg (n - (j + 1))
        case measure => have := HK3.out; omega
        case rel => exact ⟨j + 1, by (try simp only [hw1]); try rfl, ⟨by omega⟩, ⟨fun j' h => (Nat.lt_succ_iff_lt_or_eq.1 h).elim (HD3.out j') (fun e => by rw [e]; exact HX2.out)⟩, ⟨by repeat (first | exact HB.out | apply pD | apply pN)⟩, ⟨by repeat (first | exact BB.out | refine bn_ ?_ _ | refine bd_ ?_)⟩, ⟨by repeat (first | exact BR.out | refine bn_ ?_ _ | refine bd_ ?_)⟩⟩
       ·have b0 : (x == y) = false := beq_eq_false_iff_ne.mpr exy
        have b1 : (x != y) = true := bne_iff_ne.mpr exy
        have HX2 := AZ.mk (fun h : asc P i k j => exy (HX.out.1 h))
        clear exy HX
        go_wp2
        repeat (go_quiet (fail); try go_wp2_with (first | ((with_reducible refine gate_ (.store 59 (.tmp 2) (.tmp 56)) rfl ?_); refine store59 rfl 2 56 rfl (g := gR) (old := #[.int .i64 0, .int .i64 0, .int .i64 0]) (cs := #[.int .i64 (i : Int), .int .i64 (k : Int), .int .i64 (j : Int)]) rfl rfl (by repeat (first | exact BR.out | refine bn_ ?_ _ | refine bd_ ?_)) rfl rfl (three_one _ _ _) ?_; intro w99 hbx hB hfar; clear BB BR)))
        refine bodyPost_ret (results_ct rfl _ _ gR 59 #[.int .i64 (i : Int), .int .i64 (k : Int), .int .i64 (j : Int)] (0, 0) _ rfl hbx Try.underlying59 rfl (by kernel_rfl)) rfl ?_
        exact ⟨i, k, j, true, rfl, ⟨fun h => (by cases h), fun h => (HX2.out (h i k j hi hk hj)).elim⟩, hB _ _ (by repeat (first | exact HB.out | apply pD | apply pN)) GR.out⟩
      ·have cj := decide_eq_false (show ¬ (j : Int) < (n : Int) by omega)
       have hw1 : IntKind.i64.wrap ((k : Int) + 1) = ((k + 1 : Nat) : Int) := (i64_w _).trans (by have := HN.out; clear ci ck cj; unfold wrap64; omega)
       go_wp2
       go_roundg (n - (k + 1))
       case measure => have := HK2.out; omega
       case rel => exact ⟨k + 1, by (try simp only [hw1]); try rfl, ⟨by omega⟩, ⟨fun k' j' h hj' => (Nat.lt_succ_iff_lt_or_eq.1 h).elim (fun e => HD2.out k' j' e hj') (fun e => by rw [e]; exact HD3.out j' (by omega))⟩, HB, BB, BR⟩
    ·have ck := decide_eq_false (show ¬ (k : Int) < (n : Int) by omega)
     have hw1 : IntKind.i64.wrap ((i : Int) + 1) = ((i + 1 : Nat) : Int) := (i64_w _).trans (by have := HN.out; clear ci ck; unfold wrap64; omega)
     go_wp2
     go_roundg (n - (i + 1))
     case measure => have := HK1.out; omega
     case rel => exact ⟨i + 1, by (try simp only [hw1]); try rfl, ⟨by omega⟩, ⟨fun i' k' j' h hk' hj' => (Nat.lt_succ_iff_lt_or_eq.1 h).elim (fun e => HD1.out i' k' j' e hk' hj') (fun e => by rw [e]; exact HD2.out k' j' (by omega) hj')⟩, HB, BB, BR⟩
  ·have ci := decide_eq_false (show ¬ (i : Int) < (n : Int) by omega)
   go_wp2_with (first | ((with_reducible refine gate_ (.store 59 (.tmp 2) (.tmp 60)) rfl ?_); refine store59 rfl 2 60 rfl (g := gR) (old := #[.int .i64 0, .int .i64 0, .int .i64 0]) (cs := #[.int .i64 0, .int .i64 0, .int .i64 0]) rfl rfl BR.out rfl rfl (three_one _ _ _) ?_; intro w99 hbx hB hfar; clear BB BR))
   refine bodyPost_ret (results_ct rfl _ _ gR 59 #[.int .i64 0, .int .i64 0, .int .i64 0] (0, 0) _ rfl hbx Try.underlying59 rfl (by kernel_rfl)) rfl ?_
   exact ⟨0, 0, 0, false, rfl, ⟨fun _ i k j hi' hk' hj' => HD1.out i k j (by omega) hk' hj', fun _ => rfl⟩, hB _ _ HB.out GR.out⟩
end Go.Proofs.Ytgfilbgjnloopaa.P
