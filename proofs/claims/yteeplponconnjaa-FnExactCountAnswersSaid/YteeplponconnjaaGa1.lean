/- Texts that this law leans on, several in one; written by programs of these sessions (print, wip/deep, gather.py). -/
import Derived.Test.YteeplponconnjaaGa0
namespace Go.Proofs.Yteeplponconnjaa.P
open Go.RowKit Go.Proofs.YteeplponconnjaaW.PrintWords Go.Proofs.YteeplponconnjaaW.PrintLast Go.Proofs.YteeplponconnjaaW.PrintMore
attribute [local go_sem] max2_int min2_int max_two min_two max_three min_three max_four min_four
set_option linter.unusedVariables false
set_option linter.unusedSimpArgs false
mutual
def spec_l01Partners.l0 : Nat → ByteArray → List Int → List Int → Int → Option (List Int)
 | 0, _, _, _, _ => none
 | k + 1, x0, x3, x4, x5 => if x5 < (x0.size : Int) then (if 0 ≤ x5 then ((spec_l01Call.f (bt x0 x5)).bind fun t118 => (if t118 = true then (if x3.length < 17592186044416 then (if x4.length < 17592186044416 then (spec_l01Partners.l0 k x0 (x3 ++ [(-2)]) (x4 ++ [x5]) (wrap64 (x5 + 1))) else (none)) else (none)) else ((spec_l01Return.f (bt x0 x5)).bind fun t125 => (if t125 = true then (spec_l01Partners.j1 k x0 x3 x4 x5 (decide ((x4.length : Int) > 0))) else (spec_l01Partners.j1 k x0 x3 x4 x5 false))))) else (none)) else (some x3)
def spec_l01Partners.j1 : Nat → ByteArray → List Int → List Int → Int → Bool → Option (List Int)
 | 0, _, _, _, _, _ => none
 | k + 1, x0, x3, x4, x5, x30 => if x30 = true then (if 0 ≤ (wrap64 ((x4.length : Int) - 1)) then (if (wrap64 ((x4.length : Int) - 1)) < (x4.length : Int) then (if (wrap64 ((x4.length : Int) - 1)) ≤ (x4.length : Int) then (if 0 ≤ (rd x4 (wrap64 ((x4.length : Int) - 1))) then (if (rd x4 (wrap64 ((x4.length : Int) - 1))) < (x3.length : Int) then ((some (x3.set ((rd x4 (wrap64 ((x4.length : Int) - 1))) : Int).toNat x5 : List Int)).bind fun y130 => (if y130.length < 17592186044416 then (spec_l01Partners.l0 k x0 (y130 ++ [rd x4 (wrap64 ((x4.length : Int) - 1))]) (x4.take ((wrap64 ((x4.length : Int) - 1)) : Int).toNat) (wrap64 (x5 + 1))) else (none))) else (none)) else (none)) else (none)) else (none)) else (none)) else (if 0 ≤ x5 then (if x5 < (x0.size : Int) then ((spec_l01Return.f (bt x0 x5)).bind fun t134 => (if t134 = true then (if x3.length < 17592186044416 then (spec_l01Partners.l0 k x0 (x3 ++ [(-2)]) x4 (wrap64 (x5 + 1))) else (none)) else (if x3.length < 17592186044416 then (spec_l01Partners.l0 k x0 (x3 ++ [(-1)]) x4 (wrap64 (x5 + 1))) else (none)))) else (none)) else (none))
end
def spec_l01Partners.f (k : Nat) (a0 : ByteArray) : Option (List Int) := spec_l01Partners.l0 k a0 (([] : List Int)) (([] : List Int)) 0
set_option maxHeartbeats 8000000 in
set_option maxRecDepth 100000 in
theorem spec_l01Partners.calls (k : Nat) (a0 : ByteArray) (r : List Int) (w : World) (h : spec_l01Partners.f k a0 = some r) :
  Calls Try.prog 58 #[.string a0] w fun e w' => ∃ v0_ : Value, e = .returned (v0_) ∧ Kd.R (Kd.int .i64) 2 w' w.heap.size (fun _ => True) v0_ r ∧ Below w.heap.size w w' := by
 have HB := AZ.mk (Below.refl w.heap.size w)
 have H : (spec_l01Partners.l0 k a0 (([] : List Int)) (([] : List Int)) 0) = some r := h
 clear h
 obtain ⟨y112, hy112⟩ : ∃ y_ : List Int, y_ = (([] : List Int)) := ⟨_, rfl⟩
 replace H : (spec_l01Partners.l0 k a0 y112 (([] : List Int)) 0) = some r := by first | (rw [hy112]; with_reducible exact H) | (have H2_ := (Option.bind_some _ _).symm.trans H; rw [hy112]; with_reducible exact H2_) | (have H2_ := (Option.bind_some _ _).symm.trans H; with_reducible exact H2_) | with_reducible exact H | (rw [hy112]; exact H) | exact H
 have Ny112 := AZ.mk hy112
 clear hy112
 obtain ⟨y115, hy115⟩ : ∃ y_ : List Int, y_ = (([] : List Int)) := ⟨_, rfl⟩
 replace H : (spec_l01Partners.l0 k a0 y112 y115 0) = some r := by first | (rw [hy115]; with_reducible exact H) | (have H2_ := (Option.bind_some _ _).symm.trans H; rw [hy115]; with_reducible exact H2_) | (have H2_ := (Option.bind_some _ _).symm.trans H; with_reducible exact H2_) | with_reducible exact H | (rw [hy115]; exact H) | exact H
 have Ny115 := AZ.mk hy115
 clear hy115
 have H' := AZ.mk H
 clear H
 go_enter Try.func58, Try.ntmps58
 go_wp2_with (first | ((with_reducible refine gate_dst (N := 7) rfl ?_); (try (refine gate_guard (by rfl) ?_; dsimp only)); refine Kd.R_lit (Kd.int .i64) _ 2 ?hg (N := 7) ?hd (xs := ([] : List Int)) (inner := []) (ok := fun _ => True) (okp := fun _ => True) ?hr ?hp (fun _ hk => hk) trivial (Below.refl _ _) (Nat.le_refl _) (by simp) ?_; (case hd => rfl); (case hg => rfl); (case hr => first | (go_simp; done) | (go_simp; rfl)); (case hp => exact (Reps.none _ _)); intro v113 w2 ho3 hb hg_ hnew_; clear hg_ hnew_; (first | rw [← Ny112.out] at ho3 | (simp only [Int.reduceToNat] at ho3; rw [← Ny112.out] at ho3)); have n0_ := AZ.mk (Kd.R_lower ho3 (pZ (by repeat (first | (with_reducible first | exact HB.out | apply pA | apply pN | apply pD) | exact HB.out)))); have n1_ := AZ.mk (pT (by repeat (first | (with_reducible first | exact HB.out | apply pA | apply pN | apply pD) | exact HB.out)) hb); clear HB; have HO114 := n0_; have HB := n1_; clear n0_ n1_; clear hb ho3) | ((with_reducible refine gate_dst (N := 8) rfl ?_); (try (refine gate_guard (by rfl) ?_; dsimp only)); refine Kd.R_lit (Kd.int .i64) _ 3 ?hg (N := 8) ?hd (xs := ([] : List Int)) (inner := []) (ok := fun _ => True) (okp := fun _ => True) ?hr ?hp (fun _ hk => hk) trivial (Below.refl _ _) (Nat.le_refl _) (by simp) ?_; (case hd => rfl); (case hg => rfl); (case hr => first | (go_simp; done) | (go_simp; rfl)); (case hp => exact (Reps.none _ _)); intro v116 w4 ho5 hb hg_ hnew_; clear hg_ hnew_; (first | rw [← Ny115.out] at ho5 | (simp only [Int.reduceToNat] at ho5; rw [← Ny115.out] at ho5)); have n0_ := AZ.mk (Kd.R_below (by (with_reducible repeat (first | apply Kd.R_alloc | apply Kd.R_drewN | apply Kd.R_drew)); exact HO114.out) hb); have n1_ := AZ.mk (Kd.R_lower ho5 (pZ (by repeat (first | (with_reducible first | exact HB.out | apply pA | apply pN | apply pD) | exact HB.out)))); have n2_ := AZ.mk (pT (by repeat (first | (with_reducible first | exact HB.out | apply pA | apply pN | apply pD) | exact HB.out)) hb); clear HO114; clear HB; have HO114 := n0_; have HO117 := n1_; have HB := n2_; clear n0_ n1_ n2_; clear hb ho5))
 go_loopg [3, 4, 5] k (fun kq v3 v4 v5 w' => ∃ (x3_1 : List Int) (x4_1 : List Int) (x5_1 : Int), v5 = .int .i64 x5_1 ∧ AZ (spec_l01Partners.l0 kq a0 x3_1 x4_1 x5_1 = some r) ∧ AZ (kq ≤ k) ∧ AZ (Kd.R (Kd.int .i64) 2 w' w.heap.size (fun _ => True) v3 x3_1) ∧ AZ (Kd.R (Kd.int .i64) 3 w' w.heap.size (fun _ => True) v4 x4_1) ∧ AZ (Below w.heap.size w w'))
 case atStart => exact ⟨(y112), (y115), (0), (by first | rfl | (simp; done) | (simp [*]; done)), H', ⟨Nat.le_refl _⟩, ⟨by (with_reducible repeat (first | apply Kd.R_alloc | apply Kd.R_drewN | apply Kd.R_drew)); exact HO114.out⟩, ⟨by (with_reducible repeat (first | apply Kd.R_alloc | apply Kd.R_drewN | apply Kd.R_drew)); exact HO117.out⟩, ⟨by repeat (first | (with_reducible first | exact HB.out | apply pA | apply pN | apply pD) | exact HB.out)⟩⟩
 case round =>
  clear H'
  try clear p2
  try clear c5
  obtain ⟨x3_1, x4_1, x5_1, rfl, HA, HK1, HO_3, HO_4, HB⟩ := hrel
  cases gk with
  | zero => exact absurd HA.out (by simp [spec_l01Partners.l0])
  | succ k1 =>
   have H := HA.out
   clear HA
   simp only [spec_l01Partners.l0] at H
   by_cases c6 : x5_1 < (a0.size : Int)
   rotate_left
   ·rw [if_neg c6] at H
    have c6b0 : decide (x5_1 < (a0.size : Int)) = false := decide_eq_false c6
    clear c6
    obtain rfl := Option.some.inj H
    go_wp2
    go_ret
    exact ⟨_, by first | rfl | (simp [errW_none, errW_some] <;> rfl) | (simp [*, errW_none, errW_some] <;> rfl), by (with_reducible repeat (first | apply Kd.R_alloc | apply Kd.R_drewN | apply Kd.R_drew)); exact HO_3.out, by repeat (first | (with_reducible first | exact HB.out | apply pA | apply pN | apply pD) | exact HB.out)⟩
   rw [if_pos c6] at H
   have c6b0 : decide (x5_1 < (a0.size : Int)) = true := decide_eq_true c6
   clear c6
   by_cases c7 : 0 ≤ x5_1
   rotate_left
   ·rw [if_neg c7] at H
    exact absurd H (by simp)
   rw [if_pos c7] at H
   have c7b0 : decide (0 ≤ x5_1) = true := decide_eq_true c7
   clear c7
   replace H := Option.bind_eq_some_iff.mp H
   obtain ⟨t118, A90, H⟩ := H
   replace H : (if t118 = true then (if x3_1.length < 17592186044416 then (if x4_1.length < 17592186044416 then (spec_l01Partners.l0 k1 a0 (x3_1 ++ [(-2)]) (x4_1 ++ [x5_1]) (wrap64 (x5_1 + 1))) else (none)) else (none)) else ((spec_l01Return.f (bt a0 x5_1)).bind fun t125 => (if t125 = true then (spec_l01Partners.j1 k1 a0 x3_1 x4_1 x5_1 (decide ((x4_1.length : Int) > 0))) else (spec_l01Partners.j1 k1 a0 x3_1 x4_1 x5_1 false)))) = some r := H
   have A9 := AZ.mk A90
   clear A90
   by_cases c10 : t118 = true
   ·subst c10
    have H1 : (if x3_1.length < 17592186044416 then (if x4_1.length < 17592186044416 then (spec_l01Partners.l0 k1 a0 (x3_1 ++ [(-2)]) (x4_1 ++ [x5_1]) (wrap64 (x5_1 + 1))) else (none)) else (none)) = some r := by rw [if_pos rfl] at H; exact H
    clear H
    have H := H1
    clear H1
    by_cases c11 : x3_1.length < 17592186044416
    rotate_left
    ·rw [if_neg c11] at H
     exact absurd H (by simp)
    rw [if_pos c11] at H
    have LMc11 := AZ.mk c11
    clear c11
    obtain ⟨y119, hy119⟩ : ∃ y_ : List Int, y_ = (x3_1 ++ [(-2)]) := ⟨_, rfl⟩
    replace H : (if x4_1.length < 17592186044416 then (spec_l01Partners.l0 k1 a0 y119 (x4_1 ++ [x5_1]) (wrap64 (x5_1 + 1))) else (none)) = some r := by first | (rw [hy119]; with_reducible exact H) | (have H2_ := (Option.bind_some _ _).symm.trans H; rw [hy119]; with_reducible exact H2_) | (have H2_ := (Option.bind_some _ _).symm.trans H; with_reducible exact H2_) | with_reducible exact H | (rw [hy119]; exact H) | exact H
    have Ny119 := AZ.mk hy119
    clear hy119
    by_cases c12 : x4_1.length < 17592186044416
    rotate_left
    ·rw [if_neg c12] at H
     exact absurd H (by simp)
    rw [if_pos c12] at H
    have LMc12 := AZ.mk c12
    clear c12
    obtain ⟨y122, hy122⟩ : ∃ y_ : List Int, y_ = (x4_1 ++ [x5_1]) := ⟨_, rfl⟩
    replace H : (spec_l01Partners.l0 k1 a0 y119 y122 (wrap64 (x5_1 + 1))) = some r := by first | (rw [hy122]; with_reducible exact H) | (have H2_ := (Option.bind_some _ _).symm.trans H; rw [hy122]; with_reducible exact H2_) | (have H2_ := (Option.bind_some _ _).symm.trans H; with_reducible exact H2_) | with_reducible exact H | (rw [hy122]; exact H) | exact H
    have Ny122 := AZ.mk hy122
    clear hy122
    have H' := AZ.mk H
    clear H
    have p8 : 0 ≤ (x5_1 : Int) := oT (by first | (with_reducible assumption) | assumption)
    have q8 : x5_1 < (a0.size : Int) := oT (by first | (with_reducible assumption) | assumption)
    have hx8 := bt_at a0 x5_1
    replace p8 := eq_true p8
    replace q8 := eq_true q8
    go_wp2_with (first | ((with_reducible refine gate_callee (f := 59) rfl ?_); refine goesL_ (some 22) rfl rfl Try.func59 (by kernel_rfl) rfl #[.int .u8 (bt a0 x5_1)] rfl (by (try simp only [List.map_toArray, List.map_cons, List.map_nil]); first | done | rfl | (simp only [List.length_drop, List.length_take]; rfl)) ?_; (with_reducible refine (spec_l01Call.calls (bt a0 x5_1) true _ A9.out).mono ?_); rintro e w' ⟨rfl, ⟨nd, rfl⟩⟩; refine ⟨_, rfl, ?_⟩) | ((with_reducible refine gate_builtin (b := .append) (xs := #[.tmp 23, .tmp 24]) rfl ?_); (try (refine gate_guard (by rfl) ?_; dsimp only)); at_builtin; refine Kd.R_append (Kd.int .i64) (w0 := w) w.heap.size rfl (.tmp 23) (.tmp 24) 34 2 (.int .i64 0) 8 rfl Try.underlying34 info2 rfl (by decide) (by omega) u3 x3_1 (-2) [.int .i64 (-2)] (fun _ => True) (fun _ => False) rfl rfl ?aP (fun _ hk => hk.elim) ?aF ?aO ?aB ?aS ?aL ?_; (case aP => exact rfl); (case aB => exact (by repeat (first | (with_reducible first | exact HB.out | apply pA | apply pN | apply pD) | exact HB.out))); (case aF => exact (fun _ _ => trivial)); (case aO => exact (by (with_reducible repeat (first | apply Kd.R_alloc | apply Kd.R_drewN | apply Kd.R_drew)); exact HO_3.out)); (case aS => exact (pZ (by repeat (first | (with_reducible first | exact HB.out | apply pA | apply pN | apply pD) | exact HB.out)))); (case aL => have := LMc11.out; omega); intro v120 w13 ho hb hg hat; rw [← Ny119.out] at ho; have n0_ := AZ.mk (Kd.R_over' (by (with_reducible repeat (first | apply Kd.R_alloc | apply Kd.R_drewN | apply Kd.R_drew)); exact HO_4.out) (Kd.R_typed (by (with_reducible repeat (first | apply Kd.R_alloc | apply Kd.R_drewN | apply Kd.R_drew)); exact HO_3.out)) (by decide) hg); have n1_ := AZ.mk (hb); have n2_ := AZ.mk (ho); clear HO_4; clear HB; clear HO_3; have HO_4 := n0_; have HB := n1_; have HO121 := n2_; clear n0_ n1_ n2_; clear ho hb hg hat) | ((with_reducible refine gate_builtin (b := .append) (xs := #[.tmp 26, .tmp 28]) rfl ?_); (try (refine gate_guard (by rfl) ?_; dsimp only)); at_builtin; refine Kd.R_append (Kd.int .i64) (w0 := w) w.heap.size rfl (.tmp 26) (.tmp 28) 85 3 (.int .i64 0) 8 rfl Try.underlying85 info3 rfl (by decide) (by omega) u4 x4_1 x5_1 [.int .i64 x5_1] (fun _ => True) (fun _ => False) rfl rfl ?aP (fun _ hk => hk.elim) ?aF ?aO ?aB ?aS ?aL ?_; (case aP => exact rfl); (case aB => exact (by repeat (first | (with_reducible first | exact HB.out | apply pA | apply pN | apply pD) | exact HB.out))); (case aF => exact (fun _ _ => trivial)); (case aO => exact (by (with_reducible repeat (first | apply Kd.R_alloc | apply Kd.R_drewN | apply Kd.R_drew)); exact HO_4.out)); (case aS => exact (pZ (by repeat (first | (with_reducible first | exact HB.out | apply pA | apply pN | apply pD) | exact HB.out)))); (case aL => have := LMc12.out; omega); intro v123 w14 ho hb hg hat; rw [← Ny122.out] at ho; have n0_ := AZ.mk (Kd.R_over' (by (with_reducible repeat (first | apply Kd.R_alloc | apply Kd.R_drewN | apply Kd.R_drew)); exact HO121.out) (Kd.R_typed (by (with_reducible repeat (first | apply Kd.R_alloc | apply Kd.R_drewN | apply Kd.R_drew)); exact HO_4.out)) (by decide) hg); have n1_ := AZ.mk (hb); have n2_ := AZ.mk (ho); clear HO121; clear HB; clear HO_4; have HO121 := n0_; have HB := n1_; have HO124 := n2_; clear n0_ n1_ n2_; clear ho hb hg hat))
    go_roundg k1
    case measure => have := HK1.out; omega
    case rel => exact ⟨(y119), (y122), (wrap64 (x5_1 + 1)), (by first | rfl | (simp; done) | (simp [*]; done)), H', ⟨by have := HK1.out; omega⟩, ⟨by (with_reducible repeat (first | apply Kd.R_alloc | apply Kd.R_drewN | apply Kd.R_drew)); exact HO121.out⟩, ⟨by (with_reducible repeat (first | apply Kd.R_alloc | apply Kd.R_drewN | apply Kd.R_drew)); exact HO124.out⟩, ⟨by repeat (first | (with_reducible first | exact HB.out | apply pA | apply pN | apply pD) | exact HB.out)⟩⟩
   replace c10 := Bool.eq_false_iff.mpr c10
   subst c10
   have H1 : ((spec_l01Return.f (bt a0 x5_1)).bind fun t125 => (if t125 = true then (spec_l01Partners.j1 k1 a0 x3_1 x4_1 x5_1 (decide ((x4_1.length : Int) > 0))) else (spec_l01Partners.j1 k1 a0 x3_1 x4_1 x5_1 false))) = some r := by rw [if_neg (show ¬ (false = true) by decide)] at H; exact H
   clear H
   have H := H1
   clear H1
   have HC15 := AZ.mk H
   clear H
   have p8 : 0 ≤ (x5_1 : Int) := oT (by first | (with_reducible assumption) | assumption)
   have q8 : x5_1 < (a0.size : Int) := oT (by first | (with_reducible assumption) | assumption)
   have hx8 := bt_at a0 x5_1
   replace p8 := eq_true p8
   replace q8 := eq_true q8
   go_upto_region 10 with (first | ((with_reducible refine gate_callee (f := 59) rfl ?_); refine goesL_ (some 22) rfl rfl Try.func59 (by kernel_rfl) rfl #[.int .u8 (bt a0 x5_1)] rfl (by (try simp only [List.map_toArray, List.map_cons, List.map_nil]); first | done | rfl | (simp only [List.length_drop, List.length_take]; rfl)) ?_; (with_reducible refine (spec_l01Call.calls (bt a0 x5_1) false _ A9.out).mono ?_); rintro e w' ⟨rfl, ⟨nd, rfl⟩⟩; refine ⟨_, rfl, ?_⟩))
   (try simp only [Act.put, sA, sB, sC])
   go_cut [30] (fun v30 wc => ∃ (kq : Nat) (x30_14 : Bool), v30 = .bool x30_14 ∧ AZ (spec_l01Partners.j1 kq a0 x3_1 x4_1 x5_1 x30_14 = some r) ∧ AZ (kq ≤ k1) ∧ AZ (Kd.R (Kd.int .i64) 2 wc w.heap.size (fun _ => True) u3 x3_1) ∧ AZ (Kd.R (Kd.int .i64) 3 wc w.heap.size (fun _ => True) u4 x4_1) ∧ AZ (Below w.heap.size w wc))
   case first =>
    have H := HC15.out
    clear HC15
    replace H := Option.bind_eq_some_iff.mp H
    obtain ⟨t125, A170, H⟩ := H
    replace H : (if t125 = true then (spec_l01Partners.j1 k1 a0 x3_1 x4_1 x5_1 (decide ((x4_1.length : Int) > 0))) else (spec_l01Partners.j1 k1 a0 x3_1 x4_1 x5_1 false)) = some r := H
    have A17 := AZ.mk A170
    clear A170
    by_cases c18 : t125 = true
    rotate_left
    ·replace c18 := Bool.eq_false_iff.mpr c18
     subst c18
     have H1 : (spec_l01Partners.j1 k1 a0 x3_1 x4_1 x5_1 false) = some r := by rw [if_neg (show ¬ (false = true) by decide)] at H; exact H
     clear H
     have H := H1
     clear H1
     have H' := AZ.mk H
     clear H
     have p16 : 0 ≤ (x5_1 : Int) := oT (by first | (with_reducible assumption) | assumption)
     have q16 : x5_1 < (a0.size : Int) := oT (by first | (with_reducible assumption) | assumption)
     have hx16 := bt_at a0 x5_1
     replace p16 := eq_true p16
     replace q16 := eq_true q16
     go_wp2_with (first | ((with_reducible refine gate_callee (f := 60) rfl ?_); refine goesL_ (some 34) rfl rfl Try.func60 (by kernel_rfl) rfl #[.int .u8 (bt a0 x5_1)] rfl (by (try simp only [List.map_toArray, List.map_cons, List.map_nil]); first | done | rfl | (simp only [List.length_drop, List.length_take]; rfl)) ?_; (with_reducible refine (spec_l01Return.calls (bt a0 x5_1) false _ A17.out).mono ?_); rintro e w' ⟨rfl, ⟨nd, rfl⟩⟩; refine ⟨_, rfl, ?_⟩))
     go_meet
     case rel => exact ⟨_, (false), (by first | rfl | (simp; done) | (simp [*]; done)), H', ⟨by have := HK1.out; first | omega | exact Nat.le_refl _⟩, ⟨by (with_reducible repeat (first | apply Kd.R_alloc | apply Kd.R_drewN | apply Kd.R_drew)); exact HO_3.out⟩, ⟨by (with_reducible repeat (first | apply Kd.R_alloc | apply Kd.R_drewN | apply Kd.R_drew)); exact HO_4.out⟩, ⟨by repeat (first | (with_reducible first | exact HB.out | apply pA | apply pN | apply pD) | exact HB.out)⟩⟩
    subst c18
    have H1 : (spec_l01Partners.j1 k1 a0 x3_1 x4_1 x5_1 (decide ((x4_1.length : Int) > 0))) = some r := by rw [if_pos rfl] at H; exact H
    clear H
    have H := H1
    clear H1
    have H' := AZ.mk H
    clear H
    have p16 : 0 ≤ (x5_1 : Int) := oT (by first | (with_reducible assumption) | assumption)
    have q16 : x5_1 < (a0.size : Int) := oT (by first | (with_reducible assumption) | assumption)
    have hx16 := bt_at a0 x5_1
    replace p16 := eq_true p16
    replace q16 := eq_true q16
    go_wp2_with (first | ((with_reducible refine gate_callee (f := 60) rfl ?_); refine goesL_ (some 34) rfl rfl Try.func60 (by kernel_rfl) rfl #[.int .u8 (bt a0 x5_1)] rfl (by (try simp only [List.map_toArray, List.map_cons, List.map_nil]); first | done | rfl | (simp only [List.length_drop, List.length_take]; rfl)) ?_; (with_reducible refine (spec_l01Return.calls (bt a0 x5_1) true _ A17.out).mono ?_); rintro e w' ⟨rfl, ⟨nd, rfl⟩⟩; refine ⟨_, rfl, ?_⟩; obtain ⟨Ao19, co19, eo19⟩ := Kd.R_slice HO_4.out; subst eo19))
    go_meet
    case rel => exact ⟨_, (decide ((x4_1.length : Int) > 0)), (by first | rfl | (simp; done) | (simp [*]; done)), H', ⟨by have := HK1.out; first | omega | exact Nat.le_refl _⟩, ⟨by (with_reducible repeat (first | apply Kd.R_alloc | apply Kd.R_drewN | apply Kd.R_drew)); exact HO_3.out⟩, ⟨by (with_reducible repeat (first | apply Kd.R_alloc | apply Kd.R_drewN | apply Kd.R_drew)); exact HO_4.out⟩, ⟨by repeat (first | (with_reducible first | exact HB.out | apply pA | apply pN | apply pD) | exact HB.out)⟩⟩
   case rest =>
    clear HC15
    try clear c1
    try clear p1
    try clear q1
    try clear hx1
    try clear p2
    try clear c5
    try clear c6
    try clear c6b0
    try clear p6
    try clear c7
    try clear c7b0
    try clear p8
    try clear q8
    try clear hx8
    try clear c10
    try clear c11
    try clear c12
    try clear p16
    try clear q16
    try clear hx16
    try clear c18
    try clear p16
    try clear p2
    try clear p8
    try clear q16
    try clear q8
    obtain ⟨kq, x30_14, rfl, HA, HJ14, HO_3, HO_4, HB⟩ := hcut
    cases kq with
    | zero => exact absurd HA.out (by simp [spec_l01Partners.j1])
    | succ kj14 =>
     have H := HA.out
     clear HA
     simp only [spec_l01Partners.j1] at H
     by_cases c20 : x30_14 = true
     rotate_left
     ·replace c20 := Bool.eq_false_iff.mpr c20
      subst c20
      have H1 : (if 0 ≤ x5_1 then (if x5_1 < (a0.size : Int) then ((spec_l01Return.f (bt a0 x5_1)).bind fun t134 => (if t134 = true then (if x3_1.length < 17592186044416 then (spec_l01Partners.l0 kj14 a0 (x3_1 ++ [(-2)]) x4_1 (wrap64 (x5_1 + 1))) else (none)) else (if x3_1.length < 17592186044416 then (spec_l01Partners.l0 kj14 a0 (x3_1 ++ [(-1)]) x4_1 (wrap64 (x5_1 + 1))) else (none)))) else (none)) else (none)) = some r := by rw [if_neg (show ¬ (false = true) by decide)] at H; exact H
      clear H
      have H := H1
      clear H1
      by_cases c34 : 0 ≤ x5_1
      rotate_left
      ·rw [if_neg c34] at H
       exact absurd H (by simp)
      rw [if_pos c34] at H
      have c34b0 : decide (0 ≤ x5_1) = true := decide_eq_true c34
      clear c34
      by_cases c35 : x5_1 < (a0.size : Int)
      rotate_left
      ·rw [if_neg c35] at H
       exact absurd H (by simp)
      rw [if_pos c35] at H
      have c35b0 : decide (x5_1 < (a0.size : Int)) = true := decide_eq_true c35
      clear c35
      replace H := Option.bind_eq_some_iff.mp H
      obtain ⟨t134, A370, H⟩ := H
      replace H : (if t134 = true then (if x3_1.length < 17592186044416 then (spec_l01Partners.l0 kj14 a0 (x3_1 ++ [(-2)]) x4_1 (wrap64 (x5_1 + 1))) else (none)) else (if x3_1.length < 17592186044416 then (spec_l01Partners.l0 kj14 a0 (x3_1 ++ [(-1)]) x4_1 (wrap64 (x5_1 + 1))) else (none))) = some r := H
      have A37 := AZ.mk A370
      clear A370
      by_cases c38 : t134 = true
      ·subst c38
       have H1 : (if x3_1.length < 17592186044416 then (spec_l01Partners.l0 kj14 a0 (x3_1 ++ [(-2)]) x4_1 (wrap64 (x5_1 + 1))) else (none)) = some r := by rw [if_pos rfl] at H; exact H
       clear H
       have H := H1
       clear H1
       by_cases c39 : x3_1.length < 17592186044416
       rotate_left
       ·rw [if_neg c39] at H
        exact absurd H (by simp)
       rw [if_pos c39] at H
       have LMc39 := AZ.mk c39
       clear c39
       obtain ⟨y135, hy135⟩ : ∃ y_ : List Int, y_ = (x3_1 ++ [(-2)]) := ⟨_, rfl⟩
       replace H : (spec_l01Partners.l0 kj14 a0 y135 x4_1 (wrap64 (x5_1 + 1))) = some r := by first | (rw [hy135]; with_reducible exact H) | (have H2_ := (Option.bind_some _ _).symm.trans H; rw [hy135]; with_reducible exact H2_) | (have H2_ := (Option.bind_some _ _).symm.trans H; with_reducible exact H2_) | with_reducible exact H | (rw [hy135]; exact H) | exact H
       have Ny135 := AZ.mk hy135
       clear hy135
       have H' := AZ.mk H
       clear H
       have p36 : 0 ≤ (x5_1 : Int) := oT (by first | (with_reducible assumption) | assumption)
       have q36 : x5_1 < (a0.size : Int) := oT (by first | (with_reducible assumption) | assumption)
       have hx36 := bt_at a0 x5_1
       replace p36 := eq_true p36
       replace q36 := eq_true q36
       go_wp2_with (first | ((with_reducible refine gate_callee (f := 60) rfl ?_); refine goesL_ (some 63) rfl rfl Try.func60 (by kernel_rfl) rfl #[.int .u8 (bt a0 x5_1)] rfl (by (try simp only [List.map_toArray, List.map_cons, List.map_nil]); first | done | rfl | (simp only [List.length_drop, List.length_take]; rfl)) ?_; (with_reducible refine (spec_l01Return.calls (bt a0 x5_1) true _ A37.out).mono ?_); rintro e w' ⟨rfl, ⟨nd, rfl⟩⟩; refine ⟨_, rfl, ?_⟩) | ((with_reducible refine gate_builtin (b := .append) (xs := #[.tmp 64, .tmp 65]) rfl ?_); (try (refine gate_guard (by rfl) ?_; dsimp only)); at_builtin; refine Kd.R_append (Kd.int .i64) (w0 := w) w.heap.size rfl (.tmp 64) (.tmp 65) 34 2 (.int .i64 0) 8 rfl Try.underlying34 info2 rfl (by decide) (by omega) u3 x3_1 (-2) [.int .i64 (-2)] (fun _ => True) (fun _ => False) rfl rfl ?aP (fun _ hk => hk.elim) ?aF ?aO ?aB ?aS ?aL ?_; (case aP => exact rfl); (case aB => exact (by repeat (first | (with_reducible first | exact HB.out | apply pA | apply pN | apply pD) | exact HB.out))); (case aF => exact (fun _ _ => trivial)); (case aO => exact (by (with_reducible repeat (first | apply Kd.R_alloc | apply Kd.R_drewN | apply Kd.R_drew)); exact HO_3.out)); (case aS => exact (pZ (by repeat (first | (with_reducible first | exact HB.out | apply pA | apply pN | apply pD) | exact HB.out)))); (case aL => have := LMc39.out; omega); intro v136 w40 ho hb hg hat; rw [← Ny135.out] at ho; have n0_ := AZ.mk (Kd.R_over' (by (with_reducible repeat (first | apply Kd.R_alloc | apply Kd.R_drewN | apply Kd.R_drew)); exact HO_4.out) (Kd.R_typed (by (with_reducible repeat (first | apply Kd.R_alloc | apply Kd.R_drewN | apply Kd.R_drew)); exact HO_3.out)) (by decide) hg); have n1_ := AZ.mk (hb); have n2_ := AZ.mk (ho); clear HO_4; clear HB; clear HO_3; have HO_4 := n0_; have HB := n1_; have HO137 := n2_; clear n0_ n1_ n2_; clear ho hb hg hat))
       go_roundg kj14
       case measure => have := HK1.out; have := HJ14.out; omega
       case rel => exact ⟨(y135), (x4_1), (wrap64 (x5_1 + 1)), (by first | rfl | (simp; done) | (simp [*]; done)), H', ⟨by have := HK1.out; have := HJ14.out; omega⟩, ⟨by (with_reducible repeat (first | apply Kd.R_alloc | apply Kd.R_drewN | apply Kd.R_drew)); exact HO137.out⟩, ⟨by (with_reducible repeat (first | apply Kd.R_alloc | apply Kd.R_drewN | apply Kd.R_drew)); exact HO_4.out⟩, ⟨by repeat (first | (with_reducible first | exact HB.out | apply pA | apply pN | apply pD) | exact HB.out)⟩⟩
      replace c38 := Bool.eq_false_iff.mpr c38
      subst c38
      have H1 : (if x3_1.length < 17592186044416 then (spec_l01Partners.l0 kj14 a0 (x3_1 ++ [(-1)]) x4_1 (wrap64 (x5_1 + 1))) else (none)) = some r := by rw [if_neg (show ¬ (false = true) by decide)] at H; exact H
      clear H
      have H := H1
      clear H1
      by_cases c41 : x3_1.length < 17592186044416
      rotate_left
      ·rw [if_neg c41] at H
       exact absurd H (by simp)
      rw [if_pos c41] at H
      have LMc41 := AZ.mk c41
      clear c41
      obtain ⟨y138, hy138⟩ : ∃ y_ : List Int, y_ = (x3_1 ++ [(-1)]) := ⟨_, rfl⟩
      replace H : (spec_l01Partners.l0 kj14 a0 y138 x4_1 (wrap64 (x5_1 + 1))) = some r := by first | (rw [hy138]; with_reducible exact H) | (have H2_ := (Option.bind_some _ _).symm.trans H; rw [hy138]; with_reducible exact H2_) | (have H2_ := (Option.bind_some _ _).symm.trans H; with_reducible exact H2_) | with_reducible exact H | (rw [hy138]; exact H) | exact H
      have Ny138 := AZ.mk hy138
      clear hy138
      have H' := AZ.mk H
      clear H
      have p36 : 0 ≤ (x5_1 : Int) := oT (by first | (with_reducible assumption) | assumption)
      have q36 : x5_1 < (a0.size : Int) := oT (by first | (with_reducible assumption) | assumption)
      have hx36 := bt_at a0 x5_1
      replace p36 := eq_true p36
      replace q36 := eq_true q36
      go_wp2_with (first | ((with_reducible refine gate_callee (f := 60) rfl ?_); refine goesL_ (some 63) rfl rfl Try.func60 (by kernel_rfl) rfl #[.int .u8 (bt a0 x5_1)] rfl (by (try simp only [List.map_toArray, List.map_cons, List.map_nil]); first | done | rfl | (simp only [List.length_drop, List.length_take]; rfl)) ?_; (with_reducible refine (spec_l01Return.calls (bt a0 x5_1) false _ A37.out).mono ?_); rintro e w' ⟨rfl, ⟨nd, rfl⟩⟩; refine ⟨_, rfl, ?_⟩) | ((with_reducible refine gate_builtin (b := .append) (xs := #[.tmp 15, .tmp 16]) rfl ?_); (try (refine gate_guard (by rfl) ?_; dsimp only)); at_builtin; refine Kd.R_append (Kd.int .i64) (w0 := w) w.heap.size rfl (.tmp 15) (.tmp 16) 34 2 (.int .i64 0) 8 rfl Try.underlying34 info2 rfl (by decide) (by omega) u3 x3_1 (-1) [.int .i64 (-1)] (fun _ => True) (fun _ => False) rfl rfl ?aP (fun _ hk => hk.elim) ?aF ?aO ?aB ?aS ?aL ?_; (case aP => exact rfl); (case aB => exact (by repeat (first | (with_reducible first | exact HB.out | apply pA | apply pN | apply pD) | exact HB.out))); (case aF => exact (fun _ _ => trivial)); (case aO => exact (by (with_reducible repeat (first | apply Kd.R_alloc | apply Kd.R_drewN | apply Kd.R_drew)); exact HO_3.out)); (case aS => exact (pZ (by repeat (first | (with_reducible first | exact HB.out | apply pA | apply pN | apply pD) | exact HB.out)))); (case aL => have := LMc41.out; omega); intro v139 w42 ho hb hg hat; rw [← Ny138.out] at ho; have n0_ := AZ.mk (Kd.R_over' (by (with_reducible repeat (first | apply Kd.R_alloc | apply Kd.R_drewN | apply Kd.R_drew)); exact HO_4.out) (Kd.R_typed (by (with_reducible repeat (first | apply Kd.R_alloc | apply Kd.R_drewN | apply Kd.R_drew)); exact HO_3.out)) (by decide) hg); have n1_ := AZ.mk (hb); have n2_ := AZ.mk (ho); clear HO_4; clear HB; clear HO_3; have HO_4 := n0_; have HB := n1_; have HO140 := n2_; clear n0_ n1_ n2_; clear ho hb hg hat))
      go_roundg kj14
      case measure => have := HK1.out; have := HJ14.out; omega
      case rel => exact ⟨(y138), (x4_1), (wrap64 (x5_1 + 1)), (by first | rfl | (simp; done) | (simp [*]; done)), H', ⟨by have := HK1.out; have := HJ14.out; omega⟩, ⟨by (with_reducible repeat (first | apply Kd.R_alloc | apply Kd.R_drewN | apply Kd.R_drew)); exact HO140.out⟩, ⟨by (with_reducible repeat (first | apply Kd.R_alloc | apply Kd.R_drewN | apply Kd.R_drew)); exact HO_4.out⟩, ⟨by repeat (first | (with_reducible first | exact HB.out | apply pA | apply pN | apply pD) | exact HB.out)⟩⟩
     subst c20
     have H1 : (if 0 ≤ (wrap64 ((x4_1.length : Int) - 1)) then (if (wrap64 ((x4_1.length : Int) - 1)) < (x4_1.length : Int) then (if (wrap64 ((x4_1.length : Int) - 1)) ≤ (x4_1.length : Int) then (if 0 ≤ (rd x4_1 (wrap64 ((x4_1.length : Int) - 1))) then (if (rd x4_1 (wrap64 ((x4_1.length : Int) - 1))) < (x3_1.length : Int) then ((some (x3_1.set ((rd x4_1 (wrap64 ((x4_1.length : Int) - 1))) : Int).toNat x5_1 : List Int)).bind fun y130 => (if y130.length < 17592186044416 then (spec_l01Partners.l0 kj14 a0 (y130 ++ [rd x4_1 (wrap64 ((x4_1.length : Int) - 1))]) (x4_1.take ((wrap64 ((x4_1.length : Int) - 1)) : Int).toNat) (wrap64 (x5_1 + 1))) else (none))) else (none)) else (none)) else (none)) else (none)) else (none)) = some r := by rw [if_pos rfl] at H; exact H
     clear H
     have H := H1
     clear H1
     obtain ⟨ji21, hji21⟩ : ∃ j_ : Int, (wrap64 ((x4_1.length : Int) - 1)) = j_ := ⟨_, rfl⟩
     replace H : (if 0 ≤ (ji21) then (if (ji21) < (x4_1.length : Int) then (if (ji21) ≤ (x4_1.length : Int) then (if 0 ≤ (rd x4_1 (ji21)) then (if (rd x4_1 (ji21)) < (x3_1.length : Int) then ((some (x3_1.set ((rd x4_1 (ji21)) : Int).toNat x5_1 : List Int)).bind fun y130 => (if y130.length < 17592186044416 then (spec_l01Partners.l0 kj14 a0 (y130 ++ [rd x4_1 (ji21)]) (x4_1.take ((ji21) : Int).toNat) (wrap64 (x5_1 + 1))) else (none))) else (none)) else (none)) else (none)) else (none)) else (none)) = some r := by first | (rw [hji21] at H; exact H) | (simp only [hji21] at H ⊢; exact H)
     have hji21w : (IntKind.i64.wrap ((x4_1.length : Int) - 1)) = ji21 := (i64_w _).trans hji21
     by_cases c22 : 0 ≤ (ji21)
     rotate_left
     ·rw [if_neg c22] at H
      exact absurd H (by simp)
     rw [if_pos c22] at H
     have c22b0 : decide (0 ≤ (ji21)) = true := decide_eq_true c22
     clear c22
     by_cases c23 : (ji21) < (x4_1.length : Int)
     rotate_left
     ·rw [if_neg c23] at H
      exact absurd H (by simp)
     rw [if_pos c23] at H
     have c23b0 : decide ((ji21) < (x4_1.length : Int)) = true := decide_eq_true c23
     clear c23
     by_cases c24 : (ji21) ≤ (x4_1.length : Int)
     rotate_left
     ·rw [if_neg c24] at H
      exact absurd H (by simp)
     rw [if_pos c24] at H
     have c24b0 := eq_true c24
     have c24b1 : decide ((ji21) ≤ (x4_1.length : Int)) = true := decide_eq_true c24
     clear c24
     obtain ⟨y127, hy127⟩ : ∃ y_ : List Int, y_ = (x4_1.take ((ji21) : Int).toNat) := ⟨_, rfl⟩
     replace H : (if 0 ≤ (rd x4_1 (ji21)) then (if (rd x4_1 (ji21)) < (x3_1.length : Int) then ((some (x3_1.set ((rd x4_1 (ji21)) : Int).toNat x5_1 : List Int)).bind fun y130 => (if y130.length < 17592186044416 then (spec_l01Partners.l0 kj14 a0 (y130 ++ [rd x4_1 (ji21)]) y127 (wrap64 (x5_1 + 1))) else (none))) else (none)) else (none)) = some r := by first | (rw [hy127]; with_reducible exact H) | (have H2_ := (Option.bind_some _ _).symm.trans H; rw [hy127]; with_reducible exact H2_) | (have H2_ := (Option.bind_some _ _).symm.trans H; with_reducible exact H2_) | with_reducible exact H | (rw [hy127]; exact H) | exact H
     have Ny127 := AZ.mk hy127
     clear hy127
     by_cases c25 : 0 ≤ (rd x4_1 (ji21))
     rotate_left
     ·rw [if_neg c25] at H
      exact absurd H (by simp)
     rw [if_pos c25] at H
     have c25b0 : decide (0 ≤ (rd x4_1 (ji21))) = true := decide_eq_true c25
     clear c25
     by_cases c26 : (rd x4_1 (ji21)) < (x3_1.length : Int)
     rotate_left
     ·rw [if_neg c26] at H
      exact absurd H (by simp)
     rw [if_pos c26] at H
     have c26b0 : decide ((rd x4_1 (ji21)) < (x3_1.length : Int)) = true := decide_eq_true c26
     clear c26
     obtain ⟨y130, hy130⟩ : ∃ y_ : List Int, y_ = (x3_1.set ((rd x4_1 (ji21)) : Int).toNat x5_1) := ⟨_, rfl⟩
     replace H : (if y130.length < 17592186044416 then (spec_l01Partners.l0 kj14 a0 (y130 ++ [rd x4_1 (ji21)]) y127 (wrap64 (x5_1 + 1))) else (none)) = some r := by first | (rw [hy130]; with_reducible exact H) | (have H2_ := (Option.bind_some _ _).symm.trans H; rw [hy130]; with_reducible exact H2_) | (have H2_ := (Option.bind_some _ _).symm.trans H; with_reducible exact H2_) | with_reducible exact H | (rw [hy130]; exact H) | exact H
     have Ny130 := AZ.mk hy130
     clear hy130
     by_cases c28 : y130.length < 17592186044416
     rotate_left
     ·rw [if_neg c28] at H
      exact absurd H (by simp)
     rw [if_pos c28] at H
     have LMc28 := AZ.mk c28
     clear c28
     obtain ⟨y131, hy131⟩ : ∃ y_ : List Int, y_ = (y130 ++ [rd x4_1 (ji21)]) := ⟨_, rfl⟩
     replace H : (spec_l01Partners.l0 kj14 a0 y131 y127 (wrap64 (x5_1 + 1))) = some r := by first | (rw [hy131]; with_reducible exact H) | (have H2_ := (Option.bind_some _ _).symm.trans H; rw [hy131]; with_reducible exact H2_) | (have H2_ := (Option.bind_some _ _).symm.trans H; with_reducible exact H2_) | with_reducible exact H | (rw [hy131]; exact H) | exact H
     have Ny131 := AZ.mk hy131
     clear hy131
     have H' := AZ.mk H
     clear H
     obtain ⟨Ao29, co29, eo29⟩ := Kd.R_slice HO_4.out
     subst eo29
     have p126 : 0 ≤ ((ji21) : Int) := oT (by first | (with_reducible assumption) | assumption)
     have q126 : (ji21) < (x4_1.length : Int) := oT (by first | (with_reducible assumption) | assumption)
     obtain ⟨ad126, e126, hx126_0⟩ := Kd.at_int (Kd.R_reads' HO_4.out).2.2 (ji21) p126 q126
     cases e126
     replace p126 := eq_true p126
     replace q126 := eq_true q126
     have q30 : ((ji21) : Int) ≤ ((x4_1.length : Int) : Int) := oT (by first | (with_reducible assumption) | assumption)
     obtain ⟨i030, hi030, _, hsz30, _⟩ := info_parts info3
     have hcut30 := cut_to (P := Try.prog) 85 3 .i64 Try.underlying85 hi030 (some ad126) x4_1.length co29 (ji21) (oT (by first | (with_reducible assumption) | assumption)) q30 (Kd.R_reads' HO_4.out).2.1
     have hr30 := Kd.R_take (m := ((ji21) : Int).toNat) HO_4.out (by omega)
     have hy30 : y127.length = ((ji21) : Int).toNat := (by rw [Ny127.out, List.length_take]; omega)
     rw [← Ny127.out] at hr30
     rw [← hy30] at hr30 hcut30
     clear hy30 hi030 hsz30 HO_4
     have HO129 := AZ.mk hr30
     clear hr30
     replace q30 := eq_true q30
     have p27 : 0 ≤ ((rd x4_1 (ji21)) : Int) := oT (by first | (with_reducible assumption) | assumption)
     have q27 : ((rd x4_1 (ji21)) : Int) < ((x3_1.length : Int) : Int) := oT (by first | (with_reducible assumption) | assumption)
     obtain ⟨go27, co27, eo27, gb27, gl27, cl27, HG27⟩ := Kd.R_form HO_3.out (by omega)
     (first | cases eo27 | (injection eo27 with ea_ en_ ec_; (first | subst ea_ | (injection ea_ with ea_; subst ea_)); subst ec_; clear en_))
     have GB27 := AZ.mk gb27
     have GG27 := AZ.mk HG27
     clear gb27 gl27 HG27
     obtain ⟨hx27_0, hf27_0⟩ := Kd.R_celln 0 HO_3.out ((rd x4_1 (ji21)) : Int) p27 q27
     replace p27 := eq_true p27
     replace q27 := eq_true q27
     have HP31 := Kd.R_putg HO_3.out ((rd x4_1 (ji21)) : Int) x5_1
     go_wp2_with (first | ((with_reducible refine gate_store (t := 2) (p := 54) rfl ?_); refine store_event (t := 2) (p := 54) (v := ?vo_w32) (w1 := (wc.setCell ⟨go27, ((rd x4_1 (ji21)) : Int).toNat, none⟩ (.int .i64 x5_1))) ?hg ?ho ?hn ?hr ?_; (case ho => rfl); (case hg => rfl); (case hn => rfl); (case hr => first | (go_simp; done) | (go_simp; rfl)); intro w32 hw; have hg : wc.grownBy w32 (some go27) := (by rw [hw]; exact HP31.2); have hp_ : Kd.R (Kd.int .i64) 2 w32 w.heap.size (fun _ => True) (.slice (some ⟨go27, 0, none⟩) x3_1.length co27) y130 := (by rw [hw, Ny130.out]; exact HP31.1); clear HP31; have n0_ := AZ.mk (hp_); have n1_ := AZ.mk (Kd.R_over' (v := (.slice (some ⟨go27, 0, none⟩) x3_1.length co27)) (by (with_reducible repeat (first | apply Kd.R_alloc | apply Kd.R_drewN | apply Kd.R_drew)); exact HO129.out) (Kd.R_typed HO_3.out) (by decide) hg); have n2_ := AZ.mk ((by rw [hw]; exact pS (HB.out) GB27.out : Below w.heap.size w w32)); clear HO_3; clear HO129; clear HB; have HO_3 := n0_; have HO129 := n1_; have HB := n2_; clear n0_ n1_ n2_; clear hg hw hp_) | ((with_reducible refine gate_builtin (b := .append) (xs := #[.tmp 55, .tmp 57]) rfl ?_); (try (refine gate_guard (by rfl) ?_; dsimp only)); at_builtin; refine Kd.R_append (Kd.int .i64) (w0 := w) w.heap.size rfl (.tmp 55) (.tmp 57) 34 2 (.int .i64 0) 8 rfl Try.underlying34 info2 rfl (by decide) (by omega) (.slice (some ⟨go27, 0, none⟩) x3_1.length co27) y130 (rd x4_1 (ji21)) [.int .i64 (rd x4_1 (ji21))] (fun _ => True) (fun _ => False) rfl rfl ?aP (fun _ hk => hk.elim) ?aF ?aO ?aB ?aS ?aL ?_; (case aP => exact rfl); (case aB => exact (by repeat (first | (with_reducible first | exact HB.out | apply pA | apply pN | apply pD) | exact HB.out))); (case aF => exact (fun _ _ => trivial)); (case aO => exact (by (with_reducible repeat (first | apply Kd.R_alloc | apply Kd.R_drewN | apply Kd.R_drew)); exact HO_3.out)); (case aS => exact (pZ (by repeat (first | (with_reducible first | exact HB.out | apply pA | apply pN | apply pD) | exact HB.out)))); (case aL => have := LMc28.out; omega); intro v132 w33 ho hb hg hat; rw [← Ny131.out] at ho; have n0_ := AZ.mk (Kd.R_over' (by (with_reducible repeat (first | apply Kd.R_alloc | apply Kd.R_drewN | apply Kd.R_drew)); exact HO129.out) (Kd.R_typed (by (with_reducible repeat (first | apply Kd.R_alloc | apply Kd.R_drewN | apply Kd.R_drew)); exact HO_3.out)) (by decide) hg); have n1_ := AZ.mk (hb); have n2_ := AZ.mk (ho); clear HO129; clear HB; clear HO_3; have HO129 := n0_; have HB := n1_; have HO133 := n2_; clear n0_ n1_ n2_; clear ho hb hg hat))
     go_roundg kj14
     case measure => have := HK1.out; have := HJ14.out; omega
     case rel => exact ⟨(y131), (y127), (wrap64 (x5_1 + 1)), (by first | rfl | (simp; done) | (simp [*]; done)), H', ⟨by have := HK1.out; have := HJ14.out; omega⟩, ⟨by (with_reducible repeat (first | apply Kd.R_alloc | apply Kd.R_drewN | apply Kd.R_drew)); exact HO133.out⟩, ⟨by (with_reducible repeat (first | apply Kd.R_alloc | apply Kd.R_drewN | apply Kd.R_drew)); exact HO129.out⟩, ⟨by repeat (first | (with_reducible first | exact HB.out | apply pA | apply pN | apply pD) | exact HB.out)⟩⟩
end Go.Proofs.Yteeplponconnjaa.P
namespace Go.Proofs.Yteeplponconnjaa.P
open Go.RowKit Go.Proofs.YteeplponconnjaaW.PrintWords Go.Proofs.YteeplponconnjaaW.PrintLast Go.Proofs.YteeplponconnjaaW.PrintMore
attribute [local go_sem] max2_int min2_int max_two min_two max_three min_three max_four min_four
set_option linter.unusedVariables false
set_option linter.unusedSimpArgs false
mutual
def spec_l01Parents.l0 : Nat → ByteArray → List Int → List Int → Int → Option (List Int)
 | 0, _, _, _, _ => none
 | k + 1, x0, x3, x4, x5 => if x5 < (x0.size : Int) then (spec_l01Parents.l1 k x0 x3 x4 x5 (-1) 0) else (some x4)
def spec_l01Parents.l1 : Nat → ByteArray → List Int → List Int → Int → Int → Int → Option (List Int)
 | 0, _, _, _, _, _, _ => none
 | k + 1, x0, x3, x4, x5, x6, x7 => if x7 < x5 then (if 0 ≤ x7 then (if x7 < (x0.size : Int) then ((spec_l01Call.f (bt x0 x7)).bind fun t147 => (if t147 = true then (if x7 < (x3.length : Int) then (if (rd x3 x7) = (-2) then (spec_l01Parents.l1 k x0 x3 x4 x5 x7 (wrap64 (x7 + 1))) else (if (rd x3 x7) > x5 then (spec_l01Parents.l1 k x0 x3 x4 x5 x7 (wrap64 (x7 + 1))) else (spec_l01Parents.l1 k x0 x3 x4 x5 x6 (wrap64 (x7 + 1))))) else (none)) else (spec_l01Parents.l1 k x0 x3 x4 x5 x6 (wrap64 (x7 + 1))))) else (none)) else (none)) else (if x4.length < 17592186044416 then (spec_l01Parents.l0 k x0 x3 (x4 ++ [x6]) (wrap64 (x5 + 1))) else (none))
end
def spec_l01Parents.f (k : Nat) (a0 : ByteArray) : Option (List Int) := (spec_l01Partners.f k a0).bind fun t141 => (spec_l01Parents.l0 k a0 t141 (([] : List Int)) 0)
set_option maxHeartbeats 8000000 in
set_option maxRecDepth 100000 in
theorem spec_l01Parents.calls (k : Nat) (a0 : ByteArray) (r : List Int) (w : World) (h : spec_l01Parents.f k a0 = some r) :
  Calls Try.prog 48 #[.string a0] w fun e w' => ∃ v0_ : Value, e = .returned (v0_) ∧ Kd.R (Kd.int .i64) 2 w' w.heap.size (fun _ => True) v0_ r ∧ Below w.heap.size w w' := by
 have HB := AZ.mk (Below.refl w.heap.size w)
 have H : ((spec_l01Partners.f k a0).bind fun t141 => (spec_l01Parents.l0 k a0 t141 (([] : List Int)) 0)) = some r := h
 clear h
 replace H := Option.bind_eq_some_iff.mp H
 obtain ⟨t141, A20, H⟩ := H
 replace H : (spec_l01Parents.l0 k a0 t141 (([] : List Int)) 0) = some r := H
 have A2 := AZ.mk A20
 clear A20
 obtain ⟨y144, hy144⟩ : ∃ y_ : List Int, y_ = (([] : List Int)) := ⟨_, rfl⟩
 replace H : (spec_l01Parents.l0 k a0 t141 y144 0) = some r := by first | (rw [hy144]; with_reducible exact H) | (have H2_ := (Option.bind_some _ _).symm.trans H; rw [hy144]; with_reducible exact H2_) | (have H2_ := (Option.bind_some _ _).symm.trans H; with_reducible exact H2_) | with_reducible exact H | (rw [hy144]; exact H) | exact H
 have Ny144 := AZ.mk hy144
 clear hy144
 have H' := AZ.mk H
 clear H
 go_enter Try.func48, Try.ntmps48
 go_wp2_with (first | ((with_reducible refine gate_callee (f := 58) rfl ?_); refine goesL_ (some 9) rfl rfl Try.func58 (by kernel_rfl) rfl #[.string a0] rfl (by (try simp only [List.map_toArray, List.map_cons, List.map_nil]); first | done | rfl | (simp only [List.length_drop, List.length_take]; rfl)) ?_; (with_reducible refine (spec_l01Partners.calls k a0 t141 _ A2.out).mono ?_); rintro e w3 ⟨v142, rfl, ho0, hb⟩; refine ⟨_, rfl, ?_⟩; have n0_ := AZ.mk (Kd.R_lower ho0 (pZ (by repeat (first | (with_reducible first | exact HB.out | apply pA | apply pN | apply pD) | exact HB.out)))); have n1_ := AZ.mk (pT (by repeat (first | (with_reducible first | exact HB.out | apply pA | apply pN | apply pD) | exact HB.out)) hb); clear HB; have HO143 := n0_; have HB := n1_; clear n0_ n1_; (try clear hb); (try clear hb2); (try clear hk); (try clear hi); (try clear ho0)) | ((with_reducible refine gate_dst (N := 10) rfl ?_); refine Kd.R_lit (Kd.int .i64) _ 2 ?hg (N := 10) ?hd (xs := ([] : List Int)) (inner := []) (ok := fun _ => True) (okp := fun _ => True) ?hr ?hp (fun _ hk => hk) trivial (Below.refl _ _) (Nat.le_refl _) (by simp) ?_; (case hd => rfl); (case hg => rfl); (case hr => first | (go_simp; done) | (go_simp; rfl)); (case hp => exact (Reps.none _ _)); intro v145 w4 ho5 hb hg_ hnew_; clear hg_ hnew_; (first | rw [← Ny144.out] at ho5 | (simp only [Int.reduceToNat] at ho5; rw [← Ny144.out] at ho5)); have n0_ := AZ.mk (Kd.R_elder' (by (with_reducible repeat (first | apply Kd.R_alloc | apply Kd.R_drewN | apply Kd.R_drew)); exact HO143.out) (Kd.R_base ho5) hb); have n1_ := AZ.mk (Kd.R_lower (Kd.R_new' ho5 (Kd.R_lt (by (with_reducible repeat (first | apply Kd.R_alloc | apply Kd.R_drewN | apply Kd.R_drew)); exact HO143.out))) (pZ (by repeat (first | (with_reducible first | exact HB.out | apply pA | apply pN | apply pD) | exact HB.out)))); have n2_ := AZ.mk (pT (by repeat (first | (with_reducible first | exact HB.out | apply pA | apply pN | apply pD) | exact HB.out)) hb); clear HO143; clear HB; have HO143 := n0_; have HO146 := n1_; have HB := n2_; clear n0_ n1_ n2_; clear hb ho5))
 go_loopg [4, 5] k (fun kq v4 v5 w' => ∃ (x4_1 : List Int) (x5_1 : Int), v5 = .int .i64 x5_1 ∧ AZ (spec_l01Parents.l0 kq a0 t141 x4_1 x5_1 = some r) ∧ AZ (kq ≤ k) ∧ AZ (Kd.R (Kd.int .i64) 2 w' w.heap.size (fun k_ => some k_ ≠ (v4 : Value).ownBlock) v142 t141) ∧ AZ (Kd.R (Kd.int .i64) 2 w' w.heap.size (fun k_ => some k_ ≠ (v142 : Value).ownBlock) v4 x4_1) ∧ AZ (Below w.heap.size w w'))
 case atStart => exact ⟨(y144), (0), (by first | rfl | (simp; done) | (simp [*]; done)), H', ⟨Nat.le_refl _⟩, ⟨by (with_reducible repeat (first | apply Kd.R_alloc | apply Kd.R_drewN | apply Kd.R_drew)); exact Kd.R_mono HO143.out (fun _ hk => hk.2)⟩, ⟨by (with_reducible repeat (first | apply Kd.R_alloc | apply Kd.R_drewN | apply Kd.R_drew)); exact Kd.R_mono HO146.out (fun _ hk => hk.2)⟩, ⟨by repeat (first | (with_reducible first | exact HB.out | apply pA | apply pN | apply pD) | exact HB.out)⟩⟩
 case round =>
  clear H'
  try clear p2
  try clear c4
  try clear c5
  obtain ⟨x4_1, x5_1, rfl, HA, HK1, HO_3, HO_4, HB⟩ := hrel
  cases gk with
  | zero => exact absurd HA.out (by simp [spec_l01Parents.l0])
  | succ k1 =>
   have H := HA.out
   clear HA
   simp only [spec_l01Parents.l0] at H
   by_cases c6 : x5_1 < (a0.size : Int)
   rotate_left
   ·rw [if_neg c6] at H
    have c6b0 : decide (x5_1 < (a0.size : Int)) = false := decide_eq_false c6
    clear c6
    obtain rfl := Option.some.inj H
    go_wp2
    go_ret
    exact ⟨_, by first | rfl | (simp [errW_none, errW_some] <;> rfl) | (simp [*, errW_none, errW_some] <;> rfl), by (with_reducible repeat (first | apply Kd.R_alloc | apply Kd.R_drewN | apply Kd.R_drew)); exact Kd.R_mono HO_4.out (fun _ hk => trivial), by repeat (first | (with_reducible first | exact HB.out | apply pA | apply pN | apply pD) | exact HB.out)⟩
   rw [if_pos c6] at H
   have c6b0 : decide (x5_1 < (a0.size : Int)) = true := decide_eq_true c6
   clear c6
   have H' := AZ.mk H
   clear H
   go_wp2
   go_loopg [6, 7] k1 (fun kq v6 v7 w' => ∃ (x6_2 : Int) (x7_2 : Int), v6 = .int .i64 x6_2 ∧ v7 = .int .i64 x7_2 ∧ AZ (spec_l01Parents.l1 kq a0 t141 x4_1 x5_1 x6_2 x7_2 = some r) ∧ AZ (kq ≤ k1) ∧ AZ (Kd.R (Kd.int .i64) 2 w' w.heap.size (fun k_ => some k_ ≠ (u4 : Value).ownBlock) v142 t141) ∧ AZ (Kd.R (Kd.int .i64) 2 w' w.heap.size (fun k_ => some k_ ≠ (v142 : Value).ownBlock) u4 x4_1) ∧ AZ (Below w.heap.size w w'))
   case atStart => exact ⟨((-1)), (0), (by first | rfl | (simp; done) | (simp [*]; done)), (by first | rfl | (simp; done) | (simp [*]; done)), H', ⟨Nat.le_refl _⟩, ⟨by (with_reducible repeat (first | apply Kd.R_alloc | apply Kd.R_drewN | apply Kd.R_drew)); exact HO_3.out⟩, ⟨by (with_reducible repeat (first | apply Kd.R_alloc | apply Kd.R_drewN | apply Kd.R_drew)); exact HO_4.out⟩, ⟨by repeat (first | (with_reducible first | exact HB.out | apply pA | apply pN | apply pD) | exact HB.out)⟩⟩
   case round =>
    clear H'
    try clear p2
    try clear c4
    try clear c5
    try clear c6
    try clear c6b0
    try clear p2
    obtain ⟨x6_2, x7_2, rfl, rfl, HA, HK2, HO_3, HO_4, HB⟩ := hrel
    cases gk with
    | zero => exact absurd HA.out (by simp [spec_l01Parents.l1])
    | succ k2 =>
     have H := HA.out
     clear HA
     simp only [spec_l01Parents.l1] at H
     by_cases c7 : x7_2 < x5_1
     rotate_left
     ·rw [if_neg c7] at H
      have c7b0 : decide (x7_2 < x5_1) = false := decide_eq_false c7
      clear c7
      by_cases c19 : x4_1.length < 17592186044416
      rotate_left
      ·rw [if_neg c19] at H
       exact absurd H (by simp)
      rw [if_pos c19] at H
      have LMc19 := AZ.mk c19
      clear c19
      obtain ⟨y150, hy150⟩ : ∃ y_ : List Int, y_ = (x4_1 ++ [x6_2]) := ⟨_, rfl⟩
      replace H : (spec_l01Parents.l0 k2 a0 t141 y150 (wrap64 (x5_1 + 1))) = some r := by first | (rw [hy150]; with_reducible exact H) | (have H2_ := (Option.bind_some _ _).symm.trans H; rw [hy150]; with_reducible exact H2_) | (have H2_ := (Option.bind_some _ _).symm.trans H; with_reducible exact H2_) | with_reducible exact H | (rw [hy150]; exact H) | exact H
      have Ny150 := AZ.mk hy150
      clear hy150
      have H' := AZ.mk H
      clear H
      go_wp2_with (first | ((with_reducible refine gate_builtin (b := .append) (xs := #[.tmp 42, .tmp 44]) rfl ?_); at_builtin; refine Kd.R_append (Kd.int .i64) (w0 := w) w.heap.size rfl (.tmp 42) (.tmp 44) 34 2 (.int .i64 0) 8 rfl Try.underlying34 info2 rfl (by decide) (by omega) u4 x4_1 x6_2 [.int .i64 x6_2] (fun k_ => some k_ ≠ (v142 : Value).ownBlock) (fun _ => False) rfl rfl ?aP (fun _ hk => hk.elim) ?aF ?aO ?aB ?aS ?aL ?_; (case aP => exact rfl); (case aB => exact (by repeat (first | (with_reducible first | exact HB.out | apply pA | apply pN | apply pD) | exact HB.out))); (case aF => exact (fun k_ hk => Kd.fresh' (Kd.R_lt (by (with_reducible repeat (first | apply Kd.R_alloc | apply Kd.R_drewN | apply Kd.R_drew)); exact HO_3.out)) k_ hk)); (case aO => exact (by (with_reducible repeat (first | apply Kd.R_alloc | apply Kd.R_drewN | apply Kd.R_drew)); exact HO_4.out)); (case aS => exact (pZ (by repeat (first | (with_reducible first | exact HB.out | apply pA | apply pN | apply pD) | exact HB.out)))); (case aL => have := LMc19.out; omega); intro v151 w20 ho hb hg hat; rw [← Ny150.out] at ho; have n0_ := AZ.mk (Kd.R_after (ok := (fun _ => True)) (by (with_reducible repeat (first | apply Kd.R_alloc | apply Kd.R_drewN | apply Kd.R_drew)); exact Kd.R_mono HO_3.out (fun _ hk => ⟨trivial, hk⟩)) hg hat); have n1_ := AZ.mk (hb); have n2_ := AZ.mk (ho); clear HO_3; clear HB; clear HO_4; have HO_3 := n0_; have HB := n1_; have HO152 := n2_; clear n0_ n1_ n2_; clear ho hb hg hat))
      go_roundg k2
      case measure => have := HK1.out; have := HK2.out; omega
      case rel => exact ⟨(y150), (wrap64 (x5_1 + 1)), (by first | rfl | (simp; done) | (simp [*]; done)), H', ⟨by have := HK1.out; have := HK2.out; omega⟩, ⟨by (with_reducible repeat (first | apply Kd.R_alloc | apply Kd.R_drewN | apply Kd.R_drew)); exact Kd.R_mono HO_3.out (fun _ hk => hk.2)⟩, ⟨by (with_reducible repeat (first | apply Kd.R_alloc | apply Kd.R_drewN | apply Kd.R_drew)); exact HO152.out⟩, ⟨by repeat (first | (with_reducible first | exact HB.out | apply pA | apply pN | apply pD) | exact HB.out)⟩⟩
     rw [if_pos c7] at H
     have c7b0 : decide (x7_2 < x5_1) = true := decide_eq_true c7
     clear c7
     by_cases c8 : 0 ≤ x7_2
     rotate_left
     ·rw [if_neg c8] at H
      exact absurd H (by simp)
     rw [if_pos c8] at H
     have c8b0 : decide (0 ≤ x7_2) = true := decide_eq_true c8
     clear c8
     by_cases c9 : x7_2 < (a0.size : Int)
     rotate_left
     ·rw [if_neg c9] at H
      exact absurd H (by simp)
     rw [if_pos c9] at H
     have c9b0 : decide (x7_2 < (a0.size : Int)) = true := decide_eq_true c9
     clear c9
     replace H := Option.bind_eq_some_iff.mp H
     obtain ⟨t147, A110, H⟩ := H
     replace H : (if t147 = true then (if x7_2 < (t141.length : Int) then (if (rd t141 x7_2) = (-2) then (spec_l01Parents.l1 k2 a0 t141 x4_1 x5_1 x7_2 (wrap64 (x7_2 + 1))) else (if (rd t141 x7_2) > x5_1 then (spec_l01Parents.l1 k2 a0 t141 x4_1 x5_1 x7_2 (wrap64 (x7_2 + 1))) else (spec_l01Parents.l1 k2 a0 t141 x4_1 x5_1 x6_2 (wrap64 (x7_2 + 1))))) else (none)) else (spec_l01Parents.l1 k2 a0 t141 x4_1 x5_1 x6_2 (wrap64 (x7_2 + 1)))) = some r := H
     have A11 := AZ.mk A110
     clear A110
     by_cases c12 : t147 = true
     rotate_left
     ·replace c12 := Bool.eq_false_iff.mpr c12
      subst c12
      have H1 : (spec_l01Parents.l1 k2 a0 t141 x4_1 x5_1 x6_2 (wrap64 (x7_2 + 1))) = some r := by rw [if_neg (show ¬ (false = true) by decide)] at H; exact H
      clear H
      have H := H1
      clear H1
      have H' := AZ.mk H
      clear H
      have p10 : 0 ≤ (x7_2 : Int) := oT (by first | (with_reducible assumption) | assumption)
      have q10 : x7_2 < (a0.size : Int) := oT (by first | (with_reducible assumption) | assumption)
      have hx10 := bt_at a0 x7_2
      replace p10 := eq_true p10
      replace q10 := eq_true q10
      go_wp2_with (first | ((with_reducible refine gate_callee (f := 59) rfl ?_); refine goesL_ (some 25) rfl rfl Try.func59 (by kernel_rfl) rfl #[.int .u8 (bt a0 x7_2)] rfl (by (try simp only [List.map_toArray, List.map_cons, List.map_nil]); first | done | rfl | (simp only [List.length_drop, List.length_take]; rfl)) ?_; (with_reducible refine (spec_l01Call.calls (bt a0 x7_2) false _ A11.out).mono ?_); rintro e w' ⟨rfl, ⟨nd, rfl⟩⟩; refine ⟨_, rfl, ?_⟩))
      go_roundg k2
      case measure => have := HK1.out; have := HK2.out; omega
      case rel => exact ⟨(x6_2), (wrap64 (x7_2 + 1)), (by first | rfl | (simp; done) | (simp [*]; done)), (by first | rfl | (simp; done) | (simp [*]; done)), H', ⟨by have := HK1.out; have := HK2.out; omega⟩, ⟨by (with_reducible repeat (first | apply Kd.R_alloc | apply Kd.R_drewN | apply Kd.R_drew)); exact HO_3.out⟩, ⟨by (with_reducible repeat (first | apply Kd.R_alloc | apply Kd.R_drewN | apply Kd.R_drew)); exact HO_4.out⟩, ⟨by repeat (first | (with_reducible first | exact HB.out | apply pA | apply pN | apply pD) | exact HB.out)⟩⟩
     subst c12
     have H1 : (if x7_2 < (t141.length : Int) then (if (rd t141 x7_2) = (-2) then (spec_l01Parents.l1 k2 a0 t141 x4_1 x5_1 x7_2 (wrap64 (x7_2 + 1))) else (if (rd t141 x7_2) > x5_1 then (spec_l01Parents.l1 k2 a0 t141 x4_1 x5_1 x7_2 (wrap64 (x7_2 + 1))) else (spec_l01Parents.l1 k2 a0 t141 x4_1 x5_1 x6_2 (wrap64 (x7_2 + 1))))) else (none)) = some r := by rw [if_pos rfl] at H; exact H
     clear H
     have H := H1
     clear H1
     by_cases c13 : x7_2 < (t141.length : Int)
     rotate_left
     ·rw [if_neg c13] at H
      exact absurd H (by simp)
     rw [if_pos c13] at H
     have c13b0 : decide (x7_2 < (t141.length : Int)) = true := decide_eq_true c13
     clear c13
     by_cases c14 : (rd t141 x7_2) = (-2)
     ·rw [if_pos c14] at H
      have c14b0 : ((rd t141 x7_2) == (-2)) = true := beq_iff_eq.mpr c14
      have c14b1 : ((rd t141 x7_2) != (-2)) = false := bne_eq_false_iff_eq.mpr c14
      clear c14
      have H' := AZ.mk H
      clear H
      have p10 : 0 ≤ (x7_2 : Int) := oT (by first | (with_reducible assumption) | assumption)
      have q10 : x7_2 < (a0.size : Int) := oT (by first | (with_reducible assumption) | assumption)
      have hx10 := bt_at a0 x7_2
      replace p10 := eq_true p10
      replace q10 := eq_true q10
      go_wp2_with (first | ((with_reducible refine gate_callee (f := 59) rfl ?_); refine goesL_ (some 25) rfl rfl Try.func59 (by kernel_rfl) rfl #[.int .u8 (bt a0 x7_2)] rfl (by (try simp only [List.map_toArray, List.map_cons, List.map_nil]); first | done | rfl | (simp only [List.length_drop, List.length_take]; rfl)) ?_; (with_reducible refine (spec_l01Call.calls (bt a0 x7_2) true _ A11.out).mono ?_); rintro e w' ⟨rfl, ⟨nd, rfl⟩⟩; refine ⟨_, rfl, ?_⟩; obtain ⟨Ao15, co15, eo15⟩ := Kd.R_slice HO_3.out; subst eo15; have p148 : 0 ≤ (x7_2 : Int) := oT (by first | (with_reducible assumption) | assumption); have q148 : x7_2 < (t141.length : Int) := oT (by first | (with_reducible assumption) | assumption); obtain ⟨ad148, e148, hx148_0⟩ := Kd.at_int (Kd.R_reads' HO_3.out).2.2 x7_2 p148 q148; cases e148; replace p148 := eq_true p148; replace q148 := eq_true q148))
      go_roundg k2
      case measure => have := HK1.out; have := HK2.out; omega
      case rel => exact ⟨(x7_2), (wrap64 (x7_2 + 1)), (by first | rfl | (simp; done) | (simp [*]; done)), (by first | rfl | (simp; done) | (simp [*]; done)), H', ⟨by have := HK1.out; have := HK2.out; omega⟩, ⟨by (with_reducible repeat (first | apply Kd.R_alloc | apply Kd.R_drewN | apply Kd.R_drew)); exact HO_3.out⟩, ⟨by (with_reducible repeat (first | apply Kd.R_alloc | apply Kd.R_drewN | apply Kd.R_drew)); exact HO_4.out⟩, ⟨by repeat (first | (with_reducible first | exact HB.out | apply pA | apply pN | apply pD) | exact HB.out)⟩⟩
     rw [if_neg c14] at H
     have c14b0 : ((rd t141 x7_2) == (-2)) = false := beq_eq_false_iff_ne.mpr c14
     have c14b1 : ((rd t141 x7_2) != (-2)) = true := bne_iff_ne.mpr c14
     by_cases c16 : (rd t141 x7_2) > x5_1
     ·rw [if_pos c16] at H
      have c16b0 : decide (x5_1 < (rd t141 x7_2)) = true := decide_eq_true c16
      clear c16
      have H' := AZ.mk H
      clear H
      have p10 : 0 ≤ (x7_2 : Int) := oT (by first | (with_reducible assumption) | assumption)
      have q10 : x7_2 < (a0.size : Int) := oT (by first | (with_reducible assumption) | assumption)
      have hx10 := bt_at a0 x7_2
      replace p10 := eq_true p10
      replace q10 := eq_true q10
      go_wp2_with (first | ((with_reducible refine gate_callee (f := 59) rfl ?_); refine goesL_ (some 25) rfl rfl Try.func59 (by kernel_rfl) rfl #[.int .u8 (bt a0 x7_2)] rfl (by (try simp only [List.map_toArray, List.map_cons, List.map_nil]); first | done | rfl | (simp only [List.length_drop, List.length_take]; rfl)) ?_; (with_reducible refine (spec_l01Call.calls (bt a0 x7_2) true _ A11.out).mono ?_); rintro e w' ⟨rfl, ⟨nd, rfl⟩⟩; refine ⟨_, rfl, ?_⟩; obtain ⟨Ao17, co17, eo17⟩ := Kd.R_slice HO_3.out; subst eo17; have p148 : 0 ≤ (x7_2 : Int) := oT (by first | (with_reducible assumption) | assumption); have q148 : x7_2 < (t141.length : Int) := oT (by first | (with_reducible assumption) | assumption); obtain ⟨ad148, e148, hx148_0⟩ := Kd.at_int (Kd.R_reads' HO_3.out).2.2 x7_2 p148 q148; cases e148; replace p148 := eq_true p148; replace q148 := eq_true q148; have p149 : 0 ≤ (x7_2 : Int) := oT (by first | (with_reducible assumption) | assumption); have q149 : x7_2 < (t141.length : Int) := oT (by first | (with_reducible assumption) | assumption); obtain ⟨ad149, e149, hx149_0⟩ := Kd.at_int (Kd.R_reads' HO_3.out).2.2 x7_2 p149 q149; obtain rfl : ad148 = ad149 := (by injection e149); replace p149 := eq_true p149; replace q149 := eq_true q149))
      go_roundg k2
      case measure => have := HK1.out; have := HK2.out; omega
      case rel => exact ⟨(x7_2), (wrap64 (x7_2 + 1)), (by first | rfl | (simp; done) | (simp [*]; done)), (by first | rfl | (simp; done) | (simp [*]; done)), H', ⟨by have := HK1.out; have := HK2.out; omega⟩, ⟨by (with_reducible repeat (first | apply Kd.R_alloc | apply Kd.R_drewN | apply Kd.R_drew)); exact HO_3.out⟩, ⟨by (with_reducible repeat (first | apply Kd.R_alloc | apply Kd.R_drewN | apply Kd.R_drew)); exact HO_4.out⟩, ⟨by repeat (first | (with_reducible first | exact HB.out | apply pA | apply pN | apply pD) | exact HB.out)⟩⟩
     rw [if_neg c16] at H
     have c16b0 : decide (x5_1 < (rd t141 x7_2)) = false := decide_eq_false c16
     clear c16
     have H' := AZ.mk H
     clear H
     have p10 : 0 ≤ (x7_2 : Int) := oT (by first | (with_reducible assumption) | assumption)
     have q10 : x7_2 < (a0.size : Int) := oT (by first | (with_reducible assumption) | assumption)
     have hx10 := bt_at a0 x7_2
     replace p10 := eq_true p10
     replace q10 := eq_true q10
     go_wp2_with (first | ((with_reducible refine gate_callee (f := 59) rfl ?_); refine goesL_ (some 25) rfl rfl Try.func59 (by kernel_rfl) rfl #[.int .u8 (bt a0 x7_2)] rfl (by (try simp only [List.map_toArray, List.map_cons, List.map_nil]); first | done | rfl | (simp only [List.length_drop, List.length_take]; rfl)) ?_; (with_reducible refine (spec_l01Call.calls (bt a0 x7_2) true _ A11.out).mono ?_); rintro e w' ⟨rfl, ⟨nd, rfl⟩⟩; refine ⟨_, rfl, ?_⟩; obtain ⟨Ao18, co18, eo18⟩ := Kd.R_slice HO_3.out; subst eo18; have p148 : 0 ≤ (x7_2 : Int) := oT (by first | (with_reducible assumption) | assumption); have q148 : x7_2 < (t141.length : Int) := oT (by first | (with_reducible assumption) | assumption); obtain ⟨ad148, e148, hx148_0⟩ := Kd.at_int (Kd.R_reads' HO_3.out).2.2 x7_2 p148 q148; cases e148; replace p148 := eq_true p148; replace q148 := eq_true q148; have p149 : 0 ≤ (x7_2 : Int) := oT (by first | (with_reducible assumption) | assumption); have q149 : x7_2 < (t141.length : Int) := oT (by first | (with_reducible assumption) | assumption); obtain ⟨ad149, e149, hx149_0⟩ := Kd.at_int (Kd.R_reads' HO_3.out).2.2 x7_2 p149 q149; obtain rfl : ad148 = ad149 := (by injection e149); replace p149 := eq_true p149; replace q149 := eq_true q149))
     go_roundg k2
     case measure => have := HK1.out; have := HK2.out; omega
     case rel => exact ⟨(x6_2), (wrap64 (x7_2 + 1)), (by first | rfl | (simp; done) | (simp [*]; done)), (by first | rfl | (simp; done) | (simp [*]; done)), H', ⟨by have := HK1.out; have := HK2.out; omega⟩, ⟨by (with_reducible repeat (first | apply Kd.R_alloc | apply Kd.R_drewN | apply Kd.R_drew)); exact HO_3.out⟩, ⟨by (with_reducible repeat (first | apply Kd.R_alloc | apply Kd.R_drewN | apply Kd.R_drew)); exact HO_4.out⟩, ⟨by repeat (first | (with_reducible first | exact HB.out | apply pA | apply pN | apply pD) | exact HB.out)⟩⟩
end Go.Proofs.Yteeplponconnjaa.P
namespace Go.Proofs.Yteeplponconnjaa.P
open Go.RowKit Go.Proofs.YteeplponconnjaaW.PrintWords Go.Proofs.YteeplponconnjaaW.PrintLast Go.Proofs.YteeplponconnjaaW.PrintMore
attribute [local go_sem] max2_int min2_int max_two min_two max_three min_three max_four min_four
set_option linter.unusedVariables false
set_option linter.unusedSimpArgs false
def spec_l05Node.f (a0 : Int) : Option (Bool) := (spec_l01Return.f a0).bind fun t153 => (some (!t153))
set_option maxHeartbeats 8000000 in
set_option maxRecDepth 100000 in
theorem spec_l05Node.calls (a0 : Int) (r : Bool) (w : World) (h : spec_l05Node.f a0 = some r) :
  Calls Try.prog 49 #[.int .u8 a0] w fun e w' => e = .returned (.bool r) ∧ Drawn0 w w' := by
 have H : ((spec_l01Return.f a0).bind fun t153 => (some (!t153))) = some r := h
 clear h
 replace H := Option.bind_eq_some_iff.mp H
 obtain ⟨t153, A20, H⟩ := H
 replace H : (some (!t153)) = some r := H
 have A2 := AZ.mk A20
 clear A20
 obtain rfl := Option.some.inj H
 go_enter Try.func49, Try.ntmps49
 go_wp2_with (first | ((with_reducible refine gate_callee (f := 60) rfl ?_); refine goesL_ (some 4) rfl rfl Try.func60 (by kernel_rfl) rfl #[.int .u8 a0] rfl (by (try simp only [List.map_toArray, List.map_cons, List.map_nil]); first | done | rfl | (simp only [List.length_drop, List.length_take]; rfl)) ?_; (with_reducible refine (spec_l01Return.calls a0 t153 _ A2.out).mono ?_); rintro e w' ⟨rfl, ⟨nd, rfl⟩⟩; refine ⟨_, rfl, ?_⟩))
 go_ret
 exact ⟨by first | rfl | (simp; done) | (simp [*]; done), by repeat (first | exact Drawn0.refl _ | apply Drawn0.step)⟩
end Go.Proofs.Yteeplponconnjaa.P
namespace Go.Proofs.Yteeplponconnjaa.P
open Go.RowKit Go.Proofs.YteeplponconnjaaW.PrintWords Go.Proofs.YteeplponconnjaaW.PrintLast Go.Proofs.YteeplponconnjaaW.PrintMore
attribute [local go_sem] max2_int min2_int max_two min_two max_three min_three max_four min_four
set_option linter.unusedVariables false
set_option linter.unusedSimpArgs false
def spec_l05Passes.f (a0 : ByteArray) (a1 : Int) : Option (Bool) := if a0.toList = ([42] : List UInt8) then ((spec_l01Call.f a1).bind fun t154 => (some t154)) else (if a0.toList = ([46] : List UInt8) then (if a1 = 97 then (some true) else (some (a1 == 98))) else (some (a0.toList == (strOfNums (([a1] : List Int))).toList)))
set_option maxHeartbeats 8000000 in
set_option maxRecDepth 100000 in
theorem spec_l05Passes.calls (a0 : ByteArray) (a1 : Int) (r : Bool) (w : World) (h : spec_l05Passes.f a0 a1 = some r) :
  Calls Try.prog 50 #[.string a0, .int .u8 a1] w fun e w' => e = .returned (.bool r) ∧ Below w.heap.size w w' := by
 have HB := AZ.mk (Below.refl w.heap.size w)
 have H : (if a0.toList = ([42] : List UInt8) then ((spec_l01Call.f a1).bind fun t154 => (some t154)) else (if a0.toList = ([46] : List UInt8) then (if a1 = 97 then (some true) else (some (a1 == 98))) else (some (a0.toList == (strOfNums (([a1] : List Int))).toList)))) = some r := h
 clear h
 by_cases c3 : a0.toList = ([42] : List UInt8)
 ·rw [if_pos c3] at H
  have c3b0 : (a0.toList == ([42] : List UInt8)) = true := beq_iff_eq.mpr c3
  have c3b1 : (a0.toList != ([42] : List UInt8)) = false := bne_eq_false_iff_eq.mpr c3
  clear c3
  replace H := Option.bind_eq_some_iff.mp H
  obtain ⟨t154, A40, H⟩ := H
  replace H : (some t154) = some r := H
  have A4 := AZ.mk A40
  clear A40
  obtain rfl := Option.some.inj H
  go_enter Try.func50, Try.ntmps50
  go_wp2_with (first | ((with_reducible refine gate_callee (f := 59) rfl ?_); refine goesL_ (some 9) rfl rfl Try.func59 (by kernel_rfl) rfl #[.int .u8 a1] rfl (by (try simp only [List.map_toArray, List.map_cons, List.map_nil]); first | done | rfl | (simp only [List.length_drop, List.length_take]; rfl)) ?_; (with_reducible refine (spec_l01Call.calls a1 t154 _ A4.out).mono ?_); rintro e w' ⟨rfl, ⟨nd, rfl⟩⟩; refine ⟨_, rfl, ?_⟩))
  go_ret
  exact ⟨by first | rfl | (simp [errW_none, errW_some] <;> rfl) | (simp [*, errW_none, errW_some] <;> rfl), by repeat (first | (with_reducible first | exact HB.out | apply pA | apply pN | apply pD) | exact HB.out)⟩
 rw [if_neg c3] at H
 have c3b0 : (a0.toList == ([42] : List UInt8)) = false := beq_eq_false_iff_ne.mpr c3
 have c3b1 : (a0.toList != ([42] : List UInt8)) = true := bne_iff_ne.mpr c3
 by_cases c5 : a0.toList = ([46] : List UInt8)
 ·rw [if_pos c5] at H
  have c5b0 : (a0.toList == ([46] : List UInt8)) = true := beq_iff_eq.mpr c5
  have c5b1 : (a0.toList != ([46] : List UInt8)) = false := bne_eq_false_iff_eq.mpr c5
  clear c5
  by_cases c6 : a1 = 97
  rotate_left
  ·rw [if_neg c6] at H
   have c6b0 : (a1 == 97) = false := beq_eq_false_iff_ne.mpr c6
   have c6b1 : (a1 != 97) = true := bne_iff_ne.mpr c6
   obtain rfl := Option.some.inj H
   go_enter Try.func50, Try.ntmps50
   go_wp2
   go_ret
   exact ⟨by first | rfl | (simp [errW_none, errW_some] <;> rfl) | (simp [*, errW_none, errW_some] <;> rfl), by repeat (first | (with_reducible first | exact HB.out | apply pA | apply pN | apply pD) | exact HB.out)⟩
  rw [if_pos c6] at H
  have c6b0 : (a1 == 97) = true := beq_iff_eq.mpr c6
  have c6b1 : (a1 != 97) = false := bne_eq_false_iff_eq.mpr c6
  clear c6
  obtain rfl := Option.some.inj H
  go_enter Try.func50, Try.ntmps50
  go_wp2
  go_ret
  exact ⟨by first | rfl | (simp [errW_none, errW_some] <;> rfl) | (simp [*, errW_none, errW_some] <;> rfl), by repeat (first | (with_reducible first | exact HB.out | apply pA | apply pN | apply pD) | exact HB.out)⟩
 rw [if_neg c5] at H
 have c5b0 : (a0.toList == ([46] : List UInt8)) = false := beq_eq_false_iff_ne.mpr c5
 have c5b1 : (a0.toList != ([46] : List UInt8)) = true := bne_iff_ne.mpr c5
 obtain ⟨y155, hy155⟩ : ∃ y_ : List Int, y_ = (([a1] : List Int)) := ⟨_, rfl⟩
 replace H : (some (a0.toList == (strOfNums y155).toList)) = some r := by first | (rw [hy155]; with_reducible exact H) | (have H2_ := (Option.bind_some _ _).symm.trans H; rw [hy155]; with_reducible exact H2_) | (have H2_ := (Option.bind_some _ _).symm.trans H; with_reducible exact H2_) | with_reducible exact H | (rw [hy155]; exact H) | exact H
 have Ny155 := AZ.mk hy155
 clear hy155
 obtain rfl := Option.some.inj H
 go_enter Try.func50, Try.ntmps50
 go_wp2_with (first | ((with_reducible refine gate_dst (N := 20) rfl ?_); refine Kd.R_lit (Kd.int .u8) _ 5 ?hg (N := 20) ?hd (xs := ([a1] : List Int)) (inner := [.int .u8 a1]) (ok := fun _ => True) (okp := fun _ => True) ?hr ?hp (fun _ hk => hk) trivial (Below.refl _ _) (Nat.le_refl _) (by simp) ?_; (case hd => rfl); (case hg => rfl); (case hr => first | (go_simp; done) | (go_simp; rfl)); (case hp => exact (Reps.one (show Kd.M (Kd.int .u8) _ _ _ a1 [.int .u8 a1] from rfl) (Reps.none _ _))); intro v156 w7 ho8 hb hg_ hnew_; clear hg_ hnew_; (first | rw [← Ny155.out] at ho8 | (simp only [Int.reduceToNat] at ho8; rw [← Ny155.out] at ho8)); have n0_ := AZ.mk (Kd.R_lower ho8 (pZ (by repeat (first | (with_reducible first | exact HB.out | apply pA | apply pN | apply pD) | exact HB.out)))); have n1_ := AZ.mk (pT (by repeat (first | (with_reducible first | exact HB.out | apply pA | apply pN | apply pD) | exact HB.out)) hb); clear HB; have HO157 := n0_; have HB := n1_; clear n0_ n1_; clear hb ho8; have hcv9 := own_string (P := Try.prog) Try.underlying82 Try.underlying5 Try.underlying9 (Kd.own_of_R HO157.out)))
 go_ret
 exact ⟨by first | rfl | (simp [errW_none, errW_some] <;> rfl) | (simp [*, errW_none, errW_some] <;> rfl), by repeat (first | (with_reducible first | exact HB.out | apply pA | apply pN | apply pD) | exact HB.out)⟩
end Go.Proofs.Yteeplponconnjaa.P
namespace Go.Proofs.Yteeplponconnjaa.P
open Go.RowKit Go.Proofs.YteeplponconnjaaW.PrintWords Go.Proofs.YteeplponconnjaaW.PrintLast Go.Proofs.YteeplponconnjaaW.PrintMore
attribute [local go_sem] max2_int min2_int max_two min_two max_three min_three max_four min_four
set_option linter.unusedVariables false
set_option linter.unusedSimpArgs false
mutual
def spec_l05Marks.l0 : Nat → ByteArray → List Int → List (List Bool) → Int → List (S62) → Option ((List (List Bool)))
 | 0, _, _, _, _, _ => none
 | k + 1, x1, x5, x6, x7, x1000 => if x7 < (x1.size : Int) then (if 0 ≤ (x1000.length : Int) then (if ((x1000.length : Int) : Int).toNat ≤ 281474976710656 then (spec_l05Marks.l1 k x1 x5 x6 x7 (List.replicate ((x1000.length : Int) : Int).toNat false) 0 x1000) else (none)) else (none)) else (some x6)
def spec_l05Marks.l1 : Nat → ByteArray → List Int → List (List Bool) → Int → List Bool → Int → List (S62) → Option ((List (List Bool)))
 | 0, _, _, _, _, _, _, _ => none
 | k + 1, x1, x5, x6, x7, x8, x9, x1000 => if x9 < (x1000.length : Int) then (if 0 ≤ x7 then (if x7 < (x1.size : Int) then ((spec_l05Node.f (bt x1 x7)).bind fun t167 => (spec_l05Marks.j2 k x1 x5 x6 x7 x8 x9 t167 x1000)) else (none)) else (none)) else (spec_l05Marks.j2 k x1 x5 x6 x7 x8 x9 false x1000)
def spec_l05Marks.j2 : Nat → ByteArray → List Int → List (List Bool) → Int → List Bool → Int → Bool → List (S62) → Option ((List (List Bool)))
 | 0, _, _, _, _, _, _, _, _ => none
 | k + 1, x1, x5, x6, x7, x8, x9, x38, x1000 => if x38 = true then (if 0 ≤ x9 then (if x9 < (x1000.length : Int) then (if 0 ≤ x7 then (if x7 < (x1.size : Int) then ((spec_l05Passes.f ((rd_T62 x1000 x9).f1) (bt x1 x7)).bind fun t172 => (if t172 = true then (if x9 = 0 then (if 0 < (x1000.length : Int) then (if (rd_T62 x1000 0).f0 = true then (if 0 < (x8.length : Int) then (spec_l05Marks.l1 k x1 x5 x6 x7 (x8.set (0 : Int).toNat true) (wrap64 (x9 + 1)) x1000) else (none)) else (if x7 < (x5.length : Int) then (if 0 < (x8.length : Int) then (spec_l05Marks.l1 k x1 x5 x6 x7 (x8.set (0 : Int).toNat (decide ((rd x5 x7) < 0))) (wrap64 (x9 + 1)) x1000) else (none)) else (none))) else (none)) else (if x7 < (x5.length : Int) then (spec_l05Marks.l2 k x1 x5 x6 x7 x8 x9 (rd x5 x7) x1000) else (none))) else (spec_l05Marks.l1 k x1 x5 x6 x7 x8 (wrap64 (x9 + 1)) x1000))) else (none)) else (none)) else (none)) else (none)) else (if x6.length < 5864062014805 then (spec_l05Marks.l0 k x1 x5 (x6 ++ [x8]) (wrap64 (x7 + 1)) x1000) else (none))
def spec_l05Marks.l2 : Nat → ByteArray → List Int → List (List Bool) → Int → List Bool → Int → Int → List (S62) → Option ((List (List Bool)))
 | 0, _, _, _, _, _, _, _, _ => none
 | k + 1, x1, x5, x6, x7, x8, x9, x10, x1000 => if x10 ≥ 0 then (if 0 ≤ x10 then (if x10 < (x6.length : Int) then (if 0 ≤ (wrap64 (x9 - 1)) then (if (wrap64 (x9 - 1)) < ((rd_L6 x6 x10).length : Int) then (if rdOf false (rd_L6 x6 x10) (wrap64 (x9 - 1)) = true then (if 0 ≤ x9 then (if x9 < (x8.length : Int) then ((some (x8.set (x9 : Int).toNat true : List Bool)).bind fun y180 => (if x9 < (x1000.length : Int) then (if ((rd_T62 x1000 x9).f0 = true) then (if x10 < (x5.length : Int) then (spec_l05Marks.l2 k x1 x5 x6 x7 y180 x9 (rd x5 x10) x1000) else (none)) else (spec_l05Marks.l1 k x1 x5 x6 x7 y180 (wrap64 (x9 + 1)) x1000)) else (none))) else (none)) else (none)) else (if 0 ≤ x9 then (if x9 < (x1000.length : Int) then (if ((rd_T62 x1000 x9).f0 = true) then (if x10 < (x5.length : Int) then (spec_l05Marks.l2 k x1 x5 x6 x7 x8 x9 (rd x5 x10) x1000) else (none)) else (spec_l05Marks.l1 k x1 x5 x6 x7 x8 (wrap64 (x9 + 1)) x1000)) else (none)) else (none))) else (none)) else (none)) else (none)) else (none)) else (spec_l05Marks.l1 k x1 x5 x6 x7 x8 (wrap64 (x9 + 1)) x1000)
end
def spec_l05Marks.f (k : Nat) (l0_0 : List (S62)) (a1 : ByteArray) : Option ((List (List Bool))) := (spec_l01Parents.f k a1).bind fun t158 => (spec_l05Marks.l0 k a1 t158 (([] : List (List Bool))) 0 l0_0)
def spec_l05Marks.T10 : Bool × List (List Nat × List Nat) := (true, [([], []), ([0], [0]), ([1], [1]), ([2], [2]), ([], []), ([3, 4], [3, 4]), ([5], [5]), ([6], [6]), ([], []), ([], []), ([8, 9], [8, 9]), ([7, 10], [7, 10]), ([11], [11])])
def spec_l05Marks.B10 : List Nat := [0, 1, 3, 7, 0, 31, 63, 127, 0, 0, 768, 2047, 4095]
theorem spec_l05Marks.tab10 : rtab .any (opsOf Try.f30 10) = spec_l05Marks.T10 := by kernel_rfl
theorem spec_l05Marks.bits10 : waitsOk spec_l05Marks.T10.2 spec_l05Marks.B10 = true := by kernel_rfl
def spec_l05Marks.cz0 : List Nat := [0, 1, 2, 4, 8, 9, 403, 5, 6, 407, 410]
set_option maxHeartbeats 8000000 in
set_option maxRecDepth 100000 in
theorem spec_l05Marks.calls (k : Nat) (g0_ : Nat) (A0_0 : Option Addr) (c0_0 : Nat) (l0_0 : List (S62)) (a1 : ByteArray) (r : List (List Bool)) (w : World) (hr0_0 : Kd.C k62 w A0_0 l0_0.length l0_0) (hc0_0 : l0_0.length ≤ c0_0) (hbk0_0 : w.heap[g0_]? = some (.cells #[.slice A0_0 l0_0.length c0_0] 30 (0, 0))) (h : spec_l05Marks.f k l0_0 a1 = some r) :
  Calls Try.prog 30 #[.pointer (some ⟨g0_, 0, none⟩), .string a1] w fun e w' => ∃ v0_ : Value, e = .returned (v0_) ∧ Kd.S (Kd.slice 4 Kd.bool) 61 w' w.heap.size (fun _ => True) v0_ r ∧ Below w.heap.size w w' := by
 have HR0_0 := AZ.mk hr0_0
 have HC0_0 := AZ.mk hc0_0
 clear hr0_0 hc0_0
 have BK0 := AZ.mk hbk0_0
 clear hbk0_0
 have HB := AZ.mk (Below.refl w.heap.size w)
 have H : ((spec_l01Parents.f k a1).bind fun t158 => (spec_l05Marks.l0 k a1 t158 (([] : List (List Bool))) 0 l0_0)) = some r := h
 clear h
 replace H := Option.bind_eq_some_iff.mp H
 obtain ⟨t158, A30, H⟩ := H
 replace H : (spec_l05Marks.l0 k a1 t158 (([] : List (List Bool))) 0 l0_0) = some r := H
 have A3 := AZ.mk A30
 clear A30
 obtain ⟨y161, hy161⟩ : ∃ y_ : List (List Bool), y_ = (([] : List (List Bool))) := ⟨_, rfl⟩
 replace H : (spec_l05Marks.l0 k a1 t158 y161 0 l0_0) = some r := by first | (rw [hy161]; with_reducible exact H) | (have H2_ := (Option.bind_some _ _).symm.trans H; rw [hy161]; with_reducible exact H2_) | (have H2_ := (Option.bind_some _ _).symm.trans H; with_reducible exact H2_) | with_reducible exact H | (rw [hy161]; exact H) | exact H
 have Ny161 := AZ.mk hy161
 clear hy161
 have H' := AZ.mk H
 clear H
 go_enter Try.func30, Try.ntmps30
 go_wp2_with (first | ((with_reducible refine gate_callee (f := 48) rfl ?_); refine goesL_ (some 12) rfl rfl Try.func48 (by kernel_rfl) rfl #[.string a1] rfl (by (try simp only [List.map_toArray, List.map_cons, List.map_nil]); first | done | rfl | (simp only [List.length_drop, List.length_take]; rfl)) ?_; (with_reducible refine (spec_l01Parents.calls k a1 t158 _ A3.out).mono ?_); rintro e w4 ⟨v159, rfl, ho0, hb⟩; refine ⟨_, rfl, ?_⟩; have n0_ := AZ.mk (Kd.R_lower ho0 (pZ (by repeat (first | (with_reducible first | exact HB.out | apply pA | apply pN | apply pD | refine pS ?_ GE0.out) | exact HB.out)))); have n1_ := AZ.mk (bb_ (g := g0_) (o := .cells #[.slice A0_0 l0_0.length c0_0] 30 (0, 0)) (by (with_reducible repeat (first | refine bn_ ?_ _ | refine bd_ ?_ | refine ba_ ?_ _)); exact BK0.out) hb); have n2_ := AZ.mk (pT (by repeat (first | (with_reducible first | exact HB.out | apply pA | apply pN | apply pD | refine pS ?_ GE0.out) | exact HB.out)) hb); clear BK0; clear HB; have HO160 := n0_; have BK0 := n1_; have HB := n2_; clear n0_ n1_ n2_; (try clear hb); (try clear hb2); (try clear hk); (try clear hi); (try clear ho0)) | ((with_reducible refine gate_dst (N := 13) rfl ?_); refine Kd.S_lit (Kd.slice 4 Kd.bool) _ 61 ?hg (N := 13) ?hd (xs := ([] : List (List Bool))) (inner := []) (ok := fun _ => True) (okp := fun _ => True) ?hr ?hp (fun _ hk => hk) trivial (Below.refl _ _) (Nat.le_refl _) (by simp) ?_; (case hd => rfl); (case hg => rfl); (case hr => first | (go_simp; done) | (go_simp; rfl)); (case hp => exact (Reps.none _ _)); intro v162 w5 ho6 hb hg_ hnew_; clear hg_ hnew_; (first | rw [← Ny161.out] at ho6 | (simp only [Int.reduceToNat] at ho6; rw [← Ny161.out] at ho6)); have n0_ := AZ.mk (Kd.R_below (by (with_reducible repeat (first | apply Kd.R_alloc | apply Kd.R_drewN | apply Kd.R_drew)); exact HO160.out) hb); have n1_ := AZ.mk (Kd.S_lower ho6 (pZ (by repeat (first | (with_reducible first | exact HB.out | apply pA | apply pN | apply pD | refine pS ?_ GE0.out) | exact HB.out)))); have n2_ := AZ.mk (bb_ (g := g0_) (o := .cells #[.slice A0_0 l0_0.length c0_0] 30 (0, 0)) (by (with_reducible repeat (first | refine bn_ ?_ _ | refine bd_ ?_ | refine ba_ ?_ _)); exact BK0.out) hb); have n3_ := AZ.mk (pT (by repeat (first | (with_reducible first | exact HB.out | apply pA | apply pN | apply pD | refine pS ?_ GE0.out) | exact HB.out)) hb); clear HO160; clear BK0; clear HB; have HO160 := n0_; have HO163 := n1_; have BK0 := n2_; have HB := n3_; clear n0_ n1_ n2_ n3_; clear hb ho6))
 go_loopg [6, 7] k (fun kq v6 v7 w' => ∃ (x6_1 : List (List Bool)) (x7_1 : Int), v7 = .int .i64 x7_1 ∧ AZ (spec_l05Marks.l0 kq a1 t158 x6_1 x7_1 l0_0 = some r) ∧ AZ (kq ≤ k) ∧ AZ (Kd.R (Kd.int .i64) 2 w' w.heap.size (fun _ => True) v159 t158) ∧ AZ (Kd.S (Kd.slice 4 Kd.bool) 61 w' w.heap.size (fun _ => True) v6 x6_1) ∧ AZ (w'.heap[g0_]? = some (.cells #[(.slice A0_0 l0_0.length c0_0)] 30 (0, 0))) ∧ AZ (Below w.heap.size w w'))
 case atStart => exact ⟨(y161), (0), (by first | rfl | (simp; done) | (simp [*]; done)), H', ⟨Nat.le_refl _⟩, ⟨by (with_reducible repeat (first | apply Kd.R_alloc | apply Kd.R_drewN | apply Kd.R_drew)); exact HO160.out⟩, ⟨by (with_reducible repeat (first | apply Kd.S_alloc | apply Kd.S_drewN | apply Kd.S_drew)); exact HO163.out⟩, ⟨by (with_reducible repeat (first | refine bn_ ?_ _ | refine bd_ ?_ | refine ba_ ?_ _)); exact BK0.out⟩, ⟨by repeat (first | (with_reducible first | exact HB.out | apply pA | apply pN | apply pD | refine pS ?_ GE0.out) | exact HB.out)⟩⟩
 case round =>
  clear H'
  try clear p2
  try clear c3
  try clear c4
  obtain ⟨x6_1, x7_1, rfl, HA, HK1, HO_5, HO_6, BK0, HB⟩ := hrel
  cases gk with
  | zero => exact absurd HA.out (by simp [spec_l05Marks.l0])
  | succ k1 =>
   have H := HA.out
   clear HA
   simp only [spec_l05Marks.l0] at H
   by_cases c7 : x7_1 < (a1.size : Int)
   rotate_left
   ·rw [if_neg c7] at H
    have c7b0 : decide (x7_1 < (a1.size : Int)) = false := decide_eq_false c7
    clear c7
    obtain rfl := Option.some.inj H
    go_wp2
    go_ret
    exact ⟨_, by first | rfl | (simp [errW_none, errW_some] <;> rfl) | (simp [*, errW_none, errW_some] <;> rfl), by (with_reducible repeat (first | apply Kd.S_alloc | apply Kd.S_drewN | apply Kd.S_drew)); exact HO_6.out, by repeat (first | (with_reducible first | exact HB.out | apply pA | apply pN | apply pD | refine pS ?_ GE0.out) | exact HB.out)⟩
   rw [if_pos c7] at H
   have c7b0 : decide (x7_1 < (a1.size : Int)) = true := decide_eq_true c7
   clear c7
   by_cases c8 : 0 ≤ (l0_0.length : Int)
   rotate_left
   ·rw [if_neg c8] at H
    exact absurd H (by simp)
   rw [if_pos c8] at H
   have c8b0 := eq_true c8
   have c8b1 : decide (0 ≤ (l0_0.length : Int)) = true := decide_eq_true c8
   clear c8
   by_cases c9 : ((l0_0.length : Int) : Int).toNat ≤ 281474976710656
   rotate_left
   ·rw [if_neg c9] at H
    exact absurd H (by simp)
   rw [if_pos c9] at H
   have c9b0 := eq_true c9
   have c9b1 : decide (((l0_0.length : Int) : Int).toNat ≤ 281474976710656) = true := decide_eq_true c9
   clear c9
   obtain ⟨y164, hy164⟩ : ∃ y_ : List Bool, y_ = (List.replicate ((l0_0.length : Int) : Int).toNat false) := ⟨_, rfl⟩
   replace H : (spec_l05Marks.l1 k1 a1 t158 x6_1 x7_1 y164 0 l0_0) = some r := by first | (rw [hy164]; with_reducible exact H) | (have H2_ := (Option.bind_some _ _).symm.trans H; rw [hy164]; with_reducible exact H2_) | (have H2_ := (Option.bind_some _ _).symm.trans H; with_reducible exact H2_) | with_reducible exact H | (rw [hy164]; exact H) | exact H
   have Ny164 := AZ.mk hy164
   clear hy164
   have H' := AZ.mk H
   clear H
   have hcz10_0 : wr.cell? ⟨g0_, 0, none⟩ = some (.slice A0_0 l0_0.length c0_0) := (bc BK0.out 0).trans rfl
   have hfz10_0 := bf BK0.out 0
   go_wp2_with (first | ((with_reducible refine gate_dst (N := 25) rfl ?_); refine Kd.R_make Kd.bool _ 4 rfl (N := 25) rfl 61 _ _ rfl (l0_0.length : Int) rfl rfl Try.underlying61 (.bool false) 1 info4 rfl (by decide) (by omega) false (ok := fun _ => True) (okp := fun _ => True) rfl (fun _ hk => hk) trivial (oT (by first | (with_reducible assumption) | assumption)) (Nat.le_trans (Nat.mul_le_mul_right _ (oT (by first | (with_reducible assumption) | assumption) : (l0_0.length : Int).toNat ≤ 281474976710656)) (by omega)) (Below.refl _ _) (Nat.le_refl _) ?_; intro v165 w11 ho12 hb hg_ hnew_; clear hg_ hnew_; (first | rw [← Ny164.out] at ho12 | (simp only [Int.reduceToNat] at ho12; rw [← Ny164.out] at ho12)); have n0_ := AZ.mk (Kd.R_below (by (with_reducible repeat (first | apply Kd.R_alloc | apply Kd.R_drewN | apply Kd.R_drew)); exact HO_5.out) hb); have n1_ := AZ.mk (Kd.S_elder' (by (with_reducible repeat (first | apply Kd.S_alloc | apply Kd.S_drewN | apply Kd.S_drew)); exact HO_6.out) (Kd.R_base ho12) hb); have n2_ := AZ.mk (Kd.R_lower ho12 (pZ (by repeat (first | (with_reducible first | exact HB.out | apply pA | apply pN | apply pD | refine pS ?_ GE0.out) | exact HB.out)))); have n3_ := AZ.mk (bb_ (g := g0_) (o := .cells #[.slice A0_0 l0_0.length c0_0] 30 (0, 0)) (by (with_reducible repeat (first | refine bn_ ?_ _ | refine bd_ ?_ | refine ba_ ?_ _)); exact BK0.out) hb); have n4_ := AZ.mk (pT (by repeat (first | (with_reducible first | exact HB.out | apply pA | apply pN | apply pD | refine pS ?_ GE0.out) | exact HB.out)) hb); clear HO_5; clear HO_6; clear BK0; clear HB; have HO_5 := n0_; have HO_6 := n1_; have HO166 := n2_; have BK0 := n3_; have HB := n4_; clear n0_ n1_ n2_ n3_ n4_; clear hb ho12))
   go_loopg [9] k1 (fun kq v9 w' => ∃ (x8_2 : List Bool) (x9_2 : Int), v9 = .int .i64 x9_2 ∧ AZ (spec_l05Marks.l1 kq a1 t158 x6_1 x7_1 x8_2 x9_2 l0_0 = some r) ∧ AZ (kq ≤ k1) ∧ AZ (Kd.R (Kd.int .i64) 2 w' w.heap.size (fun _ => True) v159 t158) ∧ AZ (Kd.S (Kd.slice 4 Kd.bool) 61 w' w.heap.size (fun k_ => some k_ ≠ (v165 : Value).ownBlock) u6 x6_1) ∧ AZ (Kd.R Kd.bool 4 w' w.heap.size (fun _ => True) v165 x8_2) ∧ AZ (w'.heap[g0_]? = some (.cells #[(.slice A0_0 l0_0.length c0_0)] 30 (0, 0))) ∧ AZ (Below w.heap.size w w'))
   case atStart => exact ⟨(y164), (0), (by first | rfl | (simp; done) | (simp [*]; done)), H', ⟨Nat.le_refl _⟩, ⟨by (with_reducible repeat (first | apply Kd.R_alloc | apply Kd.R_drewN | apply Kd.R_drew)); exact HO_5.out⟩, ⟨by (with_reducible repeat (first | apply Kd.S_alloc | apply Kd.S_drewN | apply Kd.S_drew)); exact Kd.S_mono HO_6.out (fun _ hk => hk.2)⟩, ⟨by (with_reducible repeat (first | apply Kd.R_alloc | apply Kd.R_drewN | apply Kd.R_drew)); exact HO166.out⟩, ⟨by (with_reducible repeat (first | refine bn_ ?_ _ | refine bd_ ?_ | refine ba_ ?_ _)); exact BK0.out⟩, ⟨by repeat (first | (with_reducible first | exact HB.out | apply pA | apply pN | apply pD | refine pS ?_ GE0.out) | exact HB.out)⟩⟩
   case round =>
    clear H'
    try clear p2
    try clear c3
    try clear c4
    try clear c7
    try clear c7b0
    try clear c8
    try clear c8b0
    try clear c8b1
    try clear c9
    try clear c9b0
    try clear c9b1
    try clear hcz10_0
    try clear hfz10_0
    try clear p2
    obtain ⟨x8_2, x9_2, rfl, HA, HK2, HO_5, HO_6, HO_8, BK0, HB⟩ := hrel
    cases gk with
    | zero => exact absurd HA.out (by simp [spec_l05Marks.l1])
    | succ k2 =>
     have H := HA.out
     clear HA
     simp only [spec_l05Marks.l1] at H
     have HC13 := AZ.mk H
     clear H
     go_upto_region 8 with (fail)
     go_cut [38] (fun v38 wc => ∃ (kq : Nat) (x38_12 : Bool), v38 = .bool x38_12 ∧ AZ (spec_l05Marks.j2 kq a1 t158 x6_1 x7_1 x8_2 x9_2 x38_12 l0_0 = some r) ∧ AZ (kq ≤ k2) ∧ AZ (Kd.R (Kd.int .i64) 2 wc w.heap.size (fun _ => True) v159 t158) ∧ AZ (Kd.S (Kd.slice 4 Kd.bool) 61 wc w.heap.size (fun k_ => some k_ ≠ (v165 : Value).ownBlock) u6 x6_1) ∧ AZ (Kd.R Kd.bool 4 wc w.heap.size (fun _ => True) v165 x8_2) ∧ AZ (wc.heap[g0_]? = some (.cells #[(.slice A0_0 l0_0.length c0_0)] 30 (0, 0))) ∧ AZ (Below w.heap.size w wc))
     case first =>
      have H := HC13.out
      clear HC13
      by_cases c14 : x9_2 < (l0_0.length : Int)
      rotate_left
      ·rw [if_neg c14] at H
       have c14b0 : decide (x9_2 < (l0_0.length : Int)) = false := decide_eq_false c14
       clear c14
       (first | rw [c14b0] | rw [c14b1] | (simp only [i64_w, i32_w]; rw [c14b0]) | skip)
       have H' := AZ.mk H
       clear H
       have hcz20_0 : wr.cell? ⟨g0_, 0, none⟩ = some (.slice A0_0 l0_0.length c0_0) := (bc BK0.out 0).trans rfl
       have hfz20_0 := bf BK0.out 0
       go_wp2
       go_meet
       case rel => exact ⟨_, (false), (by first | rfl | (simp; done) | (simp [*]; done)), H', ⟨by have := HK1.out; have := HK2.out; first | omega | exact Nat.le_refl _⟩, ⟨by (with_reducible repeat (first | apply Kd.R_alloc | apply Kd.R_drewN | apply Kd.R_drew)); exact HO_5.out⟩, ⟨by (with_reducible repeat (first | apply Kd.S_alloc | apply Kd.S_drewN | apply Kd.S_drew)); exact HO_6.out⟩, ⟨by (with_reducible repeat (first | apply Kd.R_alloc | apply Kd.R_drewN | apply Kd.R_drew)); exact HO_8.out⟩, ⟨by (with_reducible repeat (first | refine bn_ ?_ _ | refine bd_ ?_ | refine ba_ ?_ _)); exact BK0.out⟩, ⟨by repeat (first | (with_reducible first | exact HB.out | apply pA | apply pN | apply pD | refine pS ?_ GE0.out) | exact HB.out)⟩⟩
      rw [if_pos c14] at H
      have c14b0 : decide (x9_2 < (l0_0.length : Int)) = true := decide_eq_true c14
      clear c14
      (first | rw [c14b0] | rw [c14b1] | (simp only [i64_w, i32_w]; rw [c14b0]) | skip)
      by_cases c15 : 0 ≤ x7_1
      rotate_left
      ·rw [if_neg c15] at H
       exact absurd H (by simp)
      rw [if_pos c15] at H
      have c15b0 : decide (0 ≤ x7_1) = true := decide_eq_true c15
      clear c15
      by_cases c16 : x7_1 < (a1.size : Int)
      rotate_left
      ·rw [if_neg c16] at H
       exact absurd H (by simp)
      rw [if_pos c16] at H
      have c16b0 : decide (x7_1 < (a1.size : Int)) = true := decide_eq_true c16
      clear c16
      replace H := Option.bind_eq_some_iff.mp H
      obtain ⟨t167, A180, H⟩ := H
      replace H : (spec_l05Marks.j2 k2 a1 t158 x6_1 x7_1 x8_2 x9_2 t167 l0_0) = some r := H
      have A18 := AZ.mk A180
      clear A180
      have H' := AZ.mk H
      clear H
      have hcz19_0 : wr.cell? ⟨g0_, 0, none⟩ = some (.slice A0_0 l0_0.length c0_0) := (bc BK0.out 0).trans rfl
      have hfz19_0 := bf BK0.out 0
      have p17 : 0 ≤ (x7_1 : Int) := oT (by first | (with_reducible assumption) | assumption)
      have q17 : x7_1 < (a1.size : Int) := oT (by first | (with_reducible assumption) | assumption)
      have hx17 := bt_at a1 x7_1
      replace p17 := eq_true p17
      replace q17 := eq_true q17
      go_wp2_with (first | (go_at_call 49; (with_reducible refine (spec_l05Node.calls (bt a1 x7_1) t167 _ A18.out).mono ?_); rintro e w' ⟨rfl, ⟨nd, rfl⟩⟩))
      go_meet
      case rel => exact ⟨_, (t167), (by first | rfl | (simp; done) | (simp [*]; done)), H', ⟨by have := HK1.out; have := HK2.out; first | omega | exact Nat.le_refl _⟩, ⟨by (with_reducible repeat (first | apply Kd.R_alloc | apply Kd.R_drewN | apply Kd.R_drew)); exact HO_5.out⟩, ⟨by (with_reducible repeat (first | apply Kd.S_alloc | apply Kd.S_drewN | apply Kd.S_drew)); exact HO_6.out⟩, ⟨by (with_reducible repeat (first | apply Kd.R_alloc | apply Kd.R_drewN | apply Kd.R_drew)); exact HO_8.out⟩, ⟨by (with_reducible repeat (first | refine bn_ ?_ _ | refine bd_ ?_ | refine ba_ ?_ _)); exact BK0.out⟩, ⟨by repeat (first | (with_reducible first | exact HB.out | apply pA | apply pN | apply pD | refine pS ?_ GE0.out) | exact HB.out)⟩⟩
     case rest =>
      clear HC13
      try clear c1
      try clear p1
      try clear q1
      try clear hx1
      try clear p2
      try clear c3
      try clear c4
      try clear c7
      try clear c7b0
      try clear c8
      try clear c8b0
      try clear c8b1
      try clear c9
      try clear c9b0
      try clear c9b1
      try clear c14
      try clear c14b0
      try clear c14b1
      try clear c15
      try clear c15b0
      try clear c16
      try clear c16b0
      try clear p17
      try clear q17
      try clear hx17
      try clear hcz10_0
      try clear hcz19_0
      try clear hcz20_0
      try clear hfz10_0
      try clear hfz19_0
      try clear hfz20_0
      try clear p17
      try clear p2
      try clear q17
      obtain ⟨kq, x38_12, rfl, HA, HJ12, HO_5, HO_6, HO_8, BK0, HB⟩ := hcut
      cases kq with
      | zero => exact absurd HA.out (by simp [spec_l05Marks.j2])
      | succ kj12 =>
       have H := HA.out
       clear HA
       simp only [spec_l05Marks.j2] at H
       by_cases c21 : x38_12 = true
       rotate_left
       ·replace c21 := Bool.eq_false_iff.mpr c21
        subst c21
        have H1 : (if x6_1.length < 5864062014805 then (spec_l05Marks.l0 kj12 a1 t158 (x6_1 ++ [x8_2]) (wrap64 (x7_1 + 1)) l0_0) else (none)) = some r := by rw [if_neg (show ¬ (false = true) by decide)] at H; exact H
        clear H
        have H := H1
        clear H1
        by_cases c87 : x6_1.length < 5864062014805
        rotate_left
        ·rw [if_neg c87] at H
         exact absurd H (by simp)
        rw [if_pos c87] at H
        have LMc87 := AZ.mk c87
        clear c87
        obtain ⟨y168, hy168⟩ : ∃ y_ : List (List Bool), y_ = (x6_1 ++ [x8_2]) := ⟨_, rfl⟩
        replace H : (spec_l05Marks.l0 kj12 a1 t158 y168 (wrap64 (x7_1 + 1)) l0_0) = some r := by first | (rw [hy168]; with_reducible exact H) | (have H2_ := (Option.bind_some _ _).symm.trans H; rw [hy168]; with_reducible exact H2_) | (have H2_ := (Option.bind_some _ _).symm.trans H; with_reducible exact H2_) | with_reducible exact H | (rw [hy168]; exact H) | exact H
        have Ny168 := AZ.mk hy168
        clear hy168
        have H' := AZ.mk H
        clear H
        obtain ⟨Ao89, co89, eo89⟩ := Kd.R_slice HO_8.out
        subst eo89
        go_wp2_with (first | ((with_reducible refine gate_builtin (b := .append) (xs := #[.tmp 102, .tmp 104]) rfl ?_); at_builtin; refine Kd.S_append (Kd.slice 4 Kd.bool) (w0 := w) w.heap.size rfl (.tmp 102) (.tmp 104) 59 61 (.slice none 0 0) 24 rfl Try.underlying59 info61 rfl (by decide) (by omega) u6 x6_1 x8_2 [.slice Ao89 x8_2.length co89] (fun _ => True) (fun k_ => some k_ = (.slice Ao89 x8_2.length co89 : Value).ownBlock) rfl rfl ?aP (fun k_ hk_ => ((Kd.R_mono (ok' := fun k_ => ((fun _ => True)) k_ ∧ some k_ ≠ (u6 : Value).ownBlock) (Kd.R_apart' (HO_8.out) (Kd.S_typed HO_6.out) (by decide)) (fun k_ hk => ⟨trivial, hk.2⟩))).1 k_ hk_.symm) ?aF ?aO ?aB ?aS ?aL ?_; (case aP => exact Kd.M_row (Kd.R_mono (Kd.R_tight rfl (Kd.R_mono (ok' := fun k_ => ((fun _ => True)) k_ ∧ some k_ ≠ (u6 : Value).ownBlock) (Kd.R_apart' (HO_8.out) (Kd.S_typed HO_6.out) (by decide)) (fun k_ hk => ⟨trivial, hk.2⟩))) (fun _ h_ => h_))); (case aB => exact (by repeat (first | (with_reducible first | exact HB.out | apply pA | apply pN | apply pD | refine pS ?_ GE0.out) | exact HB.out))); (case aF => exact (fun _ _ => trivial)); (case aO => exact (by (with_reducible repeat (first | apply Kd.S_alloc | apply Kd.S_drewN | apply Kd.S_drew)); exact Kd.S_mono HO_6.out (fun k_ hk => ⟨trivial, fun e_ => hk e_⟩))); (case aS => exact (pZ (by repeat (first | (with_reducible first | exact HB.out | apply pA | apply pN | apply pD | refine pS ?_ GE0.out) | exact HB.out)))); (case aL => have := LMc87.out; omega); intro v169 w88 ho hb hg hat; rw [← Ny168.out] at ho; have n0_ := AZ.mk (Kd.R_over' (by (with_reducible repeat (first | apply Kd.R_alloc | apply Kd.R_drewN | apply Kd.R_drew)); exact HO_5.out) (Kd.S_typed (by (with_reducible repeat (first | apply Kd.S_alloc | apply Kd.S_drewN | apply Kd.S_drew)); exact HO_6.out)) (by decide) hg); have n1_ := AZ.mk (blk_grown (g := g0_) (o := .cells #[.slice A0_0 l0_0.length c0_0] 30 (0, 0)) (by (with_reducible repeat (first | refine bn_ ?_ _ | refine bd_ ?_ | refine ba_ ?_ _)); exact BK0.out) hg (Kd.S_ne HO_6.out BK0.out (by decide))); have n2_ := AZ.mk (hb); have n3_ := AZ.mk (ho); clear HO_5; clear BK0; clear HB; clear HO_6; clear HO_8; have HO_5 := n0_; have BK0 := n1_; have HB := n2_; have HO170 := n3_; clear n0_ n1_ n2_ n3_; clear ho hb hg hat))
        go_roundg kj12
        case measure => have := HK1.out; have := HK2.out; have := HJ12.out; omega
        case rel => exact ⟨(y168), (wrap64 (x7_1 + 1)), (by first | rfl | (simp; done) | (simp [*]; done)), H', ⟨by have := HK1.out; have := HK2.out; have := HJ12.out; omega⟩, ⟨by (with_reducible repeat (first | apply Kd.R_alloc | apply Kd.R_drewN | apply Kd.R_drew)); exact HO_5.out⟩, ⟨by (with_reducible repeat (first | apply Kd.S_alloc | apply Kd.S_drewN | apply Kd.S_drew)); exact HO170.out⟩, ⟨by (with_reducible repeat (first | refine bn_ ?_ _ | refine bd_ ?_ | refine ba_ ?_ _)); exact BK0.out⟩, ⟨by repeat (first | (with_reducible first | exact HB.out | apply pA | apply pN | apply pD | refine pS ?_ GE0.out) | exact HB.out)⟩⟩
       subst c21
       have H1 : (if 0 ≤ x9_2 then (if x9_2 < (l0_0.length : Int) then (if 0 ≤ x7_1 then (if x7_1 < (a1.size : Int) then ((spec_l05Passes.f ((rd_T62 l0_0 x9_2).f1) (bt a1 x7_1)).bind fun t172 => (if t172 = true then (if x9_2 = 0 then (if 0 < (l0_0.length : Int) then (if (rd_T62 l0_0 0).f0 = true then (if 0 < (x8_2.length : Int) then (spec_l05Marks.l1 kj12 a1 t158 x6_1 x7_1 (x8_2.set (0 : Int).toNat true) (wrap64 (x9_2 + 1)) l0_0) else (none)) else (if x7_1 < (t158.length : Int) then (if 0 < (x8_2.length : Int) then (spec_l05Marks.l1 kj12 a1 t158 x6_1 x7_1 (x8_2.set (0 : Int).toNat (decide ((rd t158 x7_1) < 0))) (wrap64 (x9_2 + 1)) l0_0) else (none)) else (none))) else (none)) else (if x7_1 < (t158.length : Int) then (spec_l05Marks.l2 kj12 a1 t158 x6_1 x7_1 x8_2 x9_2 (rd t158 x7_1) l0_0) else (none))) else (spec_l05Marks.l1 kj12 a1 t158 x6_1 x7_1 x8_2 (wrap64 (x9_2 + 1)) l0_0))) else (none)) else (none)) else (none)) else (none)) = some r := by rw [if_pos rfl] at H; exact H
       clear H
       have H := H1
       clear H1
       by_cases c22 : 0 ≤ x9_2
       rotate_left
       ·rw [if_neg c22] at H
        exact absurd H (by simp)
       rw [if_pos c22] at H
       have c22b0 : decide (0 ≤ x9_2) = true := decide_eq_true c22
       clear c22
       by_cases c23 : x9_2 < (l0_0.length : Int)
       rotate_left
       ·rw [if_neg c23] at H
        exact absurd H (by simp)
       rw [if_pos c23] at H
       have c23b0 : decide (x9_2 < (l0_0.length : Int)) = true := decide_eq_true c23
       clear c23
       by_cases c24 : 0 ≤ x7_1
       rotate_left
       ·rw [if_neg c24] at H
        exact absurd H (by simp)
       rw [if_pos c24] at H
       have c24b0 : decide (0 ≤ x7_1) = true := decide_eq_true c24
       clear c24
       by_cases c25 : x7_1 < (a1.size : Int)
       rotate_left
       ·rw [if_neg c25] at H
        exact absurd H (by simp)
       rw [if_pos c25] at H
       have c25b0 : decide (x7_1 < (a1.size : Int)) = true := decide_eq_true c25
       clear c25
       replace H := Option.bind_eq_some_iff.mp H
       obtain ⟨t172, A270, H⟩ := H
       replace H : (if t172 = true then (if x9_2 = 0 then (if 0 < (l0_0.length : Int) then (if (rd_T62 l0_0 0).f0 = true then (if 0 < (x8_2.length : Int) then (spec_l05Marks.l1 kj12 a1 t158 x6_1 x7_1 (x8_2.set (0 : Int).toNat true) (wrap64 (x9_2 + 1)) l0_0) else (none)) else (if x7_1 < (t158.length : Int) then (if 0 < (x8_2.length : Int) then (spec_l05Marks.l1 kj12 a1 t158 x6_1 x7_1 (x8_2.set (0 : Int).toNat (decide ((rd t158 x7_1) < 0))) (wrap64 (x9_2 + 1)) l0_0) else (none)) else (none))) else (none)) else (if x7_1 < (t158.length : Int) then (spec_l05Marks.l2 kj12 a1 t158 x6_1 x7_1 x8_2 x9_2 (rd t158 x7_1) l0_0) else (none))) else (spec_l05Marks.l1 kj12 a1 t158 x6_1 x7_1 x8_2 (wrap64 (x9_2 + 1)) l0_0)) = some r := H
       have A27 := AZ.mk A270
       clear A270
       by_cases c28 : t172 = true
       rotate_left
       ·replace c28 := Bool.eq_false_iff.mpr c28
        subst c28
        have H1 : (spec_l05Marks.l1 kj12 a1 t158 x6_1 x7_1 x8_2 (wrap64 (x9_2 + 1)) l0_0) = some r := by rw [if_neg (show ¬ (false = true) by decide)] at H; exact H
        clear H
        have H := H1
        clear H1
        have H' := AZ.mk H
        clear H
        try go_wp2
        have n0_ := AZ.mk (Kd.R_drew HO_5.out)
        have n1_ := AZ.mk (Kd.S_drew HO_6.out)
        have n2_ := AZ.mk (Kd.R_drew HO_8.out)
        have n3_ := AZ.mk (bd_ BK0.out)
        have n4_ := AZ.mk (pD HB.out)
        clear HO_5
        clear HO_6
        clear HO_8
        clear BK0
        clear HB
        have HO_5 := n0_
        have HO_6 := n1_
        have HO_8 := n2_
        have BK0 := n3_
        have HB := n4_
        clear n0_ n1_ n2_ n3_ n4_
        have p171 : 0 ≤ (x9_2 : Int) := oT (by first | (with_reducible assumption) | assumption)
        have q171 : x9_2 < (l0_0.length : Int) := oT (by first | (with_reducible assumption) | assumption)
        obtain ⟨ad171, e171, hx171_0, hx171_1⟩ := at_T62 HR0_0.out x9_2 p171 q171
        have hw171_1 := hx171_1
        have hw171_0 := hx171_0
        cases e171
        replace hx171_0 := (HB.out.cell (World.block_lt_of_cell? w _ hx171_0)).trans hx171_0
        replace hx171_1 := (HB.out.cell (World.block_lt_of_cell? w _ hx171_1)).trans hx171_1
        replace p171 := eq_true p171
        replace q171 := eq_true q171
        have p26 : 0 ≤ (x7_1 : Int) := oT (by first | (with_reducible assumption) | assumption)
        have q26 : x7_1 < (a1.size : Int) := oT (by first | (with_reducible assumption) | assumption)
        have hx26 := bt_at a1 x7_1
        replace p26 := eq_true p26
        replace q26 := eq_true q26
        refine start_ (n := 13) (S := fun w' => w'.cell? ⟨g0_, 0, none⟩ = some (.slice (some ad171) l0_0.length c0_0) ∧ w'.cell? (ad171.add ((x9_2).toNat * 2)) = some (.bool ((rd_T62 l0_0 x9_2).f0)) ∧ w'.cell? ⟨(ad171.add ((x9_2).toNat * 2)).block, (ad171.add ((x9_2).toNat * 2)).off + 1, none⟩ = some (.string ((rd_T62 l0_0 x9_2).f1))) (ds := []) (bz 13 0) (by kernel_rfl) rfl rfl ⟨(bc BK0.out 0).trans rfl, ((HB.out.cell (World.block_lt_of_cell? w _ hw171_0)).trans hw171_0), ((HB.out.cell (World.block_lt_of_cell? w _ hw171_1)).trans hw171_1)⟩ (fun hHeld => ?_); refine with_tabW spec_l05Marks.tab10 spec_l05Marks.bits10 (fun HT_ HW_ => ?_)
        generalize wc.drew = w85 at HO_5 HO_6 HO_8 BK0 HB hx171_0 hx171_1 hHeld ⊢
        iterate 11 (first | (refine pz_ HT_ spec_l05Marks.cz0 rfl rfl rfl (v := ?_) (a' := ?_) (by kernel_rfl) (fun _ _ _ h => h) (Or.inl ⟨by rfl, ?_⟩) ?_ ?_; rotate_left; (intro w'; go_simp; with_reducible rfl); rotate_left; (simp only [Act.put, sA, sB, sC, i64_w, i32_w]; rfl)) | (refine tz_ HT_ HW_ spec_l05Marks.cz0 rfl rfl rfl (v := ?_) (a' := ?_) (by kernel_rfl) (fun _ _ _ h => h) (Or.inl ⟨by rfl, ?_⟩) hHeld ?_ ?_; rotate_left; (rintro w' ⟨s0, s1, s2⟩; go_simp; with_reducible rfl); rotate_left; (simp only [Act.put, sA, sB, sC, i64_w, i32_w]; rfl)))
        refine one_ (i := 11) (N := some 52) (bz 13 4095) rfl rfl (one_of HT_.out (by kernel_rfl)) (by decide) (fun K hK => ?_)
        refine goes_ Try.func50 (by kernel_rfl) rfl #[.string ((rd_T62 l0_0 x9_2).f1), .int .u8 (bt a1 x7_1)] (by rfl) rfl rfl (by (try simp only [List.map_toArray, List.map_cons, List.map_nil]); first | done | rfl | (simp only [List.length_drop, List.length_take]; rfl)) ?_
        with_reducible refine (spec_l05Passes.calls ((rd_T62 l0_0 x9_2).f1) (bt a1 x7_1) false _ A27.out).mono ?_
        rintro e w86 ⟨rfl, hb⟩
        refine ⟨_, rfl, ?_⟩
        have n0_ := AZ.mk (Kd.R_below (by (with_reducible repeat (first | apply Kd.R_alloc | apply Kd.R_drewN | apply Kd.R_drew)); exact HO_5.out) hb)
        have n1_ := AZ.mk (Kd.S_below (by (with_reducible repeat (first | apply Kd.S_alloc | apply Kd.S_drewN | apply Kd.S_drew)); exact HO_6.out) hb)
        have n2_ := AZ.mk (Kd.R_below (by (with_reducible repeat (first | apply Kd.R_alloc | apply Kd.R_drewN | apply Kd.R_drew)); exact HO_8.out) hb)
        have n3_ := AZ.mk (bb_ (g := g0_) (o := .cells #[.slice (some ad171) l0_0.length c0_0] 30 (0, 0)) (by (with_reducible repeat (first | refine bn_ ?_ _ | refine bd_ ?_ | refine ba_ ?_ _)); exact BK0.out) hb)
        have n4_ := AZ.mk (pT (by repeat (first | (with_reducible first | exact HB.out | apply pA | apply pN | apply pD | refine pS ?_ GE0.out) | exact HB.out)) hb)
        clear HO_5
        clear HO_6
        clear HO_8
        clear BK0
        clear HB
        have HO_5 := n0_
        have HO_6 := n1_
        have HO_8 := n2_
        have BK0 := n3_
        have HB := n4_
        clear n0_ n1_ n2_ n3_ n4_
        (try clear hb)
        (try clear hb2)
        (try clear hk)
        (try clear hi)
        refine hK.out _ _ ⟨(bc BK0.out 0).trans rfl, ((HB.out.cell (World.block_lt_of_cell? w _ hw171_0)).trans hw171_0), ((HB.out.cell (World.block_lt_of_cell? w _ hw171_1)).trans hw171_1)⟩ (fun hHeld => ?_)
        clear hK K
        refine norm_ (a' := ?_) ?_ ?_
        rotate_left
        ·show Act.put _ (some 52) _ = _
         simp only [Act.put, sA, sB, sC, i64_w, i32_w]
         rfl
        refine pure_ (i := 12) (N := some 53) (v := ?_) (a' := ?_) (bz 13 8191) rfl rfl (any_of HT_.out (by kernel_rfl)) (fun _ _ _ h => h) (Or.inl ⟨by rfl, ?_⟩) ?_ ?_
        rotate_left
        ·intro w'
         go_simp
         with_reducible rfl
        rotate_left
        ·simp only [Act.put, sA, sB, sC, i64_w, i32_w]
         rfl
        refine done_ (done_of HT_.out (by kernel_rfl)) ?_
        try go_wp2
        go_roundg kj12
        case measure => have := HK1.out; have := HK2.out; have := HJ12.out; omega
        case rel => exact ⟨(x8_2), (wrap64 (x9_2 + 1)), (by first | rfl | (simp; done) | (simp [*]; done)), H', ⟨by have := HK1.out; have := HK2.out; have := HJ12.out; omega⟩, ⟨by (with_reducible repeat (first | apply Kd.R_alloc | apply Kd.R_drewN | apply Kd.R_drew)); exact HO_5.out⟩, ⟨by (with_reducible repeat (first | apply Kd.S_alloc | apply Kd.S_drewN | apply Kd.S_drew)); exact HO_6.out⟩, ⟨by (with_reducible repeat (first | apply Kd.R_alloc | apply Kd.R_drewN | apply Kd.R_drew)); exact HO_8.out⟩, ⟨by (with_reducible repeat (first | refine bn_ ?_ _ | refine bd_ ?_ | refine ba_ ?_ _)); exact BK0.out⟩, ⟨by repeat (first | (with_reducible first | exact HB.out | apply pA | apply pN | apply pD | refine pS ?_ GE0.out) | exact HB.out)⟩⟩
       subst c28
       have H1 : (if x9_2 = 0 then (if 0 < (l0_0.length : Int) then (if (rd_T62 l0_0 0).f0 = true then (if 0 < (x8_2.length : Int) then (spec_l05Marks.l1 kj12 a1 t158 x6_1 x7_1 (x8_2.set (0 : Int).toNat true) (wrap64 (x9_2 + 1)) l0_0) else (none)) else (if x7_1 < (t158.length : Int) then (if 0 < (x8_2.length : Int) then (spec_l05Marks.l1 kj12 a1 t158 x6_1 x7_1 (x8_2.set (0 : Int).toNat (decide ((rd t158 x7_1) < 0))) (wrap64 (x9_2 + 1)) l0_0) else (none)) else (none))) else (none)) else (if x7_1 < (t158.length : Int) then (spec_l05Marks.l2 kj12 a1 t158 x6_1 x7_1 x8_2 x9_2 (rd t158 x7_1) l0_0) else (none))) = some r := by rw [if_pos rfl] at H; exact H
       clear H
       have H := H1
       clear H1
       by_cases c29 : x9_2 = 0
       ·rw [if_pos c29] at H
        have c29b0 : (x9_2 == 0) = true := beq_iff_eq.mpr c29
        have c29b1 : (x9_2 != 0) = false := bne_eq_false_iff_eq.mpr c29
        clear c29
        by_cases c30 : 0 < (l0_0.length : Int)
        rotate_left
        ·rw [if_neg c30] at H
         exact absurd H (by simp)
        rw [if_pos c30] at H
        have c30b0 : decide (0 < (l0_0.length : Int)) = true := decide_eq_true c30
        have c30b1 : decide (0 < l0_0.length) = true := decide_eq_true (by omega)
        clear c30
        obtain ⟨bq31, hbq31⟩ : ∃ b_ : Bool, b_ = ((rd_T62 l0_0 0).f0) := ⟨_, rfl⟩
        replace H : (if bq31 = true then (if 0 < (x8_2.length : Int) then (spec_l05Marks.l1 kj12 a1 t158 x6_1 x7_1 (x8_2.set (0 : Int).toNat true) (wrap64 (x9_2 + 1)) l0_0) else (none)) else (if x7_1 < (t158.length : Int) then (if 0 < (x8_2.length : Int) then (spec_l05Marks.l1 kj12 a1 t158 x6_1 x7_1 (x8_2.set (0 : Int).toNat (decide ((rd t158 x7_1) < 0))) (wrap64 (x9_2 + 1)) l0_0) else (none)) else (none))) = some r := by rw [← hbq31] at H; exact H
        have Nbq31 := AZ.mk hbq31
        clear hbq31
        by_cases c32 : bq31 = true
        ·subst c32
         have H1 : (if 0 < (x8_2.length : Int) then (spec_l05Marks.l1 kj12 a1 t158 x6_1 x7_1 (x8_2.set (0 : Int).toNat true) (wrap64 (x9_2 + 1)) l0_0) else (none)) = some r := by rw [if_pos rfl] at H; exact H
         clear H
         have H := H1
         clear H1
         by_cases c33 : 0 < (x8_2.length : Int)
         rotate_left
         ·rw [if_neg c33] at H
          exact absurd H (by simp)
         rw [if_pos c33] at H
         have c33b0 : decide (0 < (x8_2.length : Int)) = true := decide_eq_true c33
         have c33b1 : decide (0 < x8_2.length) = true := decide_eq_true (by omega)
         clear c33
         obtain ⟨y174, hy174⟩ : ∃ y_ : List Bool, y_ = (x8_2.set (0 : Int).toNat true) := ⟨_, rfl⟩
         replace H : (spec_l05Marks.l1 kj12 a1 t158 x6_1 x7_1 y174 (wrap64 (x9_2 + 1)) l0_0) = some r := by first | (rw [hy174]; with_reducible exact H) | (have H2_ := (Option.bind_some _ _).symm.trans H; rw [hy174]; with_reducible exact H2_) | (have H2_ := (Option.bind_some _ _).symm.trans H; with_reducible exact H2_) | with_reducible exact H | (rw [hy174]; exact H) | exact H
         have Ny174 := AZ.mk hy174
         clear hy174
         have H' := AZ.mk H
         clear H
         try go_wp2
         have n0_ := AZ.mk (Kd.R_drew HO_5.out)
         have n1_ := AZ.mk (Kd.S_drew HO_6.out)
         have n2_ := AZ.mk (Kd.R_drew HO_8.out)
         have n3_ := AZ.mk (bd_ BK0.out)
         have n4_ := AZ.mk (pD HB.out)
         clear HO_5
         clear HO_6
         clear HO_8
         clear BK0
         clear HB
         have HO_5 := n0_
         have HO_6 := n1_
         have HO_8 := n2_
         have BK0 := n3_
         have HB := n4_
         clear n0_ n1_ n2_ n3_ n4_
         have p171 : 0 ≤ (x9_2 : Int) := oT (by first | (with_reducible assumption) | assumption)
         have q171 : x9_2 < (l0_0.length : Int) := oT (by first | (with_reducible assumption) | assumption)
         obtain ⟨ad171, e171, hx171_0, hx171_1⟩ := at_T62 HR0_0.out x9_2 p171 q171
         have hw171_1 := hx171_1
         have hw171_0 := hx171_0
         (try rw [← Nbq31.out] at hx171_0)
         cases e171
         replace hx171_0 := (HB.out.cell (World.block_lt_of_cell? w _ hx171_0)).trans hx171_0
         replace hx171_1 := (HB.out.cell (World.block_lt_of_cell? w _ hx171_1)).trans hx171_1
         replace p171 := eq_true p171
         replace q171 := eq_true q171
         have p26 : 0 ≤ (x7_1 : Int) := oT (by first | (with_reducible assumption) | assumption)
         have q26 : x7_1 < (a1.size : Int) := oT (by first | (with_reducible assumption) | assumption)
         have hx26 := bt_at a1 x7_1
         replace p26 := eq_true p26
         replace q26 := eq_true q26
         refine start_ (n := 13) (S := fun w' => w'.cell? ⟨g0_, 0, none⟩ = some (.slice (some ad171) l0_0.length c0_0) ∧ w'.cell? (ad171.add ((x9_2).toNat * 2)) = some (.bool ((rd_T62 l0_0 x9_2).f0)) ∧ w'.cell? ⟨(ad171.add ((x9_2).toNat * 2)).block, (ad171.add ((x9_2).toNat * 2)).off + 1, none⟩ = some (.string ((rd_T62 l0_0 x9_2).f1))) (ds := []) (bz 13 0) (by kernel_rfl) rfl rfl ⟨(bc BK0.out 0).trans rfl, ((HB.out.cell (World.block_lt_of_cell? w _ hw171_0)).trans hw171_0), ((HB.out.cell (World.block_lt_of_cell? w _ hw171_1)).trans hw171_1)⟩ (fun hHeld => ?_); refine with_tabW spec_l05Marks.tab10 spec_l05Marks.bits10 (fun HT_ HW_ => ?_)
         generalize wc.drew = w35 at HO_5 HO_6 HO_8 BK0 HB hx171_0 hx171_1 hHeld ⊢
         iterate 11 (first | (refine pz_ HT_ spec_l05Marks.cz0 rfl rfl rfl (v := ?_) (a' := ?_) (by kernel_rfl) (fun _ _ _ h => h) (Or.inl ⟨by rfl, ?_⟩) ?_ ?_; rotate_left; (intro w'; go_simp; with_reducible rfl); rotate_left; (simp only [Act.put, sA, sB, sC, i64_w, i32_w]; rfl)) | (refine tz_ HT_ HW_ spec_l05Marks.cz0 rfl rfl rfl (v := ?_) (a' := ?_) (by kernel_rfl) (fun _ _ _ h => h) (Or.inl ⟨by rfl, ?_⟩) hHeld ?_ ?_; rotate_left; (rintro w' ⟨s0, s1, s2⟩; go_simp; with_reducible rfl); rotate_left; (simp only [Act.put, sA, sB, sC, i64_w, i32_w]; rfl)))
         refine one_ (i := 11) (N := some 52) (bz 13 4095) rfl rfl (one_of HT_.out (by kernel_rfl)) (by decide) (fun K hK => ?_)
         refine goes_ Try.func50 (by kernel_rfl) rfl #[.string ((rd_T62 l0_0 x9_2).f1), .int .u8 (bt a1 x7_1)] (by rfl) rfl rfl (by (try simp only [List.map_toArray, List.map_cons, List.map_nil]); first | done | rfl | (simp only [List.length_drop, List.length_take]; rfl)) ?_
         with_reducible refine (spec_l05Passes.calls ((rd_T62 l0_0 x9_2).f1) (bt a1 x7_1) true _ A27.out).mono ?_
         rintro e w36 ⟨rfl, hb⟩
         refine ⟨_, rfl, ?_⟩
         have n0_ := AZ.mk (Kd.R_below (by (with_reducible repeat (first | apply Kd.R_alloc | apply Kd.R_drewN | apply Kd.R_drew)); exact HO_5.out) hb)
         have n1_ := AZ.mk (Kd.S_below (by (with_reducible repeat (first | apply Kd.S_alloc | apply Kd.S_drewN | apply Kd.S_drew)); exact HO_6.out) hb)
         have n2_ := AZ.mk (Kd.R_below (by (with_reducible repeat (first | apply Kd.R_alloc | apply Kd.R_drewN | apply Kd.R_drew)); exact HO_8.out) hb)
         have n3_ := AZ.mk (bb_ (g := g0_) (o := .cells #[.slice (some ad171) l0_0.length c0_0] 30 (0, 0)) (by (with_reducible repeat (first | refine bn_ ?_ _ | refine bd_ ?_ | refine ba_ ?_ _)); exact BK0.out) hb)
         have n4_ := AZ.mk (pT (by repeat (first | (with_reducible first | exact HB.out | apply pA | apply pN | apply pD | refine pS ?_ GE0.out) | exact HB.out)) hb)
         clear HO_5
         clear HO_6
         clear HO_8
         clear BK0
         clear HB
         have HO_5 := n0_
         have HO_6 := n1_
         have HO_8 := n2_
         have BK0 := n3_
         have HB := n4_
         clear n0_ n1_ n2_ n3_ n4_
         (try clear hb)
         (try clear hb2)
         (try clear hk)
         (try clear hi)
         refine hK.out _ _ ⟨(bc BK0.out 0).trans rfl, ((HB.out.cell (World.block_lt_of_cell? w _ hw171_0)).trans hw171_0), ((HB.out.cell (World.block_lt_of_cell? w _ hw171_1)).trans hw171_1)⟩ (fun hHeld => ?_)
         clear hK K
         refine norm_ (a' := ?_) ?_ ?_
         rotate_left
         ·show Act.put _ (some 52) _ = _
          simp only [Act.put, sA, sB, sC, i64_w, i32_w]
          rfl
         refine pure_ (i := 12) (N := some 53) (v := ?_) (a' := ?_) (bz 13 8191) rfl rfl (any_of HT_.out (by kernel_rfl)) (fun _ _ _ h => h) (Or.inl ⟨by rfl, ?_⟩) ?_ ?_
         rotate_left
         ·intro w'
          go_simp
          with_reducible rfl
         rotate_left
         ·simp only [Act.put, sA, sB, sC, i64_w, i32_w]
          rfl
         refine done_ (done_of HT_.out (by kernel_rfl)) ?_
         have hcz37_0 : w36.cell? ⟨g0_, 0, none⟩ = some (.slice (some ad171) l0_0.length c0_0) := (bc BK0.out 0).trans rfl
         have hfz37_0 := bf BK0.out 0
         have p173 : 0 ≤ (0 : Int) := (by omega)
         have q173 : 0 < (l0_0.length : Int) := oT (by first | (with_reducible assumption) | assumption)
         obtain ⟨ad173, e173, hx173_0, hx173_1⟩ := at_T62 HR0_0.out 0 p173 q173
         (try rw [← Nbq31.out] at hx173_0)
         obtain rfl : ad171 = ad173 := (by injection e173)
         have qi173 : (0 < l0_0.length) = True := eq_true (by omega)
         (try rw [show ((0 : Int)).toNat = 0 from rfl] at hx173_0)
         (try rw [show 0 * 2 = 0 from rfl] at hx173_0)
         (try rw [Addr.add_zero'] at hx173_0)
         (try rw [show ((0 : Int)).toNat = 0 from rfl] at hx173_1)
         (try rw [show 0 * 2 = 0 from rfl] at hx173_1)
         (try rw [Addr.add_zero'] at hx173_1)
         replace hx173_0 := (HB.out.cell (World.block_lt_of_cell? w _ hx173_0)).trans hx173_0
         replace hx173_1 := (HB.out.cell (World.block_lt_of_cell? w _ hx173_1)).trans hx173_1
         replace p173 := eq_true p173
         replace q173 := eq_true q173
         have p34 : 0 ≤ (0 : Int) := (by omega)
         have q34 : (0 : Int) < ((x8_2.length : Int) : Int) := oT (by first | (with_reducible assumption) | assumption)
         have qi34 : (0 < x8_2.length) = True := eq_true (by omega)
         obtain ⟨go34, co34, eo34, gb34, gl34, cl34, HG34⟩ := Kd.R_form HO_8.out (by omega)
         (first | cases eo34 | (injection eo34 with ea_ en_ ec_; (first | subst ea_ | (injection ea_ with ea_; subst ea_)); subst ec_; clear en_))
         have GB34 := AZ.mk gb34
         have GG34 := AZ.mk HG34
         clear gb34 gl34 HG34
         obtain ⟨hx34_0, hf34_0⟩ := Kd.R_celln false HO_8.out (0 : Int) p34 q34
         (try rw [show ((0 : Int)).toNat = 0 from rfl] at hx34_0)
         (try simp only [Nat.reduceMul, Nat.zero_mul, Nat.zero_add, Nat.reduceAdd] at hx34_0)
         (try rw [show ((0 : Int)).toNat = 0 from rfl] at hf34_0)
         (try simp only [Nat.reduceMul, Nat.zero_mul, Nat.zero_add, Nat.reduceAdd] at hf34_0)
         replace p34 := eq_true p34
         replace q34 := eq_true q34
         obtain ⟨hy38_, hz38_⟩ := Kd.R_celln false HO_8.out (0 : Int) (by omega) (oT (by first | (with_reducible assumption) | assumption))
         (try simp only [Int.reduceToNat, Int.toNat_zero, Int.toNat_ofNat, Nat.reduceMul, Nat.zero_mul, Nat.zero_add] at hy38_ hz38_)
         (try rw [show ((0 : Int)).toNat = 0 from rfl] at hy38_)
         (try rw [show ((0 : Int)).toNat = 0 from rfl] at hz38_)
         have HP38 := Kd.R_putg HO_8.out (0 : Int) true
         try go_wp2_with (first | ((with_reducible refine gate_store (t := 4) (p := 71) rfl ?_); refine store_event (t := 4) (p := 71) (v := ?vo_w39) (w1 := (w36.setCell ⟨go34, (0 : Int).toNat, none⟩ (.bool true))) ?hg ?ho ?hn ?hr ?_; (case ho => rfl); (case hg => rfl); (case hn => rfl); (case hr => first | (go_simp; done) | (go_simp; rfl)); intro w39 hw; have hg : w36.grownBy w39 (some go34) := (by rw [hw]; exact HP38.2); have hp_ : Kd.R Kd.bool 4 w39 w.heap.size (fun _ => True) (.slice (some ⟨go34, 0, none⟩) x8_2.length co34) y174 := (by rw [hw, Ny174.out]; exact HP38.1); clear HP38; have n0_ := AZ.mk (Kd.R_over' (v := (.slice (some ⟨go34, 0, none⟩) x8_2.length co34)) (by (with_reducible repeat (first | apply Kd.R_alloc | apply Kd.R_drewN | apply Kd.R_drew)); exact HO_5.out) (Kd.R_typed HO_8.out) (by decide) hg); have n1_ := AZ.mk (Kd.S_after (v := (.slice (some ⟨go34, 0, none⟩) x8_2.length co34)) (v1 := (.slice (some ⟨go34, 0, none⟩) x8_2.length co34)) (ok := (fun _ => True)) (by (with_reducible repeat (first | apply Kd.S_alloc | apply Kd.S_drewN | apply Kd.S_drew)); exact Kd.S_mono HO_6.out (fun _ hk => ⟨trivial, hk⟩)) hg (.inl rfl)); have n2_ := AZ.mk (hp_); have n3_ := AZ.mk (blk_grown (g := g0_) (o := .cells #[.slice (some ad171) l0_0.length c0_0] 30 (0, 0)) (by (with_reducible repeat (first | refine bn_ ?_ _ | refine bd_ ?_ | refine ba_ ?_ _)); exact BK0.out) hg (Kd.R_ne HO_8.out BK0.out (by decide))); have n4_ := AZ.mk ((by rw [hw]; exact pS (HB.out) GB34.out : Below w.heap.size w w39)); clear HO_5; clear HO_6; clear HO_8; clear BK0; clear HB; have HO_5 := n0_; have HO_6 := n1_; have HO_8 := n2_; have BK0 := n3_; have HB := n4_; clear n0_ n1_ n2_ n3_ n4_; clear hg hw hp_))
         go_roundg kj12
         case measure => have := HK1.out; have := HK2.out; have := HJ12.out; omega
         case rel => exact ⟨(y174), (wrap64 (x9_2 + 1)), (by first | rfl | (simp; done) | (simp [*]; done)), H', ⟨by have := HK1.out; have := HK2.out; have := HJ12.out; omega⟩, ⟨by (with_reducible repeat (first | apply Kd.R_alloc | apply Kd.R_drewN | apply Kd.R_drew)); exact HO_5.out⟩, ⟨by (with_reducible repeat (first | apply Kd.S_alloc | apply Kd.S_drewN | apply Kd.S_drew)); exact Kd.S_mono HO_6.out (fun _ hk => hk.2)⟩, ⟨by (with_reducible repeat (first | apply Kd.R_alloc | apply Kd.R_drewN | apply Kd.R_drew)); exact HO_8.out⟩, ⟨by (with_reducible repeat (first | refine bn_ ?_ _ | refine bd_ ?_ | refine ba_ ?_ _)); exact BK0.out⟩, ⟨by repeat (first | (with_reducible first | exact HB.out | apply pA | apply pN | apply pD | refine pS ?_ GE0.out) | exact HB.out)⟩⟩
        replace c32 := Bool.eq_false_iff.mpr c32
        subst c32
        have H1 : (if x7_1 < (t158.length : Int) then (if 0 < (x8_2.length : Int) then (spec_l05Marks.l1 kj12 a1 t158 x6_1 x7_1 (x8_2.set (0 : Int).toNat (decide ((rd t158 x7_1) < 0))) (wrap64 (x9_2 + 1)) l0_0) else (none)) else (none)) = some r := by rw [if_neg (show ¬ (false = true) by decide)] at H; exact H
        clear H
        have H := H1
        clear H1
        by_cases c40 : x7_1 < (t158.length : Int)
        rotate_left
        ·rw [if_neg c40] at H
         exact absurd H (by simp)
        rw [if_pos c40] at H
        have c40b0 : decide (x7_1 < (t158.length : Int)) = true := decide_eq_true c40
        clear c40
        by_cases c41 : 0 < (x8_2.length : Int)
        rotate_left
        ·rw [if_neg c41] at H
         exact absurd H (by simp)
        rw [if_pos c41] at H
        have c41b0 : decide (0 < (x8_2.length : Int)) = true := decide_eq_true c41
        have c41b1 : decide (0 < x8_2.length) = true := decide_eq_true (by omega)
        clear c41
        obtain ⟨y176, hy176⟩ : ∃ y_ : List Bool, y_ = (x8_2.set (0 : Int).toNat (decide ((rd t158 x7_1) < 0))) := ⟨_, rfl⟩
        replace H : (spec_l05Marks.l1 kj12 a1 t158 x6_1 x7_1 y176 (wrap64 (x9_2 + 1)) l0_0) = some r := by first | (rw [hy176]; with_reducible exact H) | (have H2_ := (Option.bind_some _ _).symm.trans H; rw [hy176]; with_reducible exact H2_) | (have H2_ := (Option.bind_some _ _).symm.trans H; with_reducible exact H2_) | with_reducible exact H | (rw [hy176]; exact H) | exact H
        have Ny176 := AZ.mk hy176
        clear hy176
        have H' := AZ.mk H
        clear H
        try go_wp2
        have n0_ := AZ.mk (Kd.R_drew HO_5.out)
        have n1_ := AZ.mk (Kd.S_drew HO_6.out)
        have n2_ := AZ.mk (Kd.R_drew HO_8.out)
        have n3_ := AZ.mk (bd_ BK0.out)
        have n4_ := AZ.mk (pD HB.out)
        clear HO_5
        clear HO_6
        clear HO_8
        clear BK0
        clear HB
        have HO_5 := n0_
        have HO_6 := n1_
        have HO_8 := n2_
        have BK0 := n3_
        have HB := n4_
        clear n0_ n1_ n2_ n3_ n4_
        have p171 : 0 ≤ (x9_2 : Int) := oT (by first | (with_reducible assumption) | assumption)
        have q171 : x9_2 < (l0_0.length : Int) := oT (by first | (with_reducible assumption) | assumption)
        obtain ⟨ad171, e171, hx171_0, hx171_1⟩ := at_T62 HR0_0.out x9_2 p171 q171
        have hw171_1 := hx171_1
        have hw171_0 := hx171_0
        (try rw [← Nbq31.out] at hx171_0)
        cases e171
        replace hx171_0 := (HB.out.cell (World.block_lt_of_cell? w _ hx171_0)).trans hx171_0
        replace hx171_1 := (HB.out.cell (World.block_lt_of_cell? w _ hx171_1)).trans hx171_1
        replace p171 := eq_true p171
        replace q171 := eq_true q171
        have p26 : 0 ≤ (x7_1 : Int) := oT (by first | (with_reducible assumption) | assumption)
        have q26 : x7_1 < (a1.size : Int) := oT (by first | (with_reducible assumption) | assumption)
        have hx26 := bt_at a1 x7_1
        replace p26 := eq_true p26
        replace q26 := eq_true q26
        refine start_ (n := 13) (S := fun w' => w'.cell? ⟨g0_, 0, none⟩ = some (.slice (some ad171) l0_0.length c0_0) ∧ w'.cell? (ad171.add ((x9_2).toNat * 2)) = some (.bool ((rd_T62 l0_0 x9_2).f0)) ∧ w'.cell? ⟨(ad171.add ((x9_2).toNat * 2)).block, (ad171.add ((x9_2).toNat * 2)).off + 1, none⟩ = some (.string ((rd_T62 l0_0 x9_2).f1))) (ds := []) (bz 13 0) (by kernel_rfl) rfl rfl ⟨(bc BK0.out 0).trans rfl, ((HB.out.cell (World.block_lt_of_cell? w _ hw171_0)).trans hw171_0), ((HB.out.cell (World.block_lt_of_cell? w _ hw171_1)).trans hw171_1)⟩ (fun hHeld => ?_); refine with_tabW spec_l05Marks.tab10 spec_l05Marks.bits10 (fun HT_ HW_ => ?_)
        generalize wc.drew = w43 at HO_5 HO_6 HO_8 BK0 HB hx171_0 hx171_1 hHeld ⊢
        iterate 11 (first | (refine pz_ HT_ spec_l05Marks.cz0 rfl rfl rfl (v := ?_) (a' := ?_) (by kernel_rfl) (fun _ _ _ h => h) (Or.inl ⟨by rfl, ?_⟩) ?_ ?_; rotate_left; (intro w'; go_simp; with_reducible rfl); rotate_left; (simp only [Act.put, sA, sB, sC, i64_w, i32_w]; rfl)) | (refine tz_ HT_ HW_ spec_l05Marks.cz0 rfl rfl rfl (v := ?_) (a' := ?_) (by kernel_rfl) (fun _ _ _ h => h) (Or.inl ⟨by rfl, ?_⟩) hHeld ?_ ?_; rotate_left; (rintro w' ⟨s0, s1, s2⟩; go_simp; with_reducible rfl); rotate_left; (simp only [Act.put, sA, sB, sC, i64_w, i32_w]; rfl)))
        refine one_ (i := 11) (N := some 52) (bz 13 4095) rfl rfl (one_of HT_.out (by kernel_rfl)) (by decide) (fun K hK => ?_)
        refine goes_ Try.func50 (by kernel_rfl) rfl #[.string ((rd_T62 l0_0 x9_2).f1), .int .u8 (bt a1 x7_1)] (by rfl) rfl rfl (by (try simp only [List.map_toArray, List.map_cons, List.map_nil]); first | done | rfl | (simp only [List.length_drop, List.length_take]; rfl)) ?_
        with_reducible refine (spec_l05Passes.calls ((rd_T62 l0_0 x9_2).f1) (bt a1 x7_1) true _ A27.out).mono ?_
        rintro e w44 ⟨rfl, hb⟩
        refine ⟨_, rfl, ?_⟩
        have n0_ := AZ.mk (Kd.R_below (by (with_reducible repeat (first | apply Kd.R_alloc | apply Kd.R_drewN | apply Kd.R_drew)); exact HO_5.out) hb)
        have n1_ := AZ.mk (Kd.S_below (by (with_reducible repeat (first | apply Kd.S_alloc | apply Kd.S_drewN | apply Kd.S_drew)); exact HO_6.out) hb)
        have n2_ := AZ.mk (Kd.R_below (by (with_reducible repeat (first | apply Kd.R_alloc | apply Kd.R_drewN | apply Kd.R_drew)); exact HO_8.out) hb)
        have n3_ := AZ.mk (bb_ (g := g0_) (o := .cells #[.slice (some ad171) l0_0.length c0_0] 30 (0, 0)) (by (with_reducible repeat (first | refine bn_ ?_ _ | refine bd_ ?_ | refine ba_ ?_ _)); exact BK0.out) hb)
        have n4_ := AZ.mk (pT (by repeat (first | (with_reducible first | exact HB.out | apply pA | apply pN | apply pD | refine pS ?_ GE0.out) | exact HB.out)) hb)
        clear HO_5
        clear HO_6
        clear HO_8
        clear BK0
        clear HB
        have HO_5 := n0_
        have HO_6 := n1_
        have HO_8 := n2_
        have BK0 := n3_
        have HB := n4_
        clear n0_ n1_ n2_ n3_ n4_
        (try clear hb)
        (try clear hb2)
        (try clear hk)
        (try clear hi)
        refine hK.out _ _ ⟨(bc BK0.out 0).trans rfl, ((HB.out.cell (World.block_lt_of_cell? w _ hw171_0)).trans hw171_0), ((HB.out.cell (World.block_lt_of_cell? w _ hw171_1)).trans hw171_1)⟩ (fun hHeld => ?_)
        clear hK K
        refine norm_ (a' := ?_) ?_ ?_
        rotate_left
        ·show Act.put _ (some 52) _ = _
         simp only [Act.put, sA, sB, sC, i64_w, i32_w]
         rfl
        refine pure_ (i := 12) (N := some 53) (v := ?_) (a' := ?_) (bz 13 8191) rfl rfl (any_of HT_.out (by kernel_rfl)) (fun _ _ _ h => h) (Or.inl ⟨by rfl, ?_⟩) ?_ ?_
        rotate_left
        ·intro w'
         go_simp
         with_reducible rfl
        rotate_left
        ·simp only [Act.put, sA, sB, sC, i64_w, i32_w]
         rfl
        refine done_ (done_of HT_.out (by kernel_rfl)) ?_
        have hcz45_0 : w44.cell? ⟨g0_, 0, none⟩ = some (.slice (some ad171) l0_0.length c0_0) := (bc BK0.out 0).trans rfl
        have hfz45_0 := bf BK0.out 0
        have p173 : 0 ≤ (0 : Int) := (by omega)
        have q173 : 0 < (l0_0.length : Int) := oT (by first | (with_reducible assumption) | assumption)
        obtain ⟨ad173, e173, hx173_0, hx173_1⟩ := at_T62 HR0_0.out 0 p173 q173
        (try rw [← Nbq31.out] at hx173_0)
        obtain rfl : ad171 = ad173 := (by injection e173)
        have qi173 : (0 < l0_0.length) = True := eq_true (by omega)
        (try rw [show ((0 : Int)).toNat = 0 from rfl] at hx173_0)
        (try rw [show 0 * 2 = 0 from rfl] at hx173_0)
        (try rw [Addr.add_zero'] at hx173_0)
        (try rw [show ((0 : Int)).toNat = 0 from rfl] at hx173_1)
        (try rw [show 0 * 2 = 0 from rfl] at hx173_1)
        (try rw [Addr.add_zero'] at hx173_1)
        replace hx173_0 := (HB.out.cell (World.block_lt_of_cell? w _ hx173_0)).trans hx173_0
        replace hx173_1 := (HB.out.cell (World.block_lt_of_cell? w _ hx173_1)).trans hx173_1
        replace p173 := eq_true p173
        replace q173 := eq_true q173
        obtain ⟨Ao46, co46, eo46⟩ := Kd.R_slice HO_5.out
        subst eo46
        have p175 : 0 ≤ (x7_1 : Int) := oT (by first | (with_reducible assumption) | assumption)
        have q175 : x7_1 < (t158.length : Int) := oT (by first | (with_reducible assumption) | assumption)
        obtain ⟨ad175, e175, hx175_0⟩ := Kd.at_int (Kd.R_reads' HO_5.out).2.2 x7_1 p175 q175
        cases e175
        replace p175 := eq_true p175
        replace q175 := eq_true q175
        have p42 : 0 ≤ (0 : Int) := (by omega)
        have q42 : (0 : Int) < ((x8_2.length : Int) : Int) := oT (by first | (with_reducible assumption) | assumption)
        have qi42 : (0 < x8_2.length) = True := eq_true (by omega)
        obtain ⟨go42, co42, eo42, gb42, gl42, cl42, HG42⟩ := Kd.R_form HO_8.out (by omega)
        (first | cases eo42 | (injection eo42 with ea_ en_ ec_; (first | subst ea_ | (injection ea_ with ea_; subst ea_)); subst ec_; clear en_))
        have GB42 := AZ.mk gb42
        have GG42 := AZ.mk HG42
        clear gb42 gl42 HG42
        obtain ⟨hx42_0, hf42_0⟩ := Kd.R_celln false HO_8.out (0 : Int) p42 q42
        (try rw [show ((0 : Int)).toNat = 0 from rfl] at hx42_0)
        (try simp only [Nat.reduceMul, Nat.zero_mul, Nat.zero_add, Nat.reduceAdd] at hx42_0)
        (try rw [show ((0 : Int)).toNat = 0 from rfl] at hf42_0)
        (try simp only [Nat.reduceMul, Nat.zero_mul, Nat.zero_add, Nat.reduceAdd] at hf42_0)
        replace p42 := eq_true p42
        replace q42 := eq_true q42
        obtain ⟨hy47_, hz47_⟩ := Kd.R_celln false HO_8.out (0 : Int) (by omega) (oT (by first | (with_reducible assumption) | assumption))
        (try simp only [Int.reduceToNat, Int.toNat_zero, Int.toNat_ofNat, Nat.reduceMul, Nat.zero_mul, Nat.zero_add] at hy47_ hz47_)
        (try rw [show ((0 : Int)).toNat = 0 from rfl] at hy47_)
        (try rw [show ((0 : Int)).toNat = 0 from rfl] at hz47_)
        have HP47 := Kd.R_putg HO_8.out (0 : Int) (decide ((rd t158 x7_1) < 0))
        try go_wp2_with (first | ((with_reducible refine gate_store (t := 4) (p := 71) rfl ?_); refine store_event (t := 4) (p := 71) (v := ?vo_w48) (w1 := (w44.setCell ⟨go42, (0 : Int).toNat, none⟩ (.bool (decide ((rd t158 x7_1) < 0))))) ?hg ?ho ?hn ?hr ?_; (case ho => rfl); (case hg => rfl); (case hn => rfl); (case hr => first | (go_simp; done) | (go_simp; rfl)); intro w48 hw; have hg : w44.grownBy w48 (some go42) := (by rw [hw]; exact HP47.2); have hp_ : Kd.R Kd.bool 4 w48 w.heap.size (fun _ => True) (.slice (some ⟨go42, 0, none⟩) x8_2.length co42) y176 := (by rw [hw, Ny176.out]; exact HP47.1); clear HP47; have n0_ := AZ.mk (Kd.R_over' (v := (.slice (some ⟨go42, 0, none⟩) x8_2.length co42)) (by (with_reducible repeat (first | apply Kd.R_alloc | apply Kd.R_drewN | apply Kd.R_drew)); exact HO_5.out) (Kd.R_typed HO_8.out) (by decide) hg); have n1_ := AZ.mk (Kd.S_after (v := (.slice (some ⟨go42, 0, none⟩) x8_2.length co42)) (v1 := (.slice (some ⟨go42, 0, none⟩) x8_2.length co42)) (ok := (fun _ => True)) (by (with_reducible repeat (first | apply Kd.S_alloc | apply Kd.S_drewN | apply Kd.S_drew)); exact Kd.S_mono HO_6.out (fun _ hk => ⟨trivial, hk⟩)) hg (.inl rfl)); have n2_ := AZ.mk (hp_); have n3_ := AZ.mk (blk_grown (g := g0_) (o := .cells #[.slice (some ad171) l0_0.length c0_0] 30 (0, 0)) (by (with_reducible repeat (first | refine bn_ ?_ _ | refine bd_ ?_ | refine ba_ ?_ _)); exact BK0.out) hg (Kd.R_ne HO_8.out BK0.out (by decide))); have n4_ := AZ.mk ((by rw [hw]; exact pS (HB.out) GB42.out : Below w.heap.size w w48)); clear HO_5; clear HO_6; clear HO_8; clear BK0; clear HB; have HO_5 := n0_; have HO_6 := n1_; have HO_8 := n2_; have BK0 := n3_; have HB := n4_; clear n0_ n1_ n2_ n3_ n4_; clear hg hw hp_))
        go_roundg kj12
        case measure => have := HK1.out; have := HK2.out; have := HJ12.out; omega
        case rel => exact ⟨(y176), (wrap64 (x9_2 + 1)), (by first | rfl | (simp; done) | (simp [*]; done)), H', ⟨by have := HK1.out; have := HK2.out; have := HJ12.out; omega⟩, ⟨by (with_reducible repeat (first | apply Kd.R_alloc | apply Kd.R_drewN | apply Kd.R_drew)); exact HO_5.out⟩, ⟨by (with_reducible repeat (first | apply Kd.S_alloc | apply Kd.S_drewN | apply Kd.S_drew)); exact Kd.S_mono HO_6.out (fun _ hk => hk.2)⟩, ⟨by (with_reducible repeat (first | apply Kd.R_alloc | apply Kd.R_drewN | apply Kd.R_drew)); exact HO_8.out⟩, ⟨by (with_reducible repeat (first | refine bn_ ?_ _ | refine bd_ ?_ | refine ba_ ?_ _)); exact BK0.out⟩, ⟨by repeat (first | (with_reducible first | exact HB.out | apply pA | apply pN | apply pD | refine pS ?_ GE0.out) | exact HB.out)⟩⟩
       rw [if_neg c29] at H
       have c29b0 : (x9_2 == 0) = false := beq_eq_false_iff_ne.mpr c29
       have c29b1 : (x9_2 != 0) = true := bne_iff_ne.mpr c29
       by_cases c49 : x7_1 < (t158.length : Int)
       rotate_left
       ·rw [if_neg c49] at H
        exact absurd H (by simp)
       rw [if_pos c49] at H
       have c49b0 : decide (x7_1 < (t158.length : Int)) = true := decide_eq_true c49
       clear c49
       have H' := AZ.mk H
       clear H
       try go_wp2
       have n0_ := AZ.mk (Kd.R_drew HO_5.out)
       have n1_ := AZ.mk (Kd.S_drew HO_6.out)
       have n2_ := AZ.mk (Kd.R_drew HO_8.out)
       have n3_ := AZ.mk (bd_ BK0.out)
       have n4_ := AZ.mk (pD HB.out)
       clear HO_5
       clear HO_6
       clear HO_8
       clear BK0
       clear HB
       have HO_5 := n0_
       have HO_6 := n1_
       have HO_8 := n2_
       have BK0 := n3_
       have HB := n4_
       clear n0_ n1_ n2_ n3_ n4_
       have p171 : 0 ≤ (x9_2 : Int) := oT (by first | (with_reducible assumption) | assumption)
       have q171 : x9_2 < (l0_0.length : Int) := oT (by first | (with_reducible assumption) | assumption)
       obtain ⟨ad171, e171, hx171_0, hx171_1⟩ := at_T62 HR0_0.out x9_2 p171 q171
       have hw171_1 := hx171_1
       have hw171_0 := hx171_0
       cases e171
       replace hx171_0 := (HB.out.cell (World.block_lt_of_cell? w _ hx171_0)).trans hx171_0
       replace hx171_1 := (HB.out.cell (World.block_lt_of_cell? w _ hx171_1)).trans hx171_1
       replace p171 := eq_true p171
       replace q171 := eq_true q171
       have p26 : 0 ≤ (x7_1 : Int) := oT (by first | (with_reducible assumption) | assumption)
       have q26 : x7_1 < (a1.size : Int) := oT (by first | (with_reducible assumption) | assumption)
       have hx26 := bt_at a1 x7_1
       replace p26 := eq_true p26
       replace q26 := eq_true q26
       refine start_ (n := 13) (S := fun w' => w'.cell? ⟨g0_, 0, none⟩ = some (.slice (some ad171) l0_0.length c0_0) ∧ w'.cell? (ad171.add ((x9_2).toNat * 2)) = some (.bool ((rd_T62 l0_0 x9_2).f0)) ∧ w'.cell? ⟨(ad171.add ((x9_2).toNat * 2)).block, (ad171.add ((x9_2).toNat * 2)).off + 1, none⟩ = some (.string ((rd_T62 l0_0 x9_2).f1))) (ds := []) (bz 13 0) (by kernel_rfl) rfl rfl ⟨(bc BK0.out 0).trans rfl, ((HB.out.cell (World.block_lt_of_cell? w _ hw171_0)).trans hw171_0), ((HB.out.cell (World.block_lt_of_cell? w _ hw171_1)).trans hw171_1)⟩ (fun hHeld => ?_); refine with_tabW spec_l05Marks.tab10 spec_l05Marks.bits10 (fun HT_ HW_ => ?_)
       generalize wc.drew = w50 at HO_5 HO_6 HO_8 BK0 HB hx171_0 hx171_1 hHeld ⊢
       iterate 11 (first | (refine pz_ HT_ spec_l05Marks.cz0 rfl rfl rfl (v := ?_) (a' := ?_) (by kernel_rfl) (fun _ _ _ h => h) (Or.inl ⟨by rfl, ?_⟩) ?_ ?_; rotate_left; (intro w'; go_simp; with_reducible rfl); rotate_left; (simp only [Act.put, sA, sB, sC, i64_w, i32_w]; rfl)) | (refine tz_ HT_ HW_ spec_l05Marks.cz0 rfl rfl rfl (v := ?_) (a' := ?_) (by kernel_rfl) (fun _ _ _ h => h) (Or.inl ⟨by rfl, ?_⟩) hHeld ?_ ?_; rotate_left; (rintro w' ⟨s0, s1, s2⟩; go_simp; with_reducible rfl); rotate_left; (simp only [Act.put, sA, sB, sC, i64_w, i32_w]; rfl)))
       refine one_ (i := 11) (N := some 52) (bz 13 4095) rfl rfl (one_of HT_.out (by kernel_rfl)) (by decide) (fun K hK => ?_)
       refine goes_ Try.func50 (by kernel_rfl) rfl #[.string ((rd_T62 l0_0 x9_2).f1), .int .u8 (bt a1 x7_1)] (by rfl) rfl rfl (by (try simp only [List.map_toArray, List.map_cons, List.map_nil]); first | done | rfl | (simp only [List.length_drop, List.length_take]; rfl)) ?_
       with_reducible refine (spec_l05Passes.calls ((rd_T62 l0_0 x9_2).f1) (bt a1 x7_1) true _ A27.out).mono ?_
       rintro e w51 ⟨rfl, hb⟩
       refine ⟨_, rfl, ?_⟩
       have n0_ := AZ.mk (Kd.R_below (by (with_reducible repeat (first | apply Kd.R_alloc | apply Kd.R_drewN | apply Kd.R_drew)); exact HO_5.out) hb)
       have n1_ := AZ.mk (Kd.S_below (by (with_reducible repeat (first | apply Kd.S_alloc | apply Kd.S_drewN | apply Kd.S_drew)); exact HO_6.out) hb)
       have n2_ := AZ.mk (Kd.R_below (by (with_reducible repeat (first | apply Kd.R_alloc | apply Kd.R_drewN | apply Kd.R_drew)); exact HO_8.out) hb)
       have n3_ := AZ.mk (bb_ (g := g0_) (o := .cells #[.slice (some ad171) l0_0.length c0_0] 30 (0, 0)) (by (with_reducible repeat (first | refine bn_ ?_ _ | refine bd_ ?_ | refine ba_ ?_ _)); exact BK0.out) hb)
       have n4_ := AZ.mk (pT (by repeat (first | (with_reducible first | exact HB.out | apply pA | apply pN | apply pD | refine pS ?_ GE0.out) | exact HB.out)) hb)
       clear HO_5
       clear HO_6
       clear HO_8
       clear BK0
       clear HB
       have HO_5 := n0_
       have HO_6 := n1_
       have HO_8 := n2_
       have BK0 := n3_
       have HB := n4_
       clear n0_ n1_ n2_ n3_ n4_
       (try clear hb)
       (try clear hb2)
       (try clear hk)
       (try clear hi)
       refine hK.out _ _ ⟨(bc BK0.out 0).trans rfl, ((HB.out.cell (World.block_lt_of_cell? w _ hw171_0)).trans hw171_0), ((HB.out.cell (World.block_lt_of_cell? w _ hw171_1)).trans hw171_1)⟩ (fun hHeld => ?_)
       clear hK K
       refine norm_ (a' := ?_) ?_ ?_
       rotate_left
       ·show Act.put _ (some 52) _ = _
        simp only [Act.put, sA, sB, sC, i64_w, i32_w]
        rfl
       refine pure_ (i := 12) (N := some 53) (v := ?_) (a' := ?_) (bz 13 8191) rfl rfl (any_of HT_.out (by kernel_rfl)) (fun _ _ _ h => h) (Or.inl ⟨by rfl, ?_⟩) ?_ ?_
       rotate_left
       ·intro w'
        go_simp
        with_reducible rfl
       rotate_left
       ·simp only [Act.put, sA, sB, sC, i64_w, i32_w]
        rfl
       refine done_ (done_of HT_.out (by kernel_rfl)) ?_
       obtain ⟨Ao52, co52, eo52⟩ := Kd.R_slice HO_5.out
       subst eo52
       have p177 : 0 ≤ (x7_1 : Int) := oT (by first | (with_reducible assumption) | assumption)
       have q177 : x7_1 < (t158.length : Int) := oT (by first | (with_reducible assumption) | assumption)
       obtain ⟨ad177, e177, hx177_0⟩ := Kd.at_int (Kd.R_reads' HO_5.out).2.2 x7_1 p177 q177
       cases e177
       replace p177 := eq_true p177
       replace q177 := eq_true q177
       try go_wp2
       go_loopg [10] kj12 (fun kq v10 w' => ∃ (x8_4 : List Bool) (x10_4 : Int), v10 = .int .i64 x10_4 ∧ AZ (spec_l05Marks.l2 kq a1 t158 x6_1 x7_1 x8_4 x9_2 x10_4 l0_0 = some r) ∧ AZ (kq ≤ kj12) ∧ AZ (Kd.R (Kd.int .i64) 2 w' w.heap.size (fun _ => True) (.slice (some ad177) t158.length co52) t158) ∧ AZ (Kd.S (Kd.slice 4 Kd.bool) 61 w' w.heap.size (fun k_ => some k_ ≠ (v165 : Value).ownBlock) u6 x6_1) ∧ AZ (Kd.R Kd.bool 4 w' w.heap.size (fun _ => True) v165 x8_4) ∧ AZ (w'.heap[g0_]? = some (.cells #[(.slice (some ad171) l0_0.length c0_0)] 30 (0, 0))) ∧ AZ (Below w.heap.size w w'))
       case atStart => exact ⟨(x8_2), (rd t158 x7_1), (by first | rfl | (simp; done) | (simp [*]; done)), H', ⟨Nat.le_refl _⟩, ⟨by (with_reducible repeat (first | apply Kd.R_alloc | apply Kd.R_drewN | apply Kd.R_drew)); exact HO_5.out⟩, ⟨by (with_reducible repeat (first | apply Kd.S_alloc | apply Kd.S_drewN | apply Kd.S_drew)); exact HO_6.out⟩, ⟨by (with_reducible repeat (first | apply Kd.R_alloc | apply Kd.R_drewN | apply Kd.R_drew)); exact HO_8.out⟩, ⟨by (with_reducible repeat (first | refine bn_ ?_ _ | refine bd_ ?_ | refine ba_ ?_ _)); exact BK0.out⟩, ⟨by repeat (first | (with_reducible first | exact HB.out | apply pA | apply pN | apply pD | refine pS ?_ GE0.out) | exact HB.out)⟩⟩
       case round =>
        clear H'
        try clear p1
        try clear q1
        try clear hx1
        try clear qi1
        try clear c2
        try clear p2
        try clear q2
        try clear hx2
        try clear c3
        try clear p3
        try clear q3
        try clear hx3
        try clear qi3
        try clear hf3
        try clear c4
        try clear p4
        try clear q4
        try clear hx4
        try clear qi4
        try clear hf4
        try clear c5
        try clear p6
        try clear p17
        try clear q17
        try clear hx17
        try clear qi17
        try clear p26
        try clear q26
        try clear hx26
        try clear c29
        try clear c29b0
        try clear c29b1
        try clear c30
        try clear q31
        try clear c32
        try clear c33
        try clear p34
        try clear q34
        try clear hx34
        try clear qi34
        try clear hf34
        try clear c40
        try clear c40b0
        try clear c41
        try clear c41b0
        try clear c41b1
        try clear p42
        try clear q42
        try clear hx42
        try clear qi42
        try clear hf42
        try clear c49
        try clear c49b0
        try clear c50
        try clear hcz37_0
        try clear hcz45_0
        try clear hfz37_0
        try clear hfz45_0
        try clear hx171_0
        try clear hx171_1
        try clear hx173_0
        try clear hx173_1
        try clear hx175_0
        try clear hx177_0
        try clear hx34_0
        try clear hx42_0
        try clear p171
        try clear p173
        try clear p175
        try clear p177
        try clear p26
        try clear p34
        try clear p42
        try clear q171
        try clear q173
        try clear q175
        try clear q177
        try clear q26
        try clear q34
        try clear q42
        obtain ⟨x8_4, x10_4, rfl, HA, HK4, HO_5, HO_6, HO_8, BK0, HB⟩ := hrel
        cases gk with
        | zero => exact absurd HA.out (by simp [spec_l05Marks.l2])
        | succ k4 =>
         have H := HA.out
         clear HA
         simp only [spec_l05Marks.l2] at H
         by_cases c53 : x10_4 ≥ 0
         rotate_left
         ·rw [if_neg c53] at H
          have c53b0 : decide (0 ≤ x10_4) = false := decide_eq_false c53
          clear c53
          have H' := AZ.mk H
          clear H
          go_wp2
          go_roundg k4
          case measure => have := HK1.out; have := HK2.out; have := HJ12.out; have := HK4.out; omega
          case rel => exact ⟨(x8_4), (wrap64 (x9_2 + 1)), (by first | rfl | (simp; done) | (simp [*]; done)), H', ⟨by have := HK1.out; have := HK2.out; have := HJ12.out; have := HK4.out; omega⟩, ⟨by (with_reducible repeat (first | apply Kd.R_alloc | apply Kd.R_drewN | apply Kd.R_drew)); exact HO_5.out⟩, ⟨by (with_reducible repeat (first | apply Kd.S_alloc | apply Kd.S_drewN | apply Kd.S_drew)); exact HO_6.out⟩, ⟨by (with_reducible repeat (first | apply Kd.R_alloc | apply Kd.R_drewN | apply Kd.R_drew)); exact HO_8.out⟩, ⟨by (with_reducible repeat (first | refine bn_ ?_ _ | refine bd_ ?_ | refine ba_ ?_ _)); exact BK0.out⟩, ⟨by repeat (first | (with_reducible first | exact HB.out | apply pA | apply pN | apply pD | refine pS ?_ GE0.out) | exact HB.out)⟩⟩
         rw [if_pos c53] at H
         have c53b0 : decide (0 ≤ x10_4) = true := decide_eq_true c53
         clear c53
         by_cases c54 : 0 ≤ x10_4
         rotate_left
         ·rw [if_neg c54] at H
          exact absurd H (by simp)
         rw [if_pos c54] at H
         have c54b0 : decide (0 ≤ x10_4) = true := decide_eq_true c54
         clear c54
         by_cases c55 : x10_4 < (x6_1.length : Int)
         rotate_left
         ·rw [if_neg c55] at H
          exact absurd H (by simp)
         rw [if_pos c55] at H
         have c55b0 : decide (x10_4 < (x6_1.length : Int)) = true := decide_eq_true c55
         clear c55
         obtain ⟨ji56, hji56⟩ : ∃ j_ : Int, (wrap64 (x9_2 - 1)) = j_ := ⟨_, rfl⟩
         replace H : (if 0 ≤ (ji56) then (if (ji56) < ((rd_L6 x6_1 x10_4).length : Int) then (if rdOf false (rd_L6 x6_1 x10_4) (ji56) = true then (if 0 ≤ x9_2 then (if x9_2 < (x8_4.length : Int) then ((some (x8_4.set (x9_2 : Int).toNat true : List Bool)).bind fun y180 => (if x9_2 < (l0_0.length : Int) then (if ((rd_T62 l0_0 x9_2).f0 = true) then (if x10_4 < (t158.length : Int) then (spec_l05Marks.l2 k4 a1 t158 x6_1 x7_1 y180 x9_2 (rd t158 x10_4) l0_0) else (none)) else (spec_l05Marks.l1 k4 a1 t158 x6_1 x7_1 y180 (wrap64 (x9_2 + 1)) l0_0)) else (none))) else (none)) else (none)) else (if 0 ≤ x9_2 then (if x9_2 < (l0_0.length : Int) then (if ((rd_T62 l0_0 x9_2).f0 = true) then (if x10_4 < (t158.length : Int) then (spec_l05Marks.l2 k4 a1 t158 x6_1 x7_1 x8_4 x9_2 (rd t158 x10_4) l0_0) else (none)) else (spec_l05Marks.l1 k4 a1 t158 x6_1 x7_1 x8_4 (wrap64 (x9_2 + 1)) l0_0)) else (none)) else (none))) else (none)) else (none)) = some r := by first | (rw [hji56] at H; exact H) | (simp only [hji56] at H ⊢; exact H)
         have hji56w : (IntKind.i64.wrap (x9_2 - 1)) = ji56 := (i64_w _).trans hji56
         by_cases c57 : 0 ≤ (ji56)
         rotate_left
         ·rw [if_neg c57] at H
          exact absurd H (by simp)
         rw [if_pos c57] at H
         have c57b0 : decide (0 ≤ (ji56)) = true := decide_eq_true c57
         clear c57
         by_cases c58 : (ji56) < ((rd_L6 x6_1 x10_4).length : Int)
         rotate_left
         ·rw [if_neg c58] at H
          exact absurd H (by simp)
         rw [if_pos c58] at H
         have c58b0 : decide ((ji56) < ((rd_L6 x6_1 x10_4).length : Int)) = true := decide_eq_true c58
         clear c58
         obtain ⟨bq59, hbq59⟩ : ∃ b_ : Bool, b_ = (rdOf false (rd_L6 x6_1 x10_4) (ji56)) := ⟨_, rfl⟩
         replace H : (if bq59 = true then (if 0 ≤ x9_2 then (if x9_2 < (x8_4.length : Int) then ((some (x8_4.set (x9_2 : Int).toNat true : List Bool)).bind fun y180 => (if x9_2 < (l0_0.length : Int) then (if ((rd_T62 l0_0 x9_2).f0 = true) then (if x10_4 < (t158.length : Int) then (spec_l05Marks.l2 k4 a1 t158 x6_1 x7_1 y180 x9_2 (rd t158 x10_4) l0_0) else (none)) else (spec_l05Marks.l1 k4 a1 t158 x6_1 x7_1 y180 (wrap64 (x9_2 + 1)) l0_0)) else (none))) else (none)) else (none)) else (if 0 ≤ x9_2 then (if x9_2 < (l0_0.length : Int) then (if ((rd_T62 l0_0 x9_2).f0 = true) then (if x10_4 < (t158.length : Int) then (spec_l05Marks.l2 k4 a1 t158 x6_1 x7_1 x8_4 x9_2 (rd t158 x10_4) l0_0) else (none)) else (spec_l05Marks.l1 k4 a1 t158 x6_1 x7_1 x8_4 (wrap64 (x9_2 + 1)) l0_0)) else (none)) else (none))) = some r := by rw [← hbq59] at H; exact H
         have Nbq59 := AZ.mk hbq59
         clear hbq59
         by_cases c60 : bq59 = true
         rotate_left
         ·replace c60 := Bool.eq_false_iff.mpr c60
          subst c60
          have H1 : (if 0 ≤ x9_2 then (if x9_2 < (l0_0.length : Int) then (if ((rd_T62 l0_0 x9_2).f0 = true) then (if x10_4 < (t158.length : Int) then (spec_l05Marks.l2 k4 a1 t158 x6_1 x7_1 x8_4 x9_2 (rd t158 x10_4) l0_0) else (none)) else (spec_l05Marks.l1 k4 a1 t158 x6_1 x7_1 x8_4 (wrap64 (x9_2 + 1)) l0_0)) else (none)) else (none)) = some r := by rw [if_neg (show ¬ (false = true) by decide)] at H; exact H
          clear H
          have H := H1
          clear H1
          by_cases c76 : 0 ≤ x9_2
          rotate_left
          ·rw [if_neg c76] at H
           exact absurd H (by simp)
          rw [if_pos c76] at H
          have c76b0 : decide (0 ≤ x9_2) = true := decide_eq_true c76
          clear c76
          by_cases c77 : x9_2 < (l0_0.length : Int)
          rotate_left
          ·rw [if_neg c77] at H
           exact absurd H (by simp)
          rw [if_pos c77] at H
          have c77b0 : decide (x9_2 < (l0_0.length : Int)) = true := decide_eq_true c77
          clear c77
          obtain ⟨bq78, hbq78⟩ : ∃ b_ : Bool, b_ = ((rd_T62 l0_0 x9_2).f0) := ⟨_, rfl⟩
          replace H : (if (bq78 = true) then (if x10_4 < (t158.length : Int) then (spec_l05Marks.l2 k4 a1 t158 x6_1 x7_1 x8_4 x9_2 (rd t158 x10_4) l0_0) else (none)) else (spec_l05Marks.l1 k4 a1 t158 x6_1 x7_1 x8_4 (wrap64 (x9_2 + 1)) l0_0)) = some r := by rw [← hbq78] at H; exact H
          have Nbq78 := AZ.mk hbq78
          clear hbq78
          by_cases c79 : (bq78 = true)
          rotate_left
          ·replace c79 := Bool.eq_false_iff.mpr c79
           subst c79
           have H1 : (spec_l05Marks.l1 k4 a1 t158 x6_1 x7_1 x8_4 (wrap64 (x9_2 + 1)) l0_0) = some r := by rw [if_neg (show ¬ (false = true) by decide)] at H; exact H
           clear H
           have H := H1
           clear H1
           have H' := AZ.mk H
           clear H
           obtain ⟨Ao83, co83, eo83⟩ := Kd.S_slice HO_6.out
           subst eo83
           have p178 : 0 ≤ (x10_4 : Int) := oT (by first | (with_reducible assumption) | assumption)
           have q178 : x10_4 < (x6_1.length : Int) := oT (by first | (with_reducible assumption) | assumption)
           obtain ⟨ad178, A178_0, c178_0, e178, hx178_0, hl178_0, hi178_0⟩ := at_L6 (Kd.S_reads' HO_6.out).2.2 x10_4 p178 q178
           cases e178
           obtain ⟨ce178, hce178, hMe178, hcc178⟩ := Kd.S_get HO_6.out [] x10_4 p178 (by first | exact q178 | exact oT (by first | (with_reducible assumption) | assumption) | (have e_ := (Kd.S_reads' HO_6.out).1; omega))
           obtain ⟨ve178_0, rfl, ge178_0⟩ := hMe178
           have hv178_0 := hcc178 0 _ rfl
           rw [Nat.add_zero, show ((Kd.slice 4 Kd.bool)).sz = 1 from rfl, Nat.mul_one] at hv178_0
           replace hv178_0 := Option.some.inj (hv178_0.symm.trans hx178_0)
           rw [hv178_0] at ge178_0
           have HL178_0 := AZ.mk (show Kd.R Kd.bool 4 _ _ _ _ (rd_L6 x6_1 x10_4) from ge178_0)
           clear hv178_0 ge178_0
           clear hcc178 hce178
           have HR178_0 := AZ.mk hi178_0
           have HC178_0 := AZ.mk hl178_0
           clear hi178_0 hl178_0
           replace p178 := eq_true p178
           replace q178 := eq_true q178
           have p179 : 0 ≤ ((ji56) : Int) := oT (by first | (with_reducible assumption) | assumption)
           have q179 : (ji56) < ((rd_L6 x6_1 x10_4).length : Int) := oT (by first | (with_reducible assumption) | assumption)
           obtain ⟨ad179, e179, hx179_0⟩ := Kd.at_bool (by repeat (first | (with_reducible exact HR178_0.out) | (with_reducible refine Kd.C_alloc ?_ _) | (with_reducible refine Kd.C_drewN ?_ _) | (with_reducible refine Kd.C_drew ?_) | exact HR178_0.out)) (ji56) p179 q179
           (try rw [← Nbq59.out] at hx179_0)
           (try rw [← Nbq78.out] at hx179_0)
           cases e179
           replace p179 := eq_true p179
           replace q179 := eq_true q179
           have hcz84_0 : wr.cell? ⟨g0_, 0, none⟩ = some (.slice (some ad171) l0_0.length c0_0) := (bc BK0.out 0).trans rfl
           have hfz84_0 := bf BK0.out 0
           have p183 : 0 ≤ (x9_2 : Int) := oT (by first | (with_reducible assumption) | assumption)
           have q183 : x9_2 < (l0_0.length : Int) := oT (by first | (with_reducible assumption) | assumption)
           obtain ⟨ad183, e183, hx183_0, hx183_1⟩ := at_T62 HR0_0.out x9_2 p183 q183
           (try rw [← Nbq59.out] at hx183_0)
           (try rw [← Nbq78.out] at hx183_0)
           obtain rfl : ad171 = ad183 := (by injection e183)
           replace hx183_0 := (HB.out.cell (World.block_lt_of_cell? w _ hx183_0)).trans hx183_0
           replace hx183_1 := (HB.out.cell (World.block_lt_of_cell? w _ hx183_1)).trans hx183_1
           replace p183 := eq_true p183
           replace q183 := eq_true q183
           go_wp2
           go_roundg k4
           case measure => have := HK1.out; have := HK2.out; have := HJ12.out; have := HK4.out; omega
           case rel => exact ⟨(x8_4), (wrap64 (x9_2 + 1)), (by first | rfl | (simp; done) | (simp [*]; done)), H', ⟨by have := HK1.out; have := HK2.out; have := HJ12.out; have := HK4.out; omega⟩, ⟨by (with_reducible repeat (first | apply Kd.R_alloc | apply Kd.R_drewN | apply Kd.R_drew)); exact HO_5.out⟩, ⟨by (with_reducible repeat (first | apply Kd.S_alloc | apply Kd.S_drewN | apply Kd.S_drew)); exact HO_6.out⟩, ⟨by (with_reducible repeat (first | apply Kd.R_alloc | apply Kd.R_drewN | apply Kd.R_drew)); exact HO_8.out⟩, ⟨by (with_reducible repeat (first | refine bn_ ?_ _ | refine bd_ ?_ | refine ba_ ?_ _)); exact BK0.out⟩, ⟨by repeat (first | (with_reducible first | exact HB.out | apply pA | apply pN | apply pD | refine pS ?_ GE0.out) | exact HB.out)⟩⟩
          subst c79
          have H1 : (if x10_4 < (t158.length : Int) then (spec_l05Marks.l2 k4 a1 t158 x6_1 x7_1 x8_4 x9_2 (rd t158 x10_4) l0_0) else (none)) = some r := by rw [if_pos rfl] at H; exact H
          clear H
          have H := H1
          clear H1
          by_cases c80 : x10_4 < (t158.length : Int)
          rotate_left
          ·rw [if_neg c80] at H
           exact absurd H (by simp)
          rw [if_pos c80] at H
          have c80b0 : decide (x10_4 < (t158.length : Int)) = true := decide_eq_true c80
          clear c80
          have H' := AZ.mk H
          clear H
          obtain ⟨Ao81, co81, eo81⟩ := Kd.S_slice HO_6.out
          subst eo81
          have p178 : 0 ≤ (x10_4 : Int) := oT (by first | (with_reducible assumption) | assumption)
          have q178 : x10_4 < (x6_1.length : Int) := oT (by first | (with_reducible assumption) | assumption)
          obtain ⟨ad178, A178_0, c178_0, e178, hx178_0, hl178_0, hi178_0⟩ := at_L6 (Kd.S_reads' HO_6.out).2.2 x10_4 p178 q178
          cases e178
          obtain ⟨ce178, hce178, hMe178, hcc178⟩ := Kd.S_get HO_6.out [] x10_4 p178 (by first | exact q178 | exact oT (by first | (with_reducible assumption) | assumption) | (have e_ := (Kd.S_reads' HO_6.out).1; omega))
          obtain ⟨ve178_0, rfl, ge178_0⟩ := hMe178
          have hv178_0 := hcc178 0 _ rfl
          rw [Nat.add_zero, show ((Kd.slice 4 Kd.bool)).sz = 1 from rfl, Nat.mul_one] at hv178_0
          replace hv178_0 := Option.some.inj (hv178_0.symm.trans hx178_0)
          rw [hv178_0] at ge178_0
          have HL178_0 := AZ.mk (show Kd.R Kd.bool 4 _ _ _ _ (rd_L6 x6_1 x10_4) from ge178_0)
          clear hv178_0 ge178_0
          clear hcc178 hce178
          have HR178_0 := AZ.mk hi178_0
          have HC178_0 := AZ.mk hl178_0
          clear hi178_0 hl178_0
          replace p178 := eq_true p178
          replace q178 := eq_true q178
          have p179 : 0 ≤ ((ji56) : Int) := oT (by first | (with_reducible assumption) | assumption)
          have q179 : (ji56) < ((rd_L6 x6_1 x10_4).length : Int) := oT (by first | (with_reducible assumption) | assumption)
          obtain ⟨ad179, e179, hx179_0⟩ := Kd.at_bool (by repeat (first | (with_reducible exact HR178_0.out) | (with_reducible refine Kd.C_alloc ?_ _) | (with_reducible refine Kd.C_drewN ?_ _) | (with_reducible refine Kd.C_drew ?_) | exact HR178_0.out)) (ji56) p179 q179
          (try rw [← Nbq59.out] at hx179_0)
          (try rw [← Nbq78.out] at hx179_0)
          cases e179
          replace p179 := eq_true p179
          replace q179 := eq_true q179
          have hcz82_0 : wr.cell? ⟨g0_, 0, none⟩ = some (.slice (some ad171) l0_0.length c0_0) := (bc BK0.out 0).trans rfl
          have hfz82_0 := bf BK0.out 0
          have p183 : 0 ≤ (x9_2 : Int) := oT (by first | (with_reducible assumption) | assumption)
          have q183 : x9_2 < (l0_0.length : Int) := oT (by first | (with_reducible assumption) | assumption)
          obtain ⟨ad183, e183, hx183_0, hx183_1⟩ := at_T62 HR0_0.out x9_2 p183 q183
          (try rw [← Nbq59.out] at hx183_0)
          (try rw [← Nbq78.out] at hx183_0)
          obtain rfl : ad171 = ad183 := (by injection e183)
          replace hx183_0 := (HB.out.cell (World.block_lt_of_cell? w _ hx183_0)).trans hx183_0
          replace hx183_1 := (HB.out.cell (World.block_lt_of_cell? w _ hx183_1)).trans hx183_1
          replace p183 := eq_true p183
          replace q183 := eq_true q183
          have p184 : 0 ≤ (x10_4 : Int) := oT (by first | (with_reducible assumption) | assumption)
          have q184 : x10_4 < (t158.length : Int) := oT (by first | (with_reducible assumption) | assumption)
          obtain ⟨ad184, e184, hx184_0⟩ := Kd.at_int (Kd.R_reads' HO_5.out).2.2 x10_4 p184 q184
          obtain rfl : ad177 = ad184 := (by injection e184)
          replace p184 := eq_true p184
          replace q184 := eq_true q184
          go_wp2
          go_roundg k4
          case measure => have := HK1.out; have := HK2.out; have := HJ12.out; have := HK4.out; omega
          case rel => exact ⟨(x8_4), (rd t158 x10_4), (by first | rfl | (simp; done) | (simp [*]; done)), H', ⟨by have := HK1.out; have := HK2.out; have := HJ12.out; have := HK4.out; omega⟩, ⟨by (with_reducible repeat (first | apply Kd.R_alloc | apply Kd.R_drewN | apply Kd.R_drew)); exact HO_5.out⟩, ⟨by (with_reducible repeat (first | apply Kd.S_alloc | apply Kd.S_drewN | apply Kd.S_drew)); exact HO_6.out⟩, ⟨by (with_reducible repeat (first | apply Kd.R_alloc | apply Kd.R_drewN | apply Kd.R_drew)); exact HO_8.out⟩, ⟨by (with_reducible repeat (first | refine bn_ ?_ _ | refine bd_ ?_ | refine ba_ ?_ _)); exact BK0.out⟩, ⟨by repeat (first | (with_reducible first | exact HB.out | apply pA | apply pN | apply pD | refine pS ?_ GE0.out) | exact HB.out)⟩⟩
         subst c60
         have H1 : (if 0 ≤ x9_2 then (if x9_2 < (x8_4.length : Int) then ((some (x8_4.set (x9_2 : Int).toNat true : List Bool)).bind fun y180 => (if x9_2 < (l0_0.length : Int) then (if ((rd_T62 l0_0 x9_2).f0 = true) then (if x10_4 < (t158.length : Int) then (spec_l05Marks.l2 k4 a1 t158 x6_1 x7_1 y180 x9_2 (rd t158 x10_4) l0_0) else (none)) else (spec_l05Marks.l1 k4 a1 t158 x6_1 x7_1 y180 (wrap64 (x9_2 + 1)) l0_0)) else (none))) else (none)) else (none)) = some r := by rw [if_pos rfl] at H; exact H
         clear H
         have H := H1
         clear H1
         by_cases c61 : 0 ≤ x9_2
         rotate_left
         ·rw [if_neg c61] at H
          exact absurd H (by simp)
         rw [if_pos c61] at H
         have c61b0 : decide (0 ≤ x9_2) = true := decide_eq_true c61
         clear c61
         by_cases c62 : x9_2 < (x8_4.length : Int)
         rotate_left
         ·rw [if_neg c62] at H
          exact absurd H (by simp)
         rw [if_pos c62] at H
         have c62b0 : decide (x9_2 < (x8_4.length : Int)) = true := decide_eq_true c62
         clear c62
         obtain ⟨y180, hy180⟩ : ∃ y_ : List Bool, y_ = (x8_4.set (x9_2 : Int).toNat true) := ⟨_, rfl⟩
         replace H : (if x9_2 < (l0_0.length : Int) then (if ((rd_T62 l0_0 x9_2).f0 = true) then (if x10_4 < (t158.length : Int) then (spec_l05Marks.l2 k4 a1 t158 x6_1 x7_1 y180 x9_2 (rd t158 x10_4) l0_0) else (none)) else (spec_l05Marks.l1 k4 a1 t158 x6_1 x7_1 y180 (wrap64 (x9_2 + 1)) l0_0)) else (none)) = some r := by first | (rw [hy180]; with_reducible exact H) | (have H2_ := (Option.bind_some _ _).symm.trans H; rw [hy180]; with_reducible exact H2_) | (have H2_ := (Option.bind_some _ _).symm.trans H; with_reducible exact H2_) | with_reducible exact H | (rw [hy180]; exact H) | exact H
         have Ny180 := AZ.mk hy180
         clear hy180
         by_cases c64 : x9_2 < (l0_0.length : Int)
         rotate_left
         ·rw [if_neg c64] at H
          exact absurd H (by simp)
         rw [if_pos c64] at H
         have c64b0 : decide (x9_2 < (l0_0.length : Int)) = true := decide_eq_true c64
         clear c64
         obtain ⟨bq65, hbq65⟩ : ∃ b_ : Bool, b_ = ((rd_T62 l0_0 x9_2).f0) := ⟨_, rfl⟩
         replace H : (if (bq65 = true) then (if x10_4 < (t158.length : Int) then (spec_l05Marks.l2 k4 a1 t158 x6_1 x7_1 y180 x9_2 (rd t158 x10_4) l0_0) else (none)) else (spec_l05Marks.l1 k4 a1 t158 x6_1 x7_1 y180 (wrap64 (x9_2 + 1)) l0_0)) = some r := by rw [← hbq65] at H; exact H
         have Nbq65 := AZ.mk hbq65
         clear hbq65
         by_cases c66 : (bq65 = true)
         rotate_left
         ·replace c66 := Bool.eq_false_iff.mpr c66
          subst c66
          have H1 : (spec_l05Marks.l1 k4 a1 t158 x6_1 x7_1 y180 (wrap64 (x9_2 + 1)) l0_0) = some r := by rw [if_neg (show ¬ (false = true) by decide)] at H; exact H
          clear H
          have H := H1
          clear H1
          have H' := AZ.mk H
          clear H
          obtain ⟨Ao72, co72, eo72⟩ := Kd.S_slice HO_6.out
          subst eo72
          have p178 : 0 ≤ (x10_4 : Int) := oT (by first | (with_reducible assumption) | assumption)
          have q178 : x10_4 < (x6_1.length : Int) := oT (by first | (with_reducible assumption) | assumption)
          obtain ⟨ad178, A178_0, c178_0, e178, hx178_0, hl178_0, hi178_0⟩ := at_L6 (Kd.S_reads' HO_6.out).2.2 x10_4 p178 q178
          cases e178
          obtain ⟨ce178, hce178, hMe178, hcc178⟩ := Kd.S_get HO_6.out [] x10_4 p178 (by first | exact q178 | exact oT (by first | (with_reducible assumption) | assumption) | (have e_ := (Kd.S_reads' HO_6.out).1; omega))
          obtain ⟨ve178_0, rfl, ge178_0⟩ := hMe178
          have hv178_0 := hcc178 0 _ rfl
          rw [Nat.add_zero, show ((Kd.slice 4 Kd.bool)).sz = 1 from rfl, Nat.mul_one] at hv178_0
          replace hv178_0 := Option.some.inj (hv178_0.symm.trans hx178_0)
          rw [hv178_0] at ge178_0
          have HL178_0 := AZ.mk (show Kd.R Kd.bool 4 _ _ _ _ (rd_L6 x6_1 x10_4) from ge178_0)
          clear hv178_0 ge178_0
          clear hcc178 hce178
          have HR178_0 := AZ.mk hi178_0
          have HC178_0 := AZ.mk hl178_0
          clear hi178_0 hl178_0
          replace p178 := eq_true p178
          replace q178 := eq_true q178
          have p179 : 0 ≤ ((ji56) : Int) := oT (by first | (with_reducible assumption) | assumption)
          have q179 : (ji56) < ((rd_L6 x6_1 x10_4).length : Int) := oT (by first | (with_reducible assumption) | assumption)
          obtain ⟨ad179, e179, hx179_0⟩ := Kd.at_bool (by repeat (first | (with_reducible exact HR178_0.out) | (with_reducible refine Kd.C_alloc ?_ _) | (with_reducible refine Kd.C_drewN ?_ _) | (with_reducible refine Kd.C_drew ?_) | exact HR178_0.out)) (ji56) p179 q179
          (try rw [← Nbq59.out] at hx179_0)
          (try rw [← Nbq65.out] at hx179_0)
          cases e179
          replace p179 := eq_true p179
          replace q179 := eq_true q179
          have p63 : 0 ≤ (x9_2 : Int) := oT (by first | (with_reducible assumption) | assumption)
          have q63 : (x9_2 : Int) < ((x8_4.length : Int) : Int) := oT (by first | (with_reducible assumption) | assumption)
          obtain ⟨go63, co63, eo63, gb63, gl63, cl63, HG63⟩ := Kd.R_form HO_8.out (by omega)
          (first | cases eo63 | (injection eo63 with ea_ en_ ec_; (first | subst ea_ | (injection ea_ with ea_; subst ea_)); subst ec_; clear en_))
          have GB63 := AZ.mk gb63
          have GG63 := AZ.mk HG63
          clear gb63 gl63 HG63
          obtain ⟨hx63_0, hf63_0⟩ := Kd.R_celln false HO_8.out (x9_2 : Int) p63 q63
          replace p63 := eq_true p63
          replace q63 := eq_true q63
          have HP73 := Kd.R_putg HO_8.out (x9_2 : Int) true
          go_wp2_with (first | ((with_reducible refine gate_store (t := 4) (p := 92) rfl ?_); refine store_event (t := 4) (p := 92) (v := ?vo_w74) (w1 := (wr.setCell ⟨go63, (x9_2 : Int).toNat, none⟩ (.bool true))) ?hg ?ho ?hn ?hr ?_; (case ho => rfl); (case hg => rfl); (case hn => rfl); (case hr => first | (go_simp; done) | (go_simp; rfl)); intro w74 hw; have hg : wr.grownBy w74 (some go63) := (by rw [hw]; exact HP73.2); have hp_ : Kd.R Kd.bool 4 w74 w.heap.size (fun _ => True) (.slice (some ⟨go63, 0, none⟩) x8_4.length co63) y180 := (by rw [hw, Ny180.out]; exact HP73.1); clear HP73; have n0_ := AZ.mk (Kd.R_over' (v := (.slice (some ⟨go63, 0, none⟩) x8_4.length co63)) (by (with_reducible repeat (first | apply Kd.R_alloc | apply Kd.R_drewN | apply Kd.R_drew)); exact HO_5.out) (Kd.R_typed HO_8.out) (by decide) hg); have n1_ := AZ.mk (Kd.S_after (v := (.slice (some ⟨go63, 0, none⟩) x8_4.length co63)) (v1 := (.slice (some ⟨go63, 0, none⟩) x8_4.length co63)) (ok := (fun _ => True)) (by (with_reducible repeat (first | apply Kd.S_alloc | apply Kd.S_drewN | apply Kd.S_drew)); exact Kd.S_mono HO_6.out (fun _ hk => ⟨trivial, hk⟩)) hg (.inl rfl)); have n2_ := AZ.mk (hp_); have n3_ := AZ.mk (blk_grown (g := g0_) (o := .cells #[.slice (some ad171) l0_0.length c0_0] 30 (0, 0)) (by (with_reducible repeat (first | refine bn_ ?_ _ | refine bd_ ?_ | refine ba_ ?_ _)); exact BK0.out) hg (Kd.R_ne HO_8.out BK0.out (by decide))); have n4_ := AZ.mk (Kd.R_after (v := (.slice (some ⟨go63, 0, none⟩) x8_4.length co63)) (v1 := (.slice (some ⟨go63, 0, none⟩) x8_4.length co63)) (ok := (fun k_ => some k_ ≠ (.slice (some ad178) x6_1.length co72 : Value).ownBlock)) (by (with_reducible repeat (first | apply Kd.R_alloc | apply Kd.R_drewN | apply Kd.R_drew)); exact Kd.R_mono HL178_0.out (fun _ hk => ⟨hk.2, hk.1⟩)) hg (.inl rfl)); have n5_ := AZ.mk ((by rw [hw]; exact pS (HB.out) GB63.out : Below w.heap.size w w74)); clear HO_5; clear HO_6; clear HO_8; clear BK0; clear HL178_0; clear HB; have HO_5 := n0_; have HO_6 := n1_; have HO_8 := n2_; have BK0 := n3_; have HL178_0 := n4_; have HB := n5_; clear n0_ n1_ n2_ n3_ n4_ n5_; clear hg hw hp_; have hcz75_0 : w74.cell? ⟨g0_, 0, none⟩ = some (.slice (some ad171) l0_0.length c0_0) := (bc BK0.out 0).trans rfl; have hfz75_0 := bf BK0.out 0; have p181 : 0 ≤ (x9_2 : Int) := oT (by first | (with_reducible assumption) | assumption); have q181 : x9_2 < (l0_0.length : Int) := oT (by first | (with_reducible assumption) | assumption); obtain ⟨ad181, e181, hx181_0, hx181_1⟩ := at_T62 HR0_0.out x9_2 p181 q181; (try rw [← Nbq59.out] at hx181_0); (try rw [← Nbq65.out] at hx181_0); obtain rfl : ad171 = ad181 := (by injection e181); replace hx181_0 := (HB.out.cell (World.block_lt_of_cell? w _ hx181_0)).trans hx181_0; replace hx181_1 := (HB.out.cell (World.block_lt_of_cell? w _ hx181_1)).trans hx181_1; replace p181 := eq_true p181; replace q181 := eq_true q181))
          go_roundg k4
          case measure => have := HK1.out; have := HK2.out; have := HJ12.out; have := HK4.out; omega
          case rel => exact ⟨(y180), (wrap64 (x9_2 + 1)), (by first | rfl | (simp; done) | (simp [*]; done)), H', ⟨by have := HK1.out; have := HK2.out; have := HJ12.out; have := HK4.out; omega⟩, ⟨by (with_reducible repeat (first | apply Kd.R_alloc | apply Kd.R_drewN | apply Kd.R_drew)); exact HO_5.out⟩, ⟨by (with_reducible repeat (first | apply Kd.S_alloc | apply Kd.S_drewN | apply Kd.S_drew)); exact Kd.S_mono HO_6.out (fun _ hk => hk.2)⟩, ⟨by (with_reducible repeat (first | apply Kd.R_alloc | apply Kd.R_drewN | apply Kd.R_drew)); exact HO_8.out⟩, ⟨by (with_reducible repeat (first | refine bn_ ?_ _ | refine bd_ ?_ | refine ba_ ?_ _)); exact BK0.out⟩, ⟨by repeat (first | (with_reducible first | exact HB.out | apply pA | apply pN | apply pD | refine pS ?_ GE0.out) | exact HB.out)⟩⟩
         subst c66
         have H1 : (if x10_4 < (t158.length : Int) then (spec_l05Marks.l2 k4 a1 t158 x6_1 x7_1 y180 x9_2 (rd t158 x10_4) l0_0) else (none)) = some r := by rw [if_pos rfl] at H; exact H
         clear H
         have H := H1
         clear H1
         by_cases c67 : x10_4 < (t158.length : Int)
         rotate_left
         ·rw [if_neg c67] at H
          exact absurd H (by simp)
         rw [if_pos c67] at H
         have c67b0 : decide (x10_4 < (t158.length : Int)) = true := decide_eq_true c67
         clear c67
         have H' := AZ.mk H
         clear H
         obtain ⟨Ao68, co68, eo68⟩ := Kd.S_slice HO_6.out
         subst eo68
         have p178 : 0 ≤ (x10_4 : Int) := oT (by first | (with_reducible assumption) | assumption)
         have q178 : x10_4 < (x6_1.length : Int) := oT (by first | (with_reducible assumption) | assumption)
         obtain ⟨ad178, A178_0, c178_0, e178, hx178_0, hl178_0, hi178_0⟩ := at_L6 (Kd.S_reads' HO_6.out).2.2 x10_4 p178 q178
         cases e178
         obtain ⟨ce178, hce178, hMe178, hcc178⟩ := Kd.S_get HO_6.out [] x10_4 p178 (by first | exact q178 | exact oT (by first | (with_reducible assumption) | assumption) | (have e_ := (Kd.S_reads' HO_6.out).1; omega))
         obtain ⟨ve178_0, rfl, ge178_0⟩ := hMe178
         have hv178_0 := hcc178 0 _ rfl
         rw [Nat.add_zero, show ((Kd.slice 4 Kd.bool)).sz = 1 from rfl, Nat.mul_one] at hv178_0
         replace hv178_0 := Option.some.inj (hv178_0.symm.trans hx178_0)
         rw [hv178_0] at ge178_0
         have HL178_0 := AZ.mk (show Kd.R Kd.bool 4 _ _ _ _ (rd_L6 x6_1 x10_4) from ge178_0)
         clear hv178_0 ge178_0
         clear hcc178 hce178
         have HR178_0 := AZ.mk hi178_0
         have HC178_0 := AZ.mk hl178_0
         clear hi178_0 hl178_0
         replace p178 := eq_true p178
         replace q178 := eq_true q178
         have p179 : 0 ≤ ((ji56) : Int) := oT (by first | (with_reducible assumption) | assumption)
         have q179 : (ji56) < ((rd_L6 x6_1 x10_4).length : Int) := oT (by first | (with_reducible assumption) | assumption)
         obtain ⟨ad179, e179, hx179_0⟩ := Kd.at_bool (by repeat (first | (with_reducible exact HR178_0.out) | (with_reducible refine Kd.C_alloc ?_ _) | (with_reducible refine Kd.C_drewN ?_ _) | (with_reducible refine Kd.C_drew ?_) | exact HR178_0.out)) (ji56) p179 q179
         (try rw [← Nbq59.out] at hx179_0)
         (try rw [← Nbq65.out] at hx179_0)
         cases e179
         replace p179 := eq_true p179
         replace q179 := eq_true q179
         have p63 : 0 ≤ (x9_2 : Int) := oT (by first | (with_reducible assumption) | assumption)
         have q63 : (x9_2 : Int) < ((x8_4.length : Int) : Int) := oT (by first | (with_reducible assumption) | assumption)
         obtain ⟨go63, co63, eo63, gb63, gl63, cl63, HG63⟩ := Kd.R_form HO_8.out (by omega)
         (first | cases eo63 | (injection eo63 with ea_ en_ ec_; (first | subst ea_ | (injection ea_ with ea_; subst ea_)); subst ec_; clear en_))
         have GB63 := AZ.mk gb63
         have GG63 := AZ.mk HG63
         clear gb63 gl63 HG63
         obtain ⟨hx63_0, hf63_0⟩ := Kd.R_celln false HO_8.out (x9_2 : Int) p63 q63
         replace p63 := eq_true p63
         replace q63 := eq_true q63
         have HP69 := Kd.R_putg HO_8.out (x9_2 : Int) true
         go_wp2_with (first | ((with_reducible refine gate_store (t := 4) (p := 92) rfl ?_); refine store_event (t := 4) (p := 92) (v := ?vo_w70) (w1 := (wr.setCell ⟨go63, (x9_2 : Int).toNat, none⟩ (.bool true))) ?hg ?ho ?hn ?hr ?_; (case ho => rfl); (case hg => rfl); (case hn => rfl); (case hr => first | (go_simp; done) | (go_simp; rfl)); intro w70 hw; have hg : wr.grownBy w70 (some go63) := (by rw [hw]; exact HP69.2); have hp_ : Kd.R Kd.bool 4 w70 w.heap.size (fun _ => True) (.slice (some ⟨go63, 0, none⟩) x8_4.length co63) y180 := (by rw [hw, Ny180.out]; exact HP69.1); clear HP69; have n0_ := AZ.mk (Kd.R_over' (v := (.slice (some ⟨go63, 0, none⟩) x8_4.length co63)) (by (with_reducible repeat (first | apply Kd.R_alloc | apply Kd.R_drewN | apply Kd.R_drew)); exact HO_5.out) (Kd.R_typed HO_8.out) (by decide) hg); have n1_ := AZ.mk (Kd.S_after (v := (.slice (some ⟨go63, 0, none⟩) x8_4.length co63)) (v1 := (.slice (some ⟨go63, 0, none⟩) x8_4.length co63)) (ok := (fun _ => True)) (by (with_reducible repeat (first | apply Kd.S_alloc | apply Kd.S_drewN | apply Kd.S_drew)); exact Kd.S_mono HO_6.out (fun _ hk => ⟨trivial, hk⟩)) hg (.inl rfl)); have n2_ := AZ.mk (hp_); have n3_ := AZ.mk (blk_grown (g := g0_) (o := .cells #[.slice (some ad171) l0_0.length c0_0] 30 (0, 0)) (by (with_reducible repeat (first | refine bn_ ?_ _ | refine bd_ ?_ | refine ba_ ?_ _)); exact BK0.out) hg (Kd.R_ne HO_8.out BK0.out (by decide))); have n4_ := AZ.mk (Kd.R_after (v := (.slice (some ⟨go63, 0, none⟩) x8_4.length co63)) (v1 := (.slice (some ⟨go63, 0, none⟩) x8_4.length co63)) (ok := (fun k_ => some k_ ≠ (.slice (some ad178) x6_1.length co68 : Value).ownBlock)) (by (with_reducible repeat (first | apply Kd.R_alloc | apply Kd.R_drewN | apply Kd.R_drew)); exact Kd.R_mono HL178_0.out (fun _ hk => ⟨hk.2, hk.1⟩)) hg (.inl rfl)); have n5_ := AZ.mk ((by rw [hw]; exact pS (HB.out) GB63.out : Below w.heap.size w w70)); clear HO_5; clear HO_6; clear HO_8; clear BK0; clear HL178_0; clear HB; have HO_5 := n0_; have HO_6 := n1_; have HO_8 := n2_; have BK0 := n3_; have HL178_0 := n4_; have HB := n5_; clear n0_ n1_ n2_ n3_ n4_ n5_; clear hg hw hp_; have hcz71_0 : w70.cell? ⟨g0_, 0, none⟩ = some (.slice (some ad171) l0_0.length c0_0) := (bc BK0.out 0).trans rfl; have hfz71_0 := bf BK0.out 0; have p181 : 0 ≤ (x9_2 : Int) := oT (by first | (with_reducible assumption) | assumption); have q181 : x9_2 < (l0_0.length : Int) := oT (by first | (with_reducible assumption) | assumption); obtain ⟨ad181, e181, hx181_0, hx181_1⟩ := at_T62 HR0_0.out x9_2 p181 q181; (try rw [← Nbq59.out] at hx181_0); (try rw [← Nbq65.out] at hx181_0); obtain rfl : ad171 = ad181 := (by injection e181); replace hx181_0 := (HB.out.cell (World.block_lt_of_cell? w _ hx181_0)).trans hx181_0; replace hx181_1 := (HB.out.cell (World.block_lt_of_cell? w _ hx181_1)).trans hx181_1; replace p181 := eq_true p181; replace q181 := eq_true q181; have p182 : 0 ≤ (x10_4 : Int) := oT (by first | (with_reducible assumption) | assumption); have q182 : x10_4 < (t158.length : Int) := oT (by first | (with_reducible assumption) | assumption); obtain ⟨ad182, e182, hx182_0⟩ := Kd.at_int (Kd.R_reads' HO_5.out).2.2 x10_4 p182 q182; obtain rfl : ad177 = ad182 := (by injection e182); replace p182 := eq_true p182; replace q182 := eq_true q182))
         go_roundg k4
         case measure => have := HK1.out; have := HK2.out; have := HJ12.out; have := HK4.out; omega
         case rel => exact ⟨(y180), (rd t158 x10_4), (by first | rfl | (simp; done) | (simp [*]; done)), H', ⟨by have := HK1.out; have := HK2.out; have := HJ12.out; have := HK4.out; omega⟩, ⟨by (with_reducible repeat (first | apply Kd.R_alloc | apply Kd.R_drewN | apply Kd.R_drew)); exact HO_5.out⟩, ⟨by (with_reducible repeat (first | apply Kd.S_alloc | apply Kd.S_drewN | apply Kd.S_drew)); exact Kd.S_mono HO_6.out (fun _ hk => hk.2)⟩, ⟨by (with_reducible repeat (first | apply Kd.R_alloc | apply Kd.R_drewN | apply Kd.R_drew)); exact HO_8.out⟩, ⟨by (with_reducible repeat (first | refine bn_ ?_ _ | refine bd_ ?_ | refine ba_ ?_ _)); exact BK0.out⟩, ⟨by repeat (first | (with_reducible first | exact HB.out | apply pA | apply pN | apply pD | refine pS ?_ GE0.out) | exact HB.out)⟩⟩
end Go.Proofs.Yteeplponconnjaa.P
namespace Go.Proofs.Yteeplponconnjaa.P
open Go.RowKit Go.Proofs.YteeplponconnjaaW.PrintWords Go.Proofs.YteeplponconnjaaW.PrintLast Go.Proofs.YteeplponconnjaaW.PrintMore
attribute [local go_sem] max2_int min2_int max_two min_two max_three min_three max_four min_four
set_option linter.unusedVariables false
set_option linter.unusedSimpArgs false
def spec_l05Answers.l0 : Nat → ByteArray → List (List Bool) → List Int → Int → List (S62) → Option (List Int)
 | 0, _, _, _, _, _ => none
 | k + 1, x1, x5, x6, x7, x1000 => if x7 < (x1.size : Int) then (if 0 ≤ x7 then (if x7 < (x5.length : Int) then (if 0 ≤ (wrap64 ((x1000.length : Int) - 1)) then (if (wrap64 ((x1000.length : Int) - 1)) < ((rd_L6 x5 x7).length : Int) then (if rdOf false (rd_L6 x5 x7) (wrap64 ((x1000.length : Int) - 1)) = true then (if x6.length < 17592186044416 then (spec_l05Answers.l0 k x1 x5 (x6 ++ [x7]) (wrap64 (x7 + 1)) x1000) else (none)) else (spec_l05Answers.l0 k x1 x5 x6 (wrap64 (x7 + 1)) x1000)) else (none)) else (none)) else (none)) else (none)) else (some x6)
def spec_l05Answers.f (k : Nat) (l0_0 : List (S62)) (a1 : ByteArray) : Option (List Int) := (spec_l05Marks.f k l0_0 a1).bind fun t185 => (spec_l05Answers.l0 k a1 t185 (([] : List Int)) 0 l0_0)
set_option maxHeartbeats 8000000 in
set_option maxRecDepth 100000 in
theorem spec_l05Answers.calls (k : Nat) (g0_ : Nat) (A0_0 : Option Addr) (c0_0 : Nat) (l0_0 : List (S62)) (a1 : ByteArray) (r : List Int) (w : World) (hr0_0 : Kd.C k62 w A0_0 l0_0.length l0_0) (hc0_0 : l0_0.length ≤ c0_0) (hbk0_0 : w.heap[g0_]? = some (.cells #[.slice A0_0 l0_0.length c0_0] 30 (0, 0))) (h : spec_l05Answers.f k l0_0 a1 = some r) :
  Calls Try.prog 18 #[.pointer (some ⟨g0_, 0, none⟩), .string a1] w fun e w' => ∃ v0_ : Value, e = .returned (v0_) ∧ Kd.R (Kd.int .i64) 2 w' w.heap.size (fun _ => True) v0_ r ∧ Below w.heap.size w w' := by
 have HR0_0 := AZ.mk hr0_0
 have HC0_0 := AZ.mk hc0_0
 clear hr0_0 hc0_0
 have BK0 := AZ.mk hbk0_0
 clear hbk0_0
 have HB := AZ.mk (Below.refl w.heap.size w)
 have H : ((spec_l05Marks.f k l0_0 a1).bind fun t185 => (spec_l05Answers.l0 k a1 t185 (([] : List Int)) 0 l0_0)) = some r := h
 clear h
 replace H := Option.bind_eq_some_iff.mp H
 obtain ⟨t185, A30, H⟩ := H
 replace H : (spec_l05Answers.l0 k a1 t185 (([] : List Int)) 0 l0_0) = some r := H
 have A3 := AZ.mk A30
 clear A30
 obtain ⟨y188, hy188⟩ : ∃ y_ : List Int, y_ = (([] : List Int)) := ⟨_, rfl⟩
 replace H : (spec_l05Answers.l0 k a1 t185 y188 0 l0_0) = some r := by first | (rw [hy188]; with_reducible exact H) | (have H2_ := (Option.bind_some _ _).symm.trans H; rw [hy188]; with_reducible exact H2_) | (have H2_ := (Option.bind_some _ _).symm.trans H; with_reducible exact H2_) | with_reducible exact H | (rw [hy188]; exact H) | exact H
 have Ny188 := AZ.mk hy188
 clear hy188
 have H' := AZ.mk H
 clear H
 go_enter Try.func18, Try.ntmps18
 go_wp2_with (first | (go_at_call 30; (with_reducible refine (spec_l05Marks.calls k g0_ A0_0 c0_0 l0_0 a1 t185 _ ?side1 ?side2 ?side3 A3.out).mono ?_); (case side1 => repeat (first | exact HR0_0.out | (with_reducible refine Kd.C_alloc ?_ _) | (with_reducible refine Kd.C_drewN ?_ _) | (with_reducible refine Kd.C_drew ?_))); (case side2 => exact HC0_0.out); (case side3 => exact (by (with_reducible repeat (first | refine bn_ ?_ _ | refine bd_ ?_ | refine ba_ ?_ _)); exact BK0.out)); rintro e w4 ⟨v186, rfl, ho0, hb⟩; have n0_ := AZ.mk (Kd.S_lower ho0 (pZ (by repeat (first | (with_reducible first | exact HB.out | apply pA | apply pN | apply pD | refine pS ?_ GE0.out) | exact HB.out)))); have n1_ := AZ.mk (bb_ (g := g0_) (o := .cells #[.slice A0_0 l0_0.length c0_0] 30 (0, 0)) (by (with_reducible repeat (first | refine bn_ ?_ _ | refine bd_ ?_ | refine ba_ ?_ _)); exact BK0.out) hb); have n2_ := AZ.mk (pT (by repeat (first | (with_reducible first | exact HB.out | apply pA | apply pN | apply pD | refine pS ?_ GE0.out) | exact HB.out)) hb); clear BK0; clear HB; have HO187 := n0_; have BK0 := n1_; have HB := n2_; clear n0_ n1_ n2_; (try clear hb); (try clear hb2); (try clear hk); (try clear hi); (try clear ho0)) | ((with_reducible refine gate_dst (N := 11) rfl ?_); refine Kd.R_lit (Kd.int .i64) _ 2 ?hg (N := 11) ?hd (xs := ([] : List Int)) (inner := []) (ok := fun _ => True) (okp := fun _ => True) ?hr ?hp (fun _ hk => hk) trivial (Below.refl _ _) (Nat.le_refl _) (by simp) ?_; (case hd => rfl); (case hg => rfl); (case hr => first | (go_simp; done) | (go_simp; rfl)); (case hp => exact (Reps.none _ _)); intro v189 w5 ho6 hb hg_ hnew_; clear hg_ hnew_; (first | rw [← Ny188.out] at ho6 | (simp only [Int.reduceToNat] at ho6; rw [← Ny188.out] at ho6)); have n0_ := AZ.mk (Kd.S_below (by (with_reducible repeat (first | apply Kd.S_alloc | apply Kd.S_drewN | apply Kd.S_drew)); exact HO187.out) hb); have n1_ := AZ.mk (Kd.R_lower ho6 (pZ (by repeat (first | (with_reducible first | exact HB.out | apply pA | apply pN | apply pD | refine pS ?_ GE0.out) | exact HB.out)))); have n2_ := AZ.mk (bb_ (g := g0_) (o := .cells #[.slice A0_0 l0_0.length c0_0] 30 (0, 0)) (by (with_reducible repeat (first | refine bn_ ?_ _ | refine bd_ ?_ | refine ba_ ?_ _)); exact BK0.out) hb); have n3_ := AZ.mk (pT (by repeat (first | (with_reducible first | exact HB.out | apply pA | apply pN | apply pD | refine pS ?_ GE0.out) | exact HB.out)) hb); clear HO187; clear BK0; clear HB; have HO187 := n0_; have HO190 := n1_; have BK0 := n2_; have HB := n3_; clear n0_ n1_ n2_ n3_; clear hb ho6))
 repeat (go_quiet (first | (go_at_call 30; (with_reducible refine (spec_l05Marks.calls k g0_ A0_0 c0_0 l0_0 a1 t185 _ ?side1 ?side2 ?side3 A3.out).mono ?_); (case side1 => repeat (first | exact HR0_0.out | (with_reducible refine Kd.C_alloc ?_ _) | (with_reducible refine Kd.C_drewN ?_ _) | (with_reducible refine Kd.C_drew ?_))); (case side2 => exact HC0_0.out); (case side3 => exact (by (with_reducible repeat (first | refine bn_ ?_ _ | refine bd_ ?_ | refine ba_ ?_ _)); exact BK0.out)); rintro e w4 ⟨v186, rfl, ho0, hb⟩; have n0_ := AZ.mk (Kd.S_lower ho0 (pZ (by repeat (first | (with_reducible first | exact HB.out | apply pA | apply pN | apply pD | refine pS ?_ GE0.out) | exact HB.out)))); have n1_ := AZ.mk (bb_ (g := g0_) (o := .cells #[.slice A0_0 l0_0.length c0_0] 30 (0, 0)) (by (with_reducible repeat (first | refine bn_ ?_ _ | refine bd_ ?_ | refine ba_ ?_ _)); exact BK0.out) hb); have n2_ := AZ.mk (pT (by repeat (first | (with_reducible first | exact HB.out | apply pA | apply pN | apply pD | refine pS ?_ GE0.out) | exact HB.out)) hb); clear BK0; clear HB; have HO187 := n0_; have BK0 := n1_; have HB := n2_; clear n0_ n1_ n2_; (try clear hb); (try clear hb2); (try clear hk); (try clear hi); (try clear ho0)) | ((with_reducible refine gate_dst (N := 11) rfl ?_); refine Kd.R_lit (Kd.int .i64) _ 2 ?hg (N := 11) ?hd (xs := ([] : List Int)) (inner := []) (ok := fun _ => True) (okp := fun _ => True) ?hr ?hp (fun _ hk => hk) trivial (Below.refl _ _) (Nat.le_refl _) (by simp) ?_; (case hd => rfl); (case hg => rfl); (case hr => first | (go_simp; done) | (go_simp; rfl)); (case hp => exact (Reps.none _ _)); intro v189 w5 ho6 hb hg_ hnew_; clear hg_ hnew_; (first | rw [← Ny188.out] at ho6 | (simp only [Int.reduceToNat] at ho6; rw [← Ny188.out] at ho6)); have n0_ := AZ.mk (Kd.S_below (by (with_reducible repeat (first | apply Kd.S_alloc | apply Kd.S_drewN | apply Kd.S_drew)); exact HO187.out) hb); have n1_ := AZ.mk (Kd.R_lower ho6 (pZ (by repeat (first | (with_reducible first | exact HB.out | apply pA | apply pN | apply pD | refine pS ?_ GE0.out) | exact HB.out)))); have n2_ := AZ.mk (bb_ (g := g0_) (o := .cells #[.slice A0_0 l0_0.length c0_0] 30 (0, 0)) (by (with_reducible repeat (first | refine bn_ ?_ _ | refine bd_ ?_ | refine ba_ ?_ _)); exact BK0.out) hb); have n3_ := AZ.mk (pT (by repeat (first | (with_reducible first | exact HB.out | apply pA | apply pN | apply pD | refine pS ?_ GE0.out) | exact HB.out)) hb); clear HO187; clear BK0; clear HB; have HO187 := n0_; have HO190 := n1_; have BK0 := n2_; have HB := n3_; clear n0_ n1_ n2_ n3_; clear hb ho6)); try go_wp2_with (first | (go_at_call 30; (with_reducible refine (spec_l05Marks.calls k g0_ A0_0 c0_0 l0_0 a1 t185 _ ?side1 ?side2 ?side3 A3.out).mono ?_); (case side1 => repeat (first | exact HR0_0.out | (with_reducible refine Kd.C_alloc ?_ _) | (with_reducible refine Kd.C_drewN ?_ _) | (with_reducible refine Kd.C_drew ?_))); (case side2 => exact HC0_0.out); (case side3 => exact (by (with_reducible repeat (first | refine bn_ ?_ _ | refine bd_ ?_ | refine ba_ ?_ _)); exact BK0.out)); rintro e w4 ⟨v186, rfl, ho0, hb⟩; have n0_ := AZ.mk (Kd.S_lower ho0 (pZ (by repeat (first | (with_reducible first | exact HB.out | apply pA | apply pN | apply pD | refine pS ?_ GE0.out) | exact HB.out)))); have n1_ := AZ.mk (bb_ (g := g0_) (o := .cells #[.slice A0_0 l0_0.length c0_0] 30 (0, 0)) (by (with_reducible repeat (first | refine bn_ ?_ _ | refine bd_ ?_ | refine ba_ ?_ _)); exact BK0.out) hb); have n2_ := AZ.mk (pT (by repeat (first | (with_reducible first | exact HB.out | apply pA | apply pN | apply pD | refine pS ?_ GE0.out) | exact HB.out)) hb); clear BK0; clear HB; have HO187 := n0_; have BK0 := n1_; have HB := n2_; clear n0_ n1_ n2_; (try clear hb); (try clear hb2); (try clear hk); (try clear hi); (try clear ho0)) | ((with_reducible refine gate_dst (N := 11) rfl ?_); refine Kd.R_lit (Kd.int .i64) _ 2 ?hg (N := 11) ?hd (xs := ([] : List Int)) (inner := []) (ok := fun _ => True) (okp := fun _ => True) ?hr ?hp (fun _ hk => hk) trivial (Below.refl _ _) (Nat.le_refl _) (by simp) ?_; (case hd => rfl); (case hg => rfl); (case hr => first | (go_simp; done) | (go_simp; rfl)); (case hp => exact (Reps.none _ _)); intro v189 w5 ho6 hb hg_ hnew_; clear hg_ hnew_; (first | rw [← Ny188.out] at ho6 | (simp only [Int.reduceToNat] at ho6; rw [← Ny188.out] at ho6)); have n0_ := AZ.mk (Kd.S_below (by (with_reducible repeat (first | apply Kd.S_alloc | apply Kd.S_drewN | apply Kd.S_drew)); exact HO187.out) hb); have n1_ := AZ.mk (Kd.R_lower ho6 (pZ (by repeat (first | (with_reducible first | exact HB.out | apply pA | apply pN | apply pD | refine pS ?_ GE0.out) | exact HB.out)))); have n2_ := AZ.mk (bb_ (g := g0_) (o := .cells #[.slice A0_0 l0_0.length c0_0] 30 (0, 0)) (by (with_reducible repeat (first | refine bn_ ?_ _ | refine bd_ ?_ | refine ba_ ?_ _)); exact BK0.out) hb); have n3_ := AZ.mk (pT (by repeat (first | (with_reducible first | exact HB.out | apply pA | apply pN | apply pD | refine pS ?_ GE0.out) | exact HB.out)) hb); clear HO187; clear BK0; clear HB; have HO187 := n0_; have HO190 := n1_; have BK0 := n2_; have HB := n3_; clear n0_ n1_ n2_ n3_; clear hb ho6)))
 go_loopg [6, 7] k (fun kq v6 v7 w' => ∃ (x6_1 : List Int) (x7_1 : Int), v7 = .int .i64 x7_1 ∧ AZ (spec_l05Answers.l0 kq a1 t185 x6_1 x7_1 l0_0 = some r) ∧ AZ (kq ≤ k) ∧ AZ (Kd.S (Kd.slice 4 Kd.bool) 61 w' w.heap.size (fun _ => True) v186 t185) ∧ AZ (Kd.R (Kd.int .i64) 2 w' w.heap.size (fun _ => True) v6 x6_1) ∧ AZ (w'.heap[g0_]? = some (.cells #[(.slice A0_0 l0_0.length c0_0)] 30 (0, 0))) ∧ AZ (Below w.heap.size w w'))
 case atStart => exact ⟨(y188), (0), (by first | rfl | (simp; done) | (simp [*]; done)), H', ⟨Nat.le_refl _⟩, ⟨by (with_reducible repeat (first | apply Kd.S_alloc | apply Kd.S_drewN | apply Kd.S_drew)); exact HO187.out⟩, ⟨by (with_reducible repeat (first | apply Kd.R_alloc | apply Kd.R_drewN | apply Kd.R_drew)); exact HO190.out⟩, ⟨by (with_reducible repeat (first | refine bn_ ?_ _ | refine bd_ ?_ | refine ba_ ?_ _)); exact BK0.out⟩, ⟨by repeat (first | (with_reducible first | exact HB.out | apply pA | apply pN | apply pD | refine pS ?_ GE0.out) | exact HB.out)⟩⟩
 case round =>
  clear H'
  try clear c1
  try clear p2
  obtain ⟨x6_1, x7_1, rfl, HA, HK1, HO_5, HO_6, BK0, HB⟩ := hrel
  cases gk with
  | zero => exact absurd HA.out (by simp [spec_l05Answers.l0])
  | succ k1 =>
   have H := HA.out
   clear HA
   simp only [spec_l05Answers.l0] at H
   by_cases c7 : x7_1 < (a1.size : Int)
   rotate_left
   ·rw [if_neg c7] at H
    have c7b0 : decide (x7_1 < (a1.size : Int)) = false := decide_eq_false c7
    clear c7
    obtain rfl := Option.some.inj H
    go_wp2
    repeat (go_quiet (fail); try go_wp2)
    go_ret
    exact ⟨_, by first | rfl | (simp [errW_none, errW_some] <;> rfl) | (simp [*, errW_none, errW_some] <;> rfl), by (with_reducible repeat (first | apply Kd.R_alloc | apply Kd.R_drewN | apply Kd.R_drew)); exact HO_6.out, by repeat (first | (with_reducible first | exact HB.out | apply pA | apply pN | apply pD | refine pS ?_ GE0.out) | exact HB.out)⟩
   rw [if_pos c7] at H
   have c7b0 : decide (x7_1 < (a1.size : Int)) = true := decide_eq_true c7
   clear c7
   by_cases c8 : 0 ≤ x7_1
   rotate_left
   ·rw [if_neg c8] at H
    exact absurd H (by simp)
   rw [if_pos c8] at H
   have c8b0 : decide (0 ≤ x7_1) = true := decide_eq_true c8
   clear c8
   by_cases c9 : x7_1 < (t185.length : Int)
   rotate_left
   ·rw [if_neg c9] at H
    exact absurd H (by simp)
   rw [if_pos c9] at H
   have c9b0 : decide (x7_1 < (t185.length : Int)) = true := decide_eq_true c9
   clear c9
   obtain ⟨ji10, hji10⟩ : ∃ j_ : Int, (wrap64 ((l0_0.length : Int) - 1)) = j_ := ⟨_, rfl⟩
   replace H : (if 0 ≤ (ji10) then (if (ji10) < ((rd_L6 t185 x7_1).length : Int) then (if rdOf false (rd_L6 t185 x7_1) (ji10) = true then (if x6_1.length < 17592186044416 then (spec_l05Answers.l0 k1 a1 t185 (x6_1 ++ [x7_1]) (wrap64 (x7_1 + 1)) l0_0) else (none)) else (spec_l05Answers.l0 k1 a1 t185 x6_1 (wrap64 (x7_1 + 1)) l0_0)) else (none)) else (none)) = some r := by first | (rw [hji10] at H; exact H) | (simp only [hji10] at H ⊢; exact H)
   have hji10w : (IntKind.i64.wrap ((l0_0.length : Int) - 1)) = ji10 := (i64_w _).trans hji10
   by_cases c11 : 0 ≤ (ji10)
   rotate_left
   ·rw [if_neg c11] at H
    exact absurd H (by simp)
   rw [if_pos c11] at H
   have c11b0 : decide (0 ≤ (ji10)) = true := decide_eq_true c11
   clear c11
   by_cases c12 : (ji10) < ((rd_L6 t185 x7_1).length : Int)
   rotate_left
   ·rw [if_neg c12] at H
    exact absurd H (by simp)
   rw [if_pos c12] at H
   have c12b0 : decide ((ji10) < ((rd_L6 t185 x7_1).length : Int)) = true := decide_eq_true c12
   clear c12
   obtain ⟨bq13, hbq13⟩ : ∃ b_ : Bool, b_ = (rdOf false (rd_L6 t185 x7_1) (ji10)) := ⟨_, rfl⟩
   replace H : (if bq13 = true then (if x6_1.length < 17592186044416 then (spec_l05Answers.l0 k1 a1 t185 (x6_1 ++ [x7_1]) (wrap64 (x7_1 + 1)) l0_0) else (none)) else (spec_l05Answers.l0 k1 a1 t185 x6_1 (wrap64 (x7_1 + 1)) l0_0)) = some r := by rw [← hbq13] at H; exact H
   have Nbq13 := AZ.mk hbq13
   clear hbq13
   by_cases c14 : bq13 = true
   rotate_left
   ·replace c14 := Bool.eq_false_iff.mpr c14
    subst c14
    have H1 : (spec_l05Answers.l0 k1 a1 t185 x6_1 (wrap64 (x7_1 + 1)) l0_0) = some r := by rw [if_neg (show ¬ (false = true) by decide)] at H; exact H
    clear H
    have H := H1
    clear H1
    have H' := AZ.mk H
    clear H
    obtain ⟨Ao19, co19, eo19⟩ := Kd.S_slice HO_5.out
    subst eo19
    have p191 : 0 ≤ (x7_1 : Int) := oT (by first | (with_reducible assumption) | assumption)
    have q191 : x7_1 < (t185.length : Int) := oT (by first | (with_reducible assumption) | assumption)
    obtain ⟨ad191, A191_0, c191_0, e191, hx191_0, hl191_0, hi191_0⟩ := at_L6 (Kd.S_reads' HO_5.out).2.2 x7_1 p191 q191
    cases e191
    obtain ⟨ce191, hce191, hMe191, hcc191⟩ := Kd.S_get HO_5.out [] x7_1 p191 (by first | exact q191 | exact oT (by first | (with_reducible assumption) | assumption) | (have e_ := (Kd.S_reads' HO_5.out).1; omega))
    obtain ⟨ve191_0, rfl, ge191_0⟩ := hMe191
    have hv191_0 := hcc191 0 _ rfl
    rw [Nat.add_zero, show ((Kd.slice 4 Kd.bool)).sz = 1 from rfl, Nat.mul_one] at hv191_0
    replace hv191_0 := Option.some.inj (hv191_0.symm.trans hx191_0)
    rw [hv191_0] at ge191_0
    have HL191_0 := AZ.mk (show Kd.R Kd.bool 4 _ _ _ _ (rd_L6 t185 x7_1) from ge191_0)
    clear hv191_0 ge191_0
    clear hcc191 hce191
    have HR191_0 := AZ.mk hi191_0
    have HC191_0 := AZ.mk hl191_0
    clear hi191_0 hl191_0
    replace p191 := eq_true p191
    replace q191 := eq_true q191
    have hcz20_0 : wr.cell? ⟨g0_, 0, none⟩ = some (.slice A0_0 l0_0.length c0_0) := (bc BK0.out 0).trans rfl
    have hfz20_0 := bf BK0.out 0
    have p192 : 0 ≤ ((ji10) : Int) := oT (by first | (with_reducible assumption) | assumption)
    have q192 : (ji10) < ((rd_L6 t185 x7_1).length : Int) := oT (by first | (with_reducible assumption) | assumption)
    obtain ⟨ad192, e192, hx192_0⟩ := Kd.at_bool (by repeat (first | (with_reducible exact HR191_0.out) | (with_reducible refine Kd.C_alloc ?_ _) | (with_reducible refine Kd.C_drewN ?_ _) | (with_reducible refine Kd.C_drew ?_) | exact HR191_0.out)) (ji10) p192 q192
    (try rw [← Nbq13.out] at hx192_0)
    cases e192
    replace p192 := eq_true p192
    replace q192 := eq_true q192
    go_wp2
    repeat (go_quiet (fail); try go_wp2)
    go_roundg k1
    case measure => have := HK1.out; omega
    case rel => exact ⟨(x6_1), (wrap64 (x7_1 + 1)), (by first | rfl | (simp; done) | (simp [*]; done)), H', ⟨by have := HK1.out; omega⟩, ⟨by (with_reducible repeat (first | apply Kd.S_alloc | apply Kd.S_drewN | apply Kd.S_drew)); exact HO_5.out⟩, ⟨by (with_reducible repeat (first | apply Kd.R_alloc | apply Kd.R_drewN | apply Kd.R_drew)); exact HO_6.out⟩, ⟨by (with_reducible repeat (first | refine bn_ ?_ _ | refine bd_ ?_ | refine ba_ ?_ _)); exact BK0.out⟩, ⟨by repeat (first | (with_reducible first | exact HB.out | apply pA | apply pN | apply pD | refine pS ?_ GE0.out) | exact HB.out)⟩⟩
   subst c14
   have H1 : (if x6_1.length < 17592186044416 then (spec_l05Answers.l0 k1 a1 t185 (x6_1 ++ [x7_1]) (wrap64 (x7_1 + 1)) l0_0) else (none)) = some r := by rw [if_pos rfl] at H; exact H
   clear H
   have H := H1
   clear H1
   by_cases c15 : x6_1.length < 17592186044416
   rotate_left
   ·rw [if_neg c15] at H
    exact absurd H (by simp)
   rw [if_pos c15] at H
   have LMc15 := AZ.mk c15
   clear c15
   obtain ⟨y193, hy193⟩ : ∃ y_ : List Int, y_ = (x6_1 ++ [x7_1]) := ⟨_, rfl⟩
   replace H : (spec_l05Answers.l0 k1 a1 t185 y193 (wrap64 (x7_1 + 1)) l0_0) = some r := by first | (rw [hy193]; with_reducible exact H) | (have H2_ := (Option.bind_some _ _).symm.trans H; rw [hy193]; with_reducible exact H2_) | (have H2_ := (Option.bind_some _ _).symm.trans H; with_reducible exact H2_) | with_reducible exact H | (rw [hy193]; exact H) | exact H
   have Ny193 := AZ.mk hy193
   clear hy193
   have H' := AZ.mk H
   clear H
   obtain ⟨Ao16, co16, eo16⟩ := Kd.S_slice HO_5.out
   subst eo16
   have p191 : 0 ≤ (x7_1 : Int) := oT (by first | (with_reducible assumption) | assumption)
   have q191 : x7_1 < (t185.length : Int) := oT (by first | (with_reducible assumption) | assumption)
   obtain ⟨ad191, A191_0, c191_0, e191, hx191_0, hl191_0, hi191_0⟩ := at_L6 (Kd.S_reads' HO_5.out).2.2 x7_1 p191 q191
   cases e191
   obtain ⟨ce191, hce191, hMe191, hcc191⟩ := Kd.S_get HO_5.out [] x7_1 p191 (by first | exact q191 | exact oT (by first | (with_reducible assumption) | assumption) | (have e_ := (Kd.S_reads' HO_5.out).1; omega))
   obtain ⟨ve191_0, rfl, ge191_0⟩ := hMe191
   have hv191_0 := hcc191 0 _ rfl
   rw [Nat.add_zero, show ((Kd.slice 4 Kd.bool)).sz = 1 from rfl, Nat.mul_one] at hv191_0
   replace hv191_0 := Option.some.inj (hv191_0.symm.trans hx191_0)
   rw [hv191_0] at ge191_0
   have HL191_0 := AZ.mk (show Kd.R Kd.bool 4 _ _ _ _ (rd_L6 t185 x7_1) from ge191_0)
   clear hv191_0 ge191_0
   clear hcc191 hce191
   have HR191_0 := AZ.mk hi191_0
   have HC191_0 := AZ.mk hl191_0
   clear hi191_0 hl191_0
   replace p191 := eq_true p191
   replace q191 := eq_true q191
   have hcz17_0 : wr.cell? ⟨g0_, 0, none⟩ = some (.slice A0_0 l0_0.length c0_0) := (bc BK0.out 0).trans rfl
   have hfz17_0 := bf BK0.out 0
   have p192 : 0 ≤ ((ji10) : Int) := oT (by first | (with_reducible assumption) | assumption)
   have q192 : (ji10) < ((rd_L6 t185 x7_1).length : Int) := oT (by first | (with_reducible assumption) | assumption)
   obtain ⟨ad192, e192, hx192_0⟩ := Kd.at_bool (by repeat (first | (with_reducible exact HR191_0.out) | (with_reducible refine Kd.C_alloc ?_ _) | (with_reducible refine Kd.C_drewN ?_ _) | (with_reducible refine Kd.C_drew ?_) | exact HR191_0.out)) (ji10) p192 q192
   (try rw [← Nbq13.out] at hx192_0)
   cases e192
   replace p192 := eq_true p192
   replace q192 := eq_true q192
   go_wp2_with (first | ((with_reducible refine gate_builtin (b := .append) (xs := #[.tmp 30, .tmp 32]) rfl ?_); at_builtin; refine Kd.R_append (Kd.int .i64) (w0 := w) w.heap.size rfl (.tmp 30) (.tmp 32) 34 2 (.int .i64 0) 8 rfl Try.underlying34 info2 rfl (by decide) (by omega) u6 x6_1 x7_1 [.int .i64 x7_1] (fun _ => True) (fun _ => False) rfl rfl ?aP (fun _ hk => hk.elim) ?aF ?aO ?aB ?aS ?aL ?_; (case aP => exact rfl); (case aB => exact (by repeat (first | (with_reducible first | exact HB.out | apply pA | apply pN | apply pD | refine pS ?_ GE0.out) | exact HB.out))); (case aF => exact (fun _ _ => trivial)); (case aO => exact (by (with_reducible repeat (first | apply Kd.R_alloc | apply Kd.R_drewN | apply Kd.R_drew)); exact HO_6.out)); (case aS => exact (pZ (by repeat (first | (with_reducible first | exact HB.out | apply pA | apply pN | apply pD | refine pS ?_ GE0.out) | exact HB.out)))); (case aL => have := LMc15.out; omega); intro v194 w18 ho hb hg hat; rw [← Ny193.out] at ho; have n0_ := AZ.mk (Kd.S_over' (by (with_reducible repeat (first | apply Kd.S_alloc | apply Kd.S_drewN | apply Kd.S_drew)); exact HO_5.out) (Kd.R_typed (by (with_reducible repeat (first | apply Kd.R_alloc | apply Kd.R_drewN | apply Kd.R_drew)); exact HO_6.out)) (by decide) hg); have n1_ := AZ.mk (blk_grown (g := g0_) (o := .cells #[.slice A0_0 l0_0.length c0_0] 30 (0, 0)) (by (with_reducible repeat (first | refine bn_ ?_ _ | refine bd_ ?_ | refine ba_ ?_ _)); exact BK0.out) hg (Kd.R_ne HO_6.out BK0.out (by decide))); have n2_ := AZ.mk (Kd.R_over' (by (with_reducible repeat (first | apply Kd.R_alloc | apply Kd.R_drewN | apply Kd.R_drew)); exact HL191_0.out) (Kd.R_typed (by (with_reducible repeat (first | apply Kd.R_alloc | apply Kd.R_drewN | apply Kd.R_drew)); exact HO_6.out)) (by decide) hg); have n3_ := AZ.mk (hb); have n4_ := AZ.mk (ho); clear HO_5; clear BK0; clear HL191_0; clear HB; clear HO_6; have HO_5 := n0_; have BK0 := n1_; have HL191_0 := n2_; have HB := n3_; have HO195 := n4_; clear n0_ n1_ n2_ n3_ n4_; clear ho hb hg hat))
   repeat (go_quiet (first | ((with_reducible refine gate_builtin (b := .append) (xs := #[.tmp 30, .tmp 32]) rfl ?_); at_builtin; refine Kd.R_append (Kd.int .i64) (w0 := w) w.heap.size rfl (.tmp 30) (.tmp 32) 34 2 (.int .i64 0) 8 rfl Try.underlying34 info2 rfl (by decide) (by omega) u6 x6_1 x7_1 [.int .i64 x7_1] (fun _ => True) (fun _ => False) rfl rfl ?aP (fun _ hk => hk.elim) ?aF ?aO ?aB ?aS ?aL ?_; (case aP => exact rfl); (case aB => exact (by repeat (first | (with_reducible first | exact HB.out | apply pA | apply pN | apply pD | refine pS ?_ GE0.out) | exact HB.out))); (case aF => exact (fun _ _ => trivial)); (case aO => exact (by (with_reducible repeat (first | apply Kd.R_alloc | apply Kd.R_drewN | apply Kd.R_drew)); exact HO_6.out)); (case aS => exact (pZ (by repeat (first | (with_reducible first | exact HB.out | apply pA | apply pN | apply pD | refine pS ?_ GE0.out) | exact HB.out)))); (case aL => have := LMc15.out; omega); intro v194 w18 ho hb hg hat; rw [← Ny193.out] at ho; have n0_ := AZ.mk (Kd.S_over' (by (with_reducible repeat (first | apply Kd.S_alloc | apply Kd.S_drewN | apply Kd.S_drew)); exact HO_5.out) (Kd.R_typed (by (with_reducible repeat (first | apply Kd.R_alloc | apply Kd.R_drewN | apply Kd.R_drew)); exact HO_6.out)) (by decide) hg); have n1_ := AZ.mk (blk_grown (g := g0_) (o := .cells #[.slice A0_0 l0_0.length c0_0] 30 (0, 0)) (by (with_reducible repeat (first | refine bn_ ?_ _ | refine bd_ ?_ | refine ba_ ?_ _)); exact BK0.out) hg (Kd.R_ne HO_6.out BK0.out (by decide))); have n2_ := AZ.mk (Kd.R_over' (by (with_reducible repeat (first | apply Kd.R_alloc | apply Kd.R_drewN | apply Kd.R_drew)); exact HL191_0.out) (Kd.R_typed (by (with_reducible repeat (first | apply Kd.R_alloc | apply Kd.R_drewN | apply Kd.R_drew)); exact HO_6.out)) (by decide) hg); have n3_ := AZ.mk (hb); have n4_ := AZ.mk (ho); clear HO_5; clear BK0; clear HL191_0; clear HB; clear HO_6; have HO_5 := n0_; have BK0 := n1_; have HL191_0 := n2_; have HB := n3_; have HO195 := n4_; clear n0_ n1_ n2_ n3_ n4_; clear ho hb hg hat)); try go_wp2_with (first | ((with_reducible refine gate_builtin (b := .append) (xs := #[.tmp 30, .tmp 32]) rfl ?_); at_builtin; refine Kd.R_append (Kd.int .i64) (w0 := w) w.heap.size rfl (.tmp 30) (.tmp 32) 34 2 (.int .i64 0) 8 rfl Try.underlying34 info2 rfl (by decide) (by omega) u6 x6_1 x7_1 [.int .i64 x7_1] (fun _ => True) (fun _ => False) rfl rfl ?aP (fun _ hk => hk.elim) ?aF ?aO ?aB ?aS ?aL ?_; (case aP => exact rfl); (case aB => exact (by repeat (first | (with_reducible first | exact HB.out | apply pA | apply pN | apply pD | refine pS ?_ GE0.out) | exact HB.out))); (case aF => exact (fun _ _ => trivial)); (case aO => exact (by (with_reducible repeat (first | apply Kd.R_alloc | apply Kd.R_drewN | apply Kd.R_drew)); exact HO_6.out)); (case aS => exact (pZ (by repeat (first | (with_reducible first | exact HB.out | apply pA | apply pN | apply pD | refine pS ?_ GE0.out) | exact HB.out)))); (case aL => have := LMc15.out; omega); intro v194 w18 ho hb hg hat; rw [← Ny193.out] at ho; have n0_ := AZ.mk (Kd.S_over' (by (with_reducible repeat (first | apply Kd.S_alloc | apply Kd.S_drewN | apply Kd.S_drew)); exact HO_5.out) (Kd.R_typed (by (with_reducible repeat (first | apply Kd.R_alloc | apply Kd.R_drewN | apply Kd.R_drew)); exact HO_6.out)) (by decide) hg); have n1_ := AZ.mk (blk_grown (g := g0_) (o := .cells #[.slice A0_0 l0_0.length c0_0] 30 (0, 0)) (by (with_reducible repeat (first | refine bn_ ?_ _ | refine bd_ ?_ | refine ba_ ?_ _)); exact BK0.out) hg (Kd.R_ne HO_6.out BK0.out (by decide))); have n2_ := AZ.mk (Kd.R_over' (by (with_reducible repeat (first | apply Kd.R_alloc | apply Kd.R_drewN | apply Kd.R_drew)); exact HL191_0.out) (Kd.R_typed (by (with_reducible repeat (first | apply Kd.R_alloc | apply Kd.R_drewN | apply Kd.R_drew)); exact HO_6.out)) (by decide) hg); have n3_ := AZ.mk (hb); have n4_ := AZ.mk (ho); clear HO_5; clear BK0; clear HL191_0; clear HB; clear HO_6; have HO_5 := n0_; have BK0 := n1_; have HL191_0 := n2_; have HB := n3_; have HO195 := n4_; clear n0_ n1_ n2_ n3_ n4_; clear ho hb hg hat)))
   go_roundg k1
   case measure => have := HK1.out; omega
   case rel => exact ⟨(y193), (wrap64 (x7_1 + 1)), (by first | rfl | (simp; done) | (simp [*]; done)), H', ⟨by have := HK1.out; omega⟩, ⟨by (with_reducible repeat (first | apply Kd.S_alloc | apply Kd.S_drewN | apply Kd.S_drew)); exact HO_5.out⟩, ⟨by (with_reducible repeat (first | apply Kd.R_alloc | apply Kd.R_drewN | apply Kd.R_drew)); exact HO195.out⟩, ⟨by (with_reducible repeat (first | refine bn_ ?_ _ | refine bd_ ?_ | refine ba_ ?_ _)); exact BK0.out⟩, ⟨by repeat (first | (with_reducible first | exact HB.out | apply pA | apply pN | apply pD | refine pS ?_ GE0.out) | exact HB.out)⟩⟩
end Go.Proofs.Yteeplponconnjaa.P
namespace Go.Proofs.Yteeplponconnjaa.P
open Go.RowKit Go.Proofs.YteeplponconnjaaW.PrintWords Go.Proofs.YteeplponconnjaaW.PrintLast Go.Proofs.YteeplponconnjaaW.PrintMore
attribute [local go_sem] max2_int min2_int max_two min_two max_three min_three max_four min_four
set_option linter.unusedVariables false
set_option linter.unusedSimpArgs false
def spec_CountAnswers.f (k : Nat) (l0_0 : List (S62)) (a1 : ByteArray) : Option (Int × Int) := (spec_l05Given.f k l0_0 a1).bind fun t197 => (if t197 = 0 then ((spec_l05Answers.f k l0_0 a1).bind fun t198 => (some ((t198.length : Int), 0))) else (some (0, t197)))
set_option maxHeartbeats 8000000 in
set_option maxRecDepth 100000 in
theorem spec_CountAnswers.calls (k : Nat) (A0_0 : Option Addr) (c0_0 : Nat) (l0_0 : List (S62)) (a1 : ByteArray) (r1 : Int) (r2 : Int) (w : World) (hr0_0 : Kd.C k62 w A0_0 l0_0.length l0_0) (hc0_0 : l0_0.length ≤ c0_0) (h : spec_CountAnswers.f k l0_0 a1 = some (r1, r2)) :
  Calls Try.prog 6 #[.agg #[.slice A0_0 l0_0.length c0_0], .string a1] w fun e w' => e = .returned (.tuple #[.int .i64 r1, .int .i64 r2]) ∧ Below w.heap.size w w' := by
 have hu30 := Try.underlying30
 have HR0_0 := AZ.mk hr0_0
 have HC0_0 := AZ.mk hc0_0
 clear hr0_0 hc0_0
 have HB := AZ.mk (Below.refl w.heap.size w)
 have H : ((spec_l05Given.f k l0_0 a1).bind fun t197 => (if t197 = 0 then ((spec_l05Answers.f k l0_0 a1).bind fun t198 => (some ((t198.length : Int), 0))) else (some (0, t197)))) = some (r1, r2) := h
 clear h
 replace H := Option.bind_eq_some_iff.mp H
 obtain ⟨t197, A30, H⟩ := H
 replace H : (if t197 = 0 then ((spec_l05Answers.f k l0_0 a1).bind fun t198 => (some ((t198.length : Int), 0))) else (some (0, t197))) = some (r1, r2) := H
 have A3 := AZ.mk A30
 clear A30
 by_cases c4 : t197 = 0
 rotate_left
 ·rw [if_neg c4] at H
  have c4b0 : (t197 == 0) = false := beq_eq_false_iff_ne.mpr c4
  have c4b1 : (t197 != 0) = true := bne_iff_ne.mpr c4
  simp only [Option.some.injEq, Prod.mk.injEq] at H
  obtain ⟨rfl, rfl⟩ := H
  go_enter Try.func6, Try.ntmps6
  go_wp2_with (first | ((with_reducible refine gate_dst (N := 2) rfl ?_); refine box_event ?hg (N := 2) ?hd (cs := #[.slice A0_0 l0_0.length c0_0]) (t := 30) ?hr ?_; (case hd => rfl); (case hg => rfl); (case hr => first | (go_simp; done) | (go_simp; rfl)); intro gb196 hg w9 hbox hb; have n0_ := AZ.mk (pT (by repeat (first | (with_reducible first | exact HB.out | apply pA | apply pN | apply pD) | exact HB.out)) hb); have n1_ := AZ.mk (hbox); have n2_ := AZ.mk ((by rw [hg]; exact (pZ (by repeat (first | (with_reducible first | exact HB.out | apply pA | apply pN | apply pD) | exact HB.out))) : w.heap.size ≤ gb196)); have n3_ := AZ.mk ((by rw [hg]; exact (pZ (by repeat (first | (with_reducible first | exact HB.out | apply pA | apply pN | apply pD) | exact HB.out))) : w.heap.size ≤ gb196)); clear HB; have HB := n0_; have BK196 := n1_; have GW196 := n2_; have GE196 := n3_; clear n0_ n1_ n2_ n3_; clear hb hbox hg) | ((with_reducible refine gate_callee (f := 17) rfl ?_); refine goesL_ (some 8) rfl rfl Try.func17 (by kernel_rfl) rfl #[.pointer (some ⟨gb196, 0, none⟩), .string a1] rfl (by (try simp only [List.map_toArray, List.map_cons, List.map_nil]); first | done | rfl | (simp only [List.length_drop, List.length_take]; rfl)) ?_; (with_reducible refine (spec_l05Given.calls k gb196 A0_0 c0_0 l0_0 a1 t197 _ ?side1 ?side2 ?side3 A3.out).mono ?_); (case side1 => repeat (first | exact (Kd.C_below HR0_0.out HB.out) | (with_reducible refine Kd.C_alloc ?_ _) | (with_reducible refine Kd.C_drewN ?_ _) | (with_reducible refine Kd.C_drew ?_))); (case side2 => exact HC0_0.out); (case side3 => exact (by (with_reducible repeat (first | refine bn_ ?_ _ | refine bd_ ?_ | refine ba_ ?_ _)); exact BK196.out)); rintro e w' ⟨rfl, ⟨nd, rfl⟩⟩; refine ⟨_, rfl, ?_⟩))
  go_ret2
  exact ⟨by first | rfl | (simp [errW_none, errW_some] <;> rfl) | (simp [*, errW_none, errW_some] <;> rfl), by repeat (first | (with_reducible first | exact HB.out | apply pA | apply pN | apply pD | refine pS ?_ GE196.out) | exact HB.out)⟩
 rw [if_pos c4] at H
 have c4b0 : (t197 == 0) = true := beq_iff_eq.mpr c4
 have c4b1 : (t197 != 0) = false := bne_eq_false_iff_eq.mpr c4
 clear c4
 replace H := Option.bind_eq_some_iff.mp H
 obtain ⟨t198, A50, H⟩ := H
 replace H : (some ((t198.length : Int), 0)) = some (r1, r2) := H
 have A5 := AZ.mk A50
 clear A50
 simp only [Option.some.injEq, Prod.mk.injEq] at H
 obtain ⟨rfl, rfl⟩ := H
 go_enter Try.func6, Try.ntmps6
 go_wp2_with (first | ((with_reducible refine gate_dst (N := 2) rfl ?_); refine box_event ?hg (N := 2) ?hd (cs := #[.slice A0_0 l0_0.length c0_0]) (t := 30) ?hr ?_; (case hd => rfl); (case hg => rfl); (case hr => first | (go_simp; done) | (go_simp; rfl)); intro gb196 hg w6 hbox hb; have n0_ := AZ.mk (pT (by repeat (first | (with_reducible first | exact HB.out | apply pA | apply pN | apply pD) | exact HB.out)) hb); have n1_ := AZ.mk (hbox); have n2_ := AZ.mk ((by rw [hg]; exact (pZ (by repeat (first | (with_reducible first | exact HB.out | apply pA | apply pN | apply pD) | exact HB.out))) : w.heap.size ≤ gb196)); have n3_ := AZ.mk ((by rw [hg]; exact (pZ (by repeat (first | (with_reducible first | exact HB.out | apply pA | apply pN | apply pD) | exact HB.out))) : w.heap.size ≤ gb196)); clear HB; have HB := n0_; have BK196 := n1_; have GW196 := n2_; have GE196 := n3_; clear n0_ n1_ n2_ n3_; clear hb hbox hg) | ((with_reducible refine gate_callee (f := 17) rfl ?_); refine goesL_ (some 8) rfl rfl Try.func17 (by kernel_rfl) rfl #[.pointer (some ⟨gb196, 0, none⟩), .string a1] rfl (by (try simp only [List.map_toArray, List.map_cons, List.map_nil]); first | done | rfl | (simp only [List.length_drop, List.length_take]; rfl)) ?_; (with_reducible refine (spec_l05Given.calls k gb196 A0_0 c0_0 l0_0 a1 t197 _ ?side1 ?side2 ?side3 A3.out).mono ?_); (case side1 => repeat (first | exact (Kd.C_below HR0_0.out HB.out) | (with_reducible refine Kd.C_alloc ?_ _) | (with_reducible refine Kd.C_drewN ?_ _) | (with_reducible refine Kd.C_drew ?_))); (case side2 => exact HC0_0.out); (case side3 => exact (by (with_reducible repeat (first | refine bn_ ?_ _ | refine bd_ ?_ | refine ba_ ?_ _)); exact BK196.out)); rintro e w' ⟨rfl, ⟨nd, rfl⟩⟩; refine ⟨_, rfl, ?_⟩) | ((with_reducible refine gate_callee (f := 18) rfl ?_); refine goesL_ (some 13) rfl rfl Try.func18 (by kernel_rfl) rfl #[.pointer (some ⟨gb196, 0, none⟩), .string a1] rfl (by (try simp only [List.map_toArray, List.map_cons, List.map_nil]); first | done | rfl | (simp only [List.length_drop, List.length_take]; rfl)) ?_; (with_reducible refine (spec_l05Answers.calls k gb196 A0_0 c0_0 l0_0 a1 t198 _ ?side1 ?side2 ?side3 A5.out).mono ?_); (case side1 => repeat (first | exact (Kd.C_below HR0_0.out (by repeat (first | (with_reducible first | exact HB.out | apply pA | apply pN | apply pD | refine pS ?_ GE196.out) | exact HB.out))) | (with_reducible refine Kd.C_alloc ?_ _) | (with_reducible refine Kd.C_drewN ?_ _) | (with_reducible refine Kd.C_drew ?_))); (case side2 => exact HC0_0.out); (case side3 => exact (by (with_reducible repeat (first | refine bn_ ?_ _ | refine bd_ ?_ | refine ba_ ?_ _)); exact BK196.out)); rintro e w7 ⟨v199, rfl, ho0, hb⟩; refine ⟨_, rfl, ?_⟩; have n0_ := AZ.mk (Kd.R_lower ho0 (pZ (by repeat (first | (with_reducible first | exact HB.out | apply pA | apply pN | apply pD | refine pS ?_ GE196.out) | exact HB.out)))); have n1_ := AZ.mk (bb_ (g := gb196) (o := .cells #[.slice A0_0 l0_0.length c0_0] 30 (0, 0)) (by (with_reducible repeat (first | refine bn_ ?_ _ | refine bd_ ?_ | refine ba_ ?_ _)); exact BK196.out) hb); have n2_ := AZ.mk (pT (by repeat (first | (with_reducible first | exact HB.out | apply pA | apply pN | apply pD | refine pS ?_ GE196.out) | exact HB.out)) hb); clear BK196; clear HB; have HO200 := n0_; have BK196 := n1_; have HB := n2_; clear n0_ n1_ n2_; (try clear hb); (try clear hb2); (try clear hk); (try clear hi); (try clear ho0); obtain ⟨Ao8, co8, eo8⟩ := Kd.R_slice HO200.out; subst eo8))
 go_ret2
 exact ⟨by first | rfl | (simp [errW_none, errW_some] <;> rfl) | (simp [*, errW_none, errW_some] <;> rfl), by repeat (first | (with_reducible first | exact HB.out | apply pA | apply pN | apply pD | refine pS ?_ GE196.out) | exact HB.out)⟩
end Go.Proofs.Yteeplponconnjaa.P
namespace Go.Proofs.Yteeplponconnjaa.P
open Go.RowKit Go.Proofs.YteeplponconnjaaW.PrintWords Go.Proofs.YteeplponconnjaaW.PrintLast Go.Proofs.YteeplponconnjaaW.PrintMore
attribute [local go_sem] max2_int min2_int max_two min_two max_three min_three max_four min_four
set_option linter.unusedVariables false
set_option linter.unusedSimpArgs false
def laws_toQueryStep.f (a0_0 : Bool) (a0_1 : ByteArray) : Option (Bool × ByteArray) := some (a0_0, a0_1)
set_option maxHeartbeats 8000000 in
set_option maxRecDepth 100000 in
theorem laws_toQueryStep.calls (a0_0 : Bool) (a0_1 : ByteArray) (r1 : Bool) (r2 : ByteArray) (w : World) (h : laws_toQueryStep.f a0_0 a0_1 = some (r1, r2)) :
  Calls Try.prog 31 #[.agg #[.bool a0_0, .string a0_1]] w fun e w' => e = .returned (.agg #[.bool r1, .string r2]) ∧ Below w.heap.size w w' := by
 have hu57 := Try.underlying57
 have hu62 := Try.underlying62
 have HB := AZ.mk (Below.refl w.heap.size w)
 have H : (some (a0_0, a0_1)) = some (r1, r2) := h
 clear h
 simp only [Option.some.injEq, Prod.mk.injEq] at H
 obtain ⟨rfl, rfl⟩ := H
 go_enter Try.func31, Try.ntmps31
 go_wp2_with (first | ((with_reducible refine gate_dst (N := 1) rfl ?_); refine box_event ?hg (N := 1) ?hd (cs := #[.bool a0_0, .string a0_1]) (t := 57) ?hr ?_; (case hd => rfl); (case hg => rfl); (case hr => first | (go_simp; done) | (go_simp; rfl)); intro gb201 hg w2 hbox hb; have n0_ := AZ.mk (pT (by repeat (first | (with_reducible first | exact HB.out | apply pA | apply pN | apply pD) | exact HB.out)) hb); have n1_ := AZ.mk (hbox); have n2_ := AZ.mk ((by rw [hg]; exact (pZ (by repeat (first | (with_reducible first | exact HB.out | apply pA | apply pN | apply pD) | exact HB.out))) : w.heap.size ≤ gb201)); have n3_ := AZ.mk ((by rw [hg]; exact (pZ (by repeat (first | (with_reducible first | exact HB.out | apply pA | apply pN | apply pD) | exact HB.out))) : w.heap.size ≤ gb201)); clear HB; have HB := n0_; have BK201 := n1_; have GW201 := n2_; have GE201 := n3_; clear n0_ n1_ n2_ n3_; clear hb hbox hg) | ((with_reducible refine gate_dst (N := 2) rfl ?_); refine box_event ?hg (N := 2) ?hd (cs := #[.bool false, .string (⟨#[]⟩ : ByteArray)]) (t := 62) ?hr ?_; (case hd => rfl); (case hg => rfl); (case hr => first | (go_simp; done) | (go_simp; rfl)); intro gb202 hg w3 hbox hb; have n0_ := AZ.mk (bb_ (g := gb201) (o := .cells #[.bool a0_0, .string a0_1] 57 (0, 0)) (by (with_reducible repeat (first | refine bn_ ?_ _ | refine bd_ ?_ | refine ba_ ?_ _)); exact BK201.out) hb); have n1_ := AZ.mk (pT (by repeat (first | (with_reducible first | exact HB.out | apply pA | apply pN | apply pD | refine pS ?_ GE201.out) | exact HB.out)) hb); have n2_ := AZ.mk (hbox); have n3_ := AZ.mk ((by rw [hg]; exact (pZ (by repeat (first | (with_reducible first | exact HB.out | apply pA | apply pN | apply pD | refine pS ?_ GE201.out) | exact HB.out))) : w.heap.size ≤ gb202)); have n4_ := AZ.mk ((by rw [hg]; exact (pZ (by repeat (first | (with_reducible first | exact HB.out | apply pA | apply pN | apply pD | refine pS ?_ GE201.out) | exact HB.out))) : w.heap.size ≤ gb202)); have n5_ := AZ.mk ((by rw [hg]; exact Nat.ne_of_lt (blk_lt (g := gb201) (o := .cells #[.bool a0_0, .string a0_1] 57 (0, 0)) (by (with_reducible repeat (first | refine bn_ ?_ _ | refine bd_ ?_ | refine ba_ ?_ _)); exact BK201.out)) : gb201 ≠ gb202)); have n6_ := AZ.mk ((by rw [hg]; exact Nat.ne_of_gt (blk_lt (g := gb201) (o := .cells #[.bool a0_0, .string a0_1] 57 (0, 0)) (by (with_reducible repeat (first | refine bn_ ?_ _ | refine bd_ ?_ | refine ba_ ?_ _)); exact BK201.out)) : gb202 ≠ gb201)); clear BK201; clear HB; have BK201 := n0_; have HB := n1_; have BK202 := n2_; have GW202 := n3_; have GE202 := n4_; have NB201_202 := n5_; have NB202_201 := n6_; clear n0_ n1_ n2_ n3_ n4_ n5_ n6_; clear hb hbox hg) | ((with_reducible refine gate_dst (N := 3) rfl ?_); refine box_event ?hg (N := 3) ?hd (cs := #[.bool false, .string (⟨#[]⟩ : ByteArray)]) (t := 62) ?hr ?_; (case hd => rfl); (case hg => rfl); (case hr => first | (go_simp; done) | (go_simp; rfl)); intro gb203 hg w4 hbox hb; have n0_ := AZ.mk (bb_ (g := gb201) (o := .cells #[.bool a0_0, .string a0_1] 57 (0, 0)) (by (with_reducible repeat (first | refine bn_ ?_ _ | refine bd_ ?_ | refine ba_ ?_ _)); exact BK201.out) hb); have n1_ := AZ.mk (bb_ (g := gb202) (o := .cells #[.bool false, .string (⟨#[]⟩ : ByteArray)] 62 (0, 0)) (by (with_reducible repeat (first | refine bn_ ?_ _ | refine bd_ ?_ | refine ba_ ?_ _)); exact BK202.out) hb); have n2_ := AZ.mk (pT (by repeat (first | (with_reducible first | exact HB.out | apply pA | apply pN | apply pD | refine pS ?_ GE201.out | refine pS ?_ GE202.out) | exact HB.out)) hb); have n3_ := AZ.mk (hbox); have n4_ := AZ.mk ((by rw [hg]; exact (pZ (by repeat (first | (with_reducible first | exact HB.out | apply pA | apply pN | apply pD | refine pS ?_ GE201.out | refine pS ?_ GE202.out) | exact HB.out))) : w.heap.size ≤ gb203)); have n5_ := AZ.mk ((by rw [hg]; exact (pZ (by repeat (first | (with_reducible first | exact HB.out | apply pA | apply pN | apply pD | refine pS ?_ GE201.out | refine pS ?_ GE202.out) | exact HB.out))) : w.heap.size ≤ gb203)); have n6_ := AZ.mk ((by rw [hg]; exact Nat.ne_of_lt (blk_lt (g := gb201) (o := .cells #[.bool a0_0, .string a0_1] 57 (0, 0)) (by (with_reducible repeat (first | refine bn_ ?_ _ | refine bd_ ?_ | refine ba_ ?_ _)); exact BK201.out)) : gb201 ≠ gb203)); have n7_ := AZ.mk ((by rw [hg]; exact Nat.ne_of_gt (blk_lt (g := gb201) (o := .cells #[.bool a0_0, .string a0_1] 57 (0, 0)) (by (with_reducible repeat (first | refine bn_ ?_ _ | refine bd_ ?_ | refine ba_ ?_ _)); exact BK201.out)) : gb203 ≠ gb201)); have n8_ := AZ.mk ((by rw [hg]; exact Nat.ne_of_lt (blk_lt (g := gb202) (o := .cells #[.bool false, .string (⟨#[]⟩ : ByteArray)] 62 (0, 0)) (by (with_reducible repeat (first | refine bn_ ?_ _ | refine bd_ ?_ | refine ba_ ?_ _)); exact BK202.out)) : gb202 ≠ gb203)); have n9_ := AZ.mk ((by rw [hg]; exact Nat.ne_of_gt (blk_lt (g := gb202) (o := .cells #[.bool false, .string (⟨#[]⟩ : ByteArray)] 62 (0, 0)) (by (with_reducible repeat (first | refine bn_ ?_ _ | refine bd_ ?_ | refine ba_ ?_ _)); exact BK202.out)) : gb203 ≠ gb202)); clear BK201; clear BK202; clear HB; have BK201 := n0_; have BK202 := n1_; have HB := n2_; have BK203 := n3_; have GW203 := n4_; have GE203 := n5_; have NB201_203 := n6_; have NB203_201 := n7_; have NB202_203 := n8_; have NB203_202 := n9_; clear n0_ n1_ n2_ n3_ n4_ n5_ n6_ n7_ n8_ n9_; clear hb hbox hg; have hnb5 := NB201_202.out; have hnc5 := NB202_201.out; have hnb6 := NB201_203.out; have hnc6 := NB203_201.out; have hcz7_0 : w4.cell? ⟨gb201, 0, none⟩ = some (.bool a0_0) := (bc BK201.out 0).trans rfl; have hcz7_1 : w4.cell? ⟨gb201, 1, none⟩ = some (.string a0_1) := (bc BK201.out 1).trans rfl; have hfz7_0 := bf BK201.out 0; have hfz7_1 := bf BK201.out 1; have hnb8 := NB203_202.out; have hnc8 := NB202_203.out; have hcz9_0 : w4.cell? ⟨gb203, 0, none⟩ = some (.bool false) := (bc BK203.out 0).trans rfl; have hcz9_1 : w4.cell? ⟨gb203, 1, none⟩ = some (.string (⟨#[]⟩ : ByteArray)) := (bc BK203.out 1).trans rfl; have hfz9_0 := bf BK203.out 0; have hfz9_1 := bf BK203.out 1; have hcz10_0 : w4.cell? ⟨gb202, 0, none⟩ = some (.bool false) := (bc BK202.out 0).trans rfl; have hcz10_1 : w4.cell? ⟨gb202, 1, none⟩ = some (.string (⟨#[]⟩ : ByteArray)) := (bc BK202.out 1).trans rfl; have hfz10_0 := bf BK202.out 0; have hfz10_1 := bf BK202.out 1))
 refine bodyPost_ret (results_cell_row rfl _ _ gb202 62 #[.bool a0_0, .string a0_1] (0, 0) _ rfl (by (with_reducible repeat (first | refine bn_ ?_ _ | refine bd_ ?_ | refine ba_ ?_ _)); refine blk_put (cs := #[.bool a0_0, .string (⟨#[]⟩ : ByteArray)]) ?_ 1 _ rfl; (with_reducible repeat (first | refine bn_ ?_ _ | refine bd_ ?_ | refine ba_ ?_ _)); refine blk_put (cs := #[.bool false, .string (⟨#[]⟩ : ByteArray)]) ?_ 0 _ rfl; (with_reducible repeat (first | refine bn_ ?_ _ | refine bd_ ?_ | refine ba_ ?_ _)); refine blk_far ?_ NB202_203.out _; (with_reducible repeat (first | refine bn_ ?_ _ | refine bd_ ?_ | refine ba_ ?_ _)); refine blk_far ?_ NB202_203.out _; (with_reducible repeat (first | refine bn_ ?_ _ | refine bd_ ?_ | refine ba_ ?_ _)); exact BK202.out) Try.underlying62 rfl (by kernel_rfl)) rfl ?_
 exact ⟨by first | rfl | (simp [errW_none, errW_some] <;> rfl) | (simp [*, errW_none, errW_some] <;> rfl), by repeat (first | (with_reducible first | exact HB.out | apply pA | apply pN | apply pD | refine pS ?_ GE201.out | refine pS ?_ GE202.out | refine pS ?_ GE203.out) | exact HB.out)⟩
end Go.Proofs.Yteeplponconnjaa.P
namespace Go.Proofs.Yteeplponconnjaa.P
open Go.RowKit Go.Proofs.YteeplponconnjaaW.PrintWords Go.Proofs.YteeplponconnjaaW.PrintLast Go.Proofs.YteeplponconnjaaW.PrintMore
attribute [local go_sem] max2_int min2_int max_two min_two max_three min_three max_four min_four
set_option linter.unusedVariables false
set_option linter.unusedSimpArgs false
def laws_toQueryStepS.l0 : Nat → List (S57) → List (S62) → Int → Option ((List (S62)))
 | 0, _, _, _ => none
 | k + 1, x0, x3, x4 => if x4 < (x0.length : Int) then (if 0 ≤ x4 then ((laws_toQueryStep.f ((rd_T57 x0 x4).f0) ((rd_T57 x0 x4).f1)).bind fun bt208 => (if x4 < (x3.length : Int) then (laws_toQueryStepS.l0 k x0 (x3.set (x4 : Int).toNat (⟨bt208.1, bt208.2⟩ : S62)) (wrap64 (x4 + 1))) else (none))) else (none)) else (some x3)
def laws_toQueryStepS.f (k : Nat) (l0 : List (S57)) : Option ((List (S62))) := if 0 ≤ (l0.length : Int) then (if ((l0.length : Int) : Int).toNat ≤ 11728124029610 then (laws_toQueryStepS.l0 k l0 (List.replicate ((l0.length : Int) : Int).toNat z62) 0) else (none)) else (none)
set_option maxHeartbeats 8000000 in
set_option maxRecDepth 100000 in
theorem laws_toQueryStepS.calls (k : Nat) (A0 : Option Addr) (c0 : Nat) (l0 : List (S57)) (r : List (S62)) (w : World) (hr0 : Kd.C k57 w A0 l0.length l0) (hc0 : l0.length ≤ c0) (h : laws_toQueryStepS.f k l0 = some r) :
  Calls Try.prog 19 #[.slice A0 l0.length c0] w fun e w' => ∃ v0_ : Value, e = .returned (v0_) ∧ Kd.R k62 62 w' w.heap.size (fun _ => True) v0_ r ∧ Below w.heap.size w w' := by
 have hu57 := Try.underlying57
 have hu62 := Try.underlying62
 have HR0 := AZ.mk hr0
 have HC0 := AZ.mk hc0
 clear hr0 hc0
 have HB := AZ.mk (Below.refl w.heap.size w)
 have H : (if 0 ≤ (l0.length : Int) then (if ((l0.length : Int) : Int).toNat ≤ 11728124029610 then (laws_toQueryStepS.l0 k l0 (List.replicate ((l0.length : Int) : Int).toNat z62) 0) else (none)) else (none)) = some r := h
 clear h
 by_cases c2 : 0 ≤ (l0.length : Int)
 rotate_left
 ·rw [if_neg c2] at H
  exact absurd H (by simp)
 rw [if_pos c2] at H
 have c2b0 := eq_true c2
 have c2b1 : decide (0 ≤ (l0.length : Int)) = true := decide_eq_true c2
 clear c2
 by_cases c3 : ((l0.length : Int) : Int).toNat ≤ 11728124029610
 rotate_left
 ·rw [if_neg c3] at H
  exact absurd H (by simp)
 rw [if_pos c3] at H
 have c3b0 := eq_true c3
 have c3b1 : decide (((l0.length : Int) : Int).toNat ≤ 11728124029610) = true := decide_eq_true c3
 clear c3
 obtain ⟨y204, hy204⟩ : ∃ y_ : List (S62), y_ = (List.replicate ((l0.length : Int) : Int).toNat z62) := ⟨_, rfl⟩
 replace H : (laws_toQueryStepS.l0 k l0 y204 0) = some r := by first | (rw [hy204]; with_reducible exact H) | (have H2_ := (Option.bind_some _ _).symm.trans H; rw [hy204]; with_reducible exact H2_) | (have H2_ := (Option.bind_some _ _).symm.trans H; with_reducible exact H2_) | with_reducible exact H | (rw [hy204]; exact H) | exact H
 have Ny204 := AZ.mk hy204
 clear hy204
 have H' := AZ.mk H
 clear H
 go_enter Try.func19, Try.ntmps19
 go_wp2_with (first | ((with_reducible refine gate_dst (N := 7) rfl ?_); refine Kd.R_make k62 _ 62 rfl (N := 7) rfl 28 _ _ rfl (l0.length : Int) rfl rfl Try.underlying28 (.agg #[(.bool false), (.string ⟨#[]⟩)]) 24 info62 rfl (by decide) (by omega) z62 (ok := fun _ => True) (okp := fun _ => True) (k62_mkM _ _ _ z62 ) (fun _ hk => hk) trivial (oT (by first | (with_reducible assumption) | assumption)) (Nat.le_trans (Nat.mul_le_mul_right _ (oT (by first | (with_reducible assumption) | assumption) : (l0.length : Int).toNat ≤ 11728124029610)) (by omega)) (Below.refl _ _) (Nat.le_refl _) ?_; intro v205 w4 ho5 hb hg_ hnew_; clear hg_ hnew_; (first | rw [← Ny204.out] at ho5 | (simp only [Int.reduceToNat] at ho5; rw [← Ny204.out] at ho5)); have n0_ := AZ.mk (Kd.R_lower ho5 (pZ (by repeat (first | (with_reducible first | exact HB.out | apply pA | apply pN | apply pD) | exact HB.out)))); have n1_ := AZ.mk (pT (by repeat (first | (with_reducible first | exact HB.out | apply pA | apply pN | apply pD) | exact HB.out)) hb); clear HB; have HO206 := n0_; have HB := n1_; clear n0_ n1_; clear hb ho5))
 go_loopg [4] k (fun kq v4 w' => ∃ (x3_1 : List (S62)) (x4_1 : Int), v4 = .int .i64 x4_1 ∧ AZ (laws_toQueryStepS.l0 kq l0 x3_1 x4_1 = some r) ∧ AZ (kq ≤ k) ∧ AZ (Kd.R k62 62 w' w.heap.size (fun _ => True) v205 x3_1) ∧ AZ (Below w.heap.size w w'))
 case atStart => exact ⟨(y204), (0), (by first | rfl | (simp; done) | (simp [*]; done)), H', ⟨Nat.le_refl _⟩, ⟨by (with_reducible repeat (first | apply Kd.R_alloc | apply Kd.R_drewN | apply Kd.R_drew)); exact HO206.out⟩, ⟨by repeat (first | (with_reducible first | exact HB.out | apply pA | apply pN | apply pD) | exact HB.out)⟩⟩
 case round =>
  clear H'
  try clear c1
  try clear c2
  try clear c2b0
  try clear c2b1
  try clear p2
  try clear c3
  try clear c3b0
  try clear c3b1
  obtain ⟨x3_1, x4_1, rfl, HA, HK1, HO_3, HB⟩ := hrel
  cases gk with
  | zero => exact absurd HA.out (by simp [laws_toQueryStepS.l0])
  | succ k1 =>
   have H := HA.out
   clear HA
   simp only [laws_toQueryStepS.l0] at H
   by_cases c6 : x4_1 < (l0.length : Int)
   rotate_left
   ·rw [if_neg c6] at H
    have c6b0 : decide (x4_1 < (l0.length : Int)) = false := decide_eq_false c6
    clear c6
    obtain rfl := Option.some.inj H
    go_wp2
    go_ret
    exact ⟨_, by first | rfl | (simp [errW_none, errW_some] <;> rfl) | (simp [*, errW_none, errW_some] <;> rfl), by (with_reducible repeat (first | apply Kd.R_alloc | apply Kd.R_drewN | apply Kd.R_drew)); exact HO_3.out, by repeat (first | (with_reducible first | exact HB.out | apply pA | apply pN | apply pD) | exact HB.out)⟩
   rw [if_pos c6] at H
   have c6b0 : decide (x4_1 < (l0.length : Int)) = true := decide_eq_true c6
   clear c6
   by_cases c7 : 0 ≤ x4_1
   rotate_left
   ·rw [if_neg c7] at H
    exact absurd H (by simp)
   rw [if_pos c7] at H
   have c7b0 : decide (0 ≤ x4_1) = true := decide_eq_true c7
   clear c7
   replace H := Option.bind_eq_some_iff.mp H
   obtain ⟨⟨t208, t209⟩, A80, H⟩ := H
   replace H : (if x4_1 < (x3_1.length : Int) then (laws_toQueryStepS.l0 k1 l0 (x3_1.set (x4_1 : Int).toNat (⟨t208, t209⟩ : S62)) (wrap64 (x4_1 + 1))) else (none)) = some r := H
   have A8 := AZ.mk A80
   clear A80
   by_cases c9 : x4_1 < (x3_1.length : Int)
   rotate_left
   ·rw [if_neg c9] at H
    exact absurd H (by simp)
   rw [if_pos c9] at H
   have c9b0 : decide (x4_1 < (x3_1.length : Int)) = true := decide_eq_true c9
   clear c9
   obtain ⟨y210, hy210⟩ : ∃ y_ : List (S62), y_ = (x3_1.set (x4_1 : Int).toNat (⟨t208, t209⟩ : S62)) := ⟨_, rfl⟩
   replace H : (laws_toQueryStepS.l0 k1 l0 y210 (wrap64 (x4_1 + 1))) = some r := by first | (rw [hy210]; with_reducible exact H) | (have H2_ := (Option.bind_some _ _).symm.trans H; rw [hy210]; with_reducible exact H2_) | (have H2_ := (Option.bind_some _ _).symm.trans H; with_reducible exact H2_) | with_reducible exact H | (rw [hy210]; exact H) | exact H
   have Ny210 := AZ.mk hy210
   clear hy210
   have H' := AZ.mk H
   clear H
   have p207 : 0 ≤ (x4_1 : Int) := oT (by first | (with_reducible assumption) | assumption)
   have q207 : x4_1 < (l0.length : Int) := oT (by first | (with_reducible assumption) | assumption)
   obtain ⟨ad207, e207, hx207_0, hx207_1⟩ := at_T57 HR0.out x4_1 p207 q207
   cases e207
   replace hx207_0 := (HB.out.cell (World.block_lt_of_cell? w _ hx207_0)).trans hx207_0
   replace hx207_1 := (HB.out.cell (World.block_lt_of_cell? w _ hx207_1)).trans hx207_1
   replace p207 := eq_true p207
   replace q207 := eq_true q207
   go_wp2_with (first | ((with_reducible refine gate_callee (f := 31) rfl ?_); refine goesL_ (some 20) rfl rfl Try.func31 (by kernel_rfl) rfl #[.agg #[.bool ((rd_T57 l0 x4_1).f0), .string ((rd_T57 l0 x4_1).f1)]] rfl (by (try simp only [List.map_toArray, List.map_cons, List.map_nil]); first | done | rfl | (simp only [List.length_drop, List.length_take]; rfl)) ?_; (with_reducible refine (laws_toQueryStep.calls ((rd_T57 l0 x4_1).f0) ((rd_T57 l0 x4_1).f1) t208 t209 _ A8.out).mono ?_); rintro e w11 ⟨rfl, hb⟩; refine ⟨_, rfl, ?_⟩; have n0_ := AZ.mk (Kd.R_below (by (with_reducible repeat (first | apply Kd.R_alloc | apply Kd.R_drewN | apply Kd.R_drew)); exact HO_3.out) hb); have n1_ := AZ.mk (pT (by repeat (first | (with_reducible first | exact HB.out | apply pA | apply pN | apply pD) | exact HB.out)) hb); clear HO_3; clear HB; have HO_3 := n0_; have HB := n1_; clear n0_ n1_; (try clear hb); (try clear hb2); (try clear hk); (try clear hi); have p10 : 0 ≤ (x4_1 : Int) := oT (by first | (with_reducible assumption) | assumption); have q10 : (x4_1 : Int) < ((x3_1.length : Int) : Int) := oT (by first | (with_reducible assumption) | assumption); obtain ⟨go10, co10, eo10, gb10, gl10, cl10, HG10⟩ := Kd.R_form HO_3.out (by omega); (first | cases eo10 | (injection eo10 with ea_ en_ ec_; (first | subst ea_ | (injection ea_ with ea_; subst ea_)); subst ec_; clear en_)); have GB10 := AZ.mk gb10; have GG10 := AZ.mk HG10; clear gb10 gl10 HG10; obtain ⟨ce10, hcl10, hM10, hcc10, hfr10⟩ := Kd.R_elem HO_3.out z62 (x4_1 : Int) p10 q10; obtain rfl := k62_openM hM10; have hx10_0 : w11.cell? ⟨go10, (x4_1 : Int).toNat * 2, none⟩ = some (.bool ((rd_T62 x3_1 x4_1).f0)) := hcc10 0 _ rfl; have hx10_1 : w11.cell? ⟨go10, (x4_1 : Int).toNat * 2 + 1, none⟩ = some (.string ((rd_T62 x3_1 x4_1).f1)) := hcc10 1 _ rfl; have hf10_0 : w11.frozen? ⟨go10, (x4_1 : Int).toNat * 2, none⟩ = false := hfr10 0; have hf10_1 : w11.frozen? ⟨go10, (x4_1 : Int).toNat * 2 + 1, none⟩ = false := hfr10 1; clear hcl10 hcc10 hfr10; (try clear hM10); replace p10 := eq_true p10; replace q10 := eq_true q10; have HX12 := AZ.mk (show Kd.R k62 62 w11 w.heap.size (fun _ => True) (.slice (some ⟨go10, 0, none⟩) x3_1.length co10) x3_1 from (by (with_reducible repeat (first | apply Kd.R_alloc | apply Kd.R_drewN | apply Kd.R_drew)); exact HO_3.out)); obtain ⟨ce12, hcl12, hM12, hcc12, hfr12⟩ := Kd.R_elem HX12.out z62 (x4_1 : Int) (oT (by first | (with_reducible assumption) | assumption)) (by have h_ : (x4_1 : Int) < ((x3_1.length : Int) : Int) := oT (by first | (with_reducible assumption) | assumption); first | exact h_ | (have e_ := (Kd.R_reads' HO_3.out).1; omega) | simpa using h_); obtain rfl := k62_openM hM12; have HP12 := Kd.R_seg HX12.out (x4_1 : Int) (oT (by first | (with_reducible assumption) | assumption)) (by have h_ : (x4_1 : Int) < ((x3_1.length : Int) : Int) := oT (by first | (with_reducible assumption) | assumption); first | exact h_ | (have e_ := (Kd.R_reads' HO_3.out).1; omega) | simpa using h_) (seg := [.bool t208, .string t209]) (j := 0) hcl12 hcc12 (show 2 ≤ 2 from by decide) (x' := (⟨t208, t209⟩ : S62)) (k62_mkM _ _ _ (⟨t208, t209⟩ : S62) ) (fun _ hk => hk); have hx12_0 := hcc12 0 _ rfl; (try simp only [show (k62).sz = 2 from rfl, Nat.mul_one, Nat.add_zero] at hx12_0); have hf12_0 := hfr12 0; (try simp only [show (k62).sz = 2 from rfl, Nat.mul_one, Nat.add_zero] at hf12_0); have hx12_1 := hcc12 1 _ rfl; (try simp only [show (k62).sz = 2 from rfl, Nat.mul_one, Nat.add_zero] at hx12_1); have hf12_1 := hfr12 1; (try simp only [show (k62).sz = 2 from rfl, Nat.mul_one, Nat.add_zero] at hf12_1); clear hcl12 hcc12 hfr12; (try clear hM12)) | ((with_reducible refine gate_store (t := 62) (p := 21) rfl ?_); refine store_event (t := 62) (p := 21) (v := ?vo_w13) (w1 := ((w11.setCell ⟨go10, (x4_1 : Int).toNat * 2, none⟩ (.bool t208)).setCell ⟨go10, (x4_1 : Int).toNat * 2 + 1, none⟩ (.string t209))) ?hg ?ho ?hn ?hr ?_; (case ho => rfl); (case hg => rfl); (case hn => rfl); (case hr => first | (go_simp; done) | (go_simp; rfl)); intro w13 hw; have hg : w11.grownBy w13 (some go10) := (by rw [hw]; exact HP12.2); have hp_ : Kd.R k62 62 w13 w.heap.size (fun _ => True) (.slice (some ⟨go10, 0, none⟩) x3_1.length co10) y210 := (by rw [hw, Ny210.out]; exact HP12.1); clear HP12; have n0_ := AZ.mk (hp_); have n1_ := AZ.mk ((by rw [hw]; exact pS (pS (HB.out) GB10.out) GB10.out : Below w.heap.size w w13)); clear HO_3; clear HB; have HO_3 := n0_; have HB := n1_; clear n0_ n1_; clear hg hw hp_))
   go_roundg k1
   case measure => have := HK1.out; omega
   case rel => exact ⟨(y210), (wrap64 (x4_1 + 1)), (by first | rfl | (simp; done) | (simp [*]; done)), H', ⟨by have := HK1.out; omega⟩, ⟨by (with_reducible repeat (first | apply Kd.R_alloc | apply Kd.R_drewN | apply Kd.R_drew)); exact HO_3.out⟩, ⟨by repeat (first | (with_reducible first | exact HB.out | apply pA | apply pN | apply pD) | exact HB.out)⟩⟩
end Go.Proofs.Yteeplponconnjaa.P
namespace Go.Proofs.Yteeplponconnjaa.P
open Go.RowKit Go.Proofs.YteeplponconnjaaW.PrintWords Go.Proofs.YteeplponconnjaaW.PrintLast Go.Proofs.YteeplponconnjaaW.PrintMore
attribute [local go_sem] max2_int min2_int max_two min_two max_three min_three max_four min_four
set_option linter.unusedVariables false
set_option linter.unusedSimpArgs false
def laws_toQuery.f (k : Nat) (l0_0 : List (S57)) : Option ((List (S62))) := (laws_toQueryStepS.f k l0_0).bind fun t214 => (some t214)
set_option maxHeartbeats 8000000 in
set_option maxRecDepth 100000 in
theorem laws_toQuery.calls (k : Nat) (A0_0 : Option Addr) (c0_0 : Nat) (l0_0 : List (S57)) (r : List (S62)) (w : World) (hr0_0 : Kd.C k57 w A0_0 l0_0.length l0_0) (hc0_0 : l0_0.length ≤ c0_0) (h : laws_toQuery.f k l0_0 = some r) :
  Calls Try.prog 7 #[.agg #[.slice A0_0 l0_0.length c0_0]] w fun e w' => ∃ v0_ : Value, e = .returned (.agg #[v0_]) ∧ Kd.R k62 62 w' w.heap.size (fun _ => True) v0_ r ∧ Below w.heap.size w w' := by
 have hu24 := Try.underlying24
 have hu30 := Try.underlying30
 have HR0_0 := AZ.mk hr0_0
 have HC0_0 := AZ.mk hc0_0
 clear hr0_0 hc0_0
 have HB := AZ.mk (Below.refl w.heap.size w)
 have H : ((laws_toQueryStepS.f k l0_0).bind fun t214 => (some t214)) = some r := h
 clear h
 replace H := Option.bind_eq_some_iff.mp H
 obtain ⟨t214, A20, H⟩ := H
 replace H : (some t214) = some r := H
 have A2 := AZ.mk A20
 clear A20
 obtain rfl := Option.some.inj H
 go_enter Try.func7, Try.ntmps7
 go_wp2_with (first | ((with_reducible refine gate_dst (N := 1) rfl ?_); refine box_event ?hg (N := 1) ?hd (cs := #[.slice A0_0 l0_0.length c0_0]) (t := 24) ?hr ?_; (case hd => rfl); (case hg => rfl); (case hr => first | (go_simp; done) | (go_simp; rfl)); intro gb211 hg w3 hbox hb; have n0_ := AZ.mk (pT (by repeat (first | (with_reducible first | exact HB.out | apply pA | apply pN | apply pD) | exact HB.out)) hb); have n1_ := AZ.mk (hbox); have n2_ := AZ.mk ((by rw [hg]; exact (pZ (by repeat (first | (with_reducible first | exact HB.out | apply pA | apply pN | apply pD) | exact HB.out))) : w.heap.size ≤ gb211)); have n3_ := AZ.mk ((by rw [hg]; exact (pZ (by repeat (first | (with_reducible first | exact HB.out | apply pA | apply pN | apply pD) | exact HB.out))) : w.heap.size ≤ gb211)); clear HB; have HB := n0_; have BK211 := n1_; have GW211 := n2_; have GE211 := n3_; clear n0_ n1_ n2_ n3_; clear hb hbox hg) | ((with_reducible refine gate_dst (N := 2) rfl ?_); refine box_event ?hg (N := 2) ?hd (cs := #[.slice none 0 0]) (t := 30) ?hr ?_; (case hd => rfl); (case hg => rfl); (case hr => first | (go_simp; done) | (go_simp; rfl)); intro gb212 hg w4 hbox hb; have n0_ := AZ.mk (bb_ (g := gb211) (o := .cells #[.slice A0_0 l0_0.length c0_0] 24 (0, 0)) (by (with_reducible repeat (first | refine bn_ ?_ _ | refine bd_ ?_ | refine ba_ ?_ _)); exact BK211.out) hb); have n1_ := AZ.mk (pT (by repeat (first | (with_reducible first | exact HB.out | apply pA | apply pN | apply pD | refine pS ?_ GE211.out) | exact HB.out)) hb); have n2_ := AZ.mk (hbox); have n3_ := AZ.mk ((by rw [hg]; exact (pZ (by repeat (first | (with_reducible first | exact HB.out | apply pA | apply pN | apply pD | refine pS ?_ GE211.out) | exact HB.out))) : w.heap.size ≤ gb212)); have n4_ := AZ.mk ((by rw [hg]; exact (pZ (by repeat (first | (with_reducible first | exact HB.out | apply pA | apply pN | apply pD | refine pS ?_ GE211.out) | exact HB.out))) : w.heap.size ≤ gb212)); have n5_ := AZ.mk ((by rw [hg]; exact Nat.ne_of_lt (blk_lt (g := gb211) (o := .cells #[.slice A0_0 l0_0.length c0_0] 24 (0, 0)) (by (with_reducible repeat (first | refine bn_ ?_ _ | refine bd_ ?_ | refine ba_ ?_ _)); exact BK211.out)) : gb211 ≠ gb212)); have n6_ := AZ.mk ((by rw [hg]; exact Nat.ne_of_gt (blk_lt (g := gb211) (o := .cells #[.slice A0_0 l0_0.length c0_0] 24 (0, 0)) (by (with_reducible repeat (first | refine bn_ ?_ _ | refine bd_ ?_ | refine ba_ ?_ _)); exact BK211.out)) : gb212 ≠ gb211)); clear BK211; clear HB; have BK211 := n0_; have HB := n1_; have BK212 := n2_; have GW212 := n3_; have GE212 := n4_; have NB211_212 := n5_; have NB212_211 := n6_; clear n0_ n1_ n2_ n3_ n4_ n5_ n6_; clear hb hbox hg) | ((with_reducible refine gate_dst (N := 3) rfl ?_); refine box_event ?hg (N := 3) ?hd (cs := #[.slice none 0 0]) (t := 30) ?hr ?_; (case hd => rfl); (case hg => rfl); (case hr => first | (go_simp; done) | (go_simp; rfl)); intro gb213 hg w5 hbox hb; have n0_ := AZ.mk (bb_ (g := gb211) (o := .cells #[.slice A0_0 l0_0.length c0_0] 24 (0, 0)) (by (with_reducible repeat (first | refine bn_ ?_ _ | refine bd_ ?_ | refine ba_ ?_ _)); exact BK211.out) hb); have n1_ := AZ.mk (bb_ (g := gb212) (o := .cells #[.slice none 0 0] 30 (0, 0)) (by (with_reducible repeat (first | refine bn_ ?_ _ | refine bd_ ?_ | refine ba_ ?_ _)); exact BK212.out) hb); have n2_ := AZ.mk (pT (by repeat (first | (with_reducible first | exact HB.out | apply pA | apply pN | apply pD | refine pS ?_ GE211.out | refine pS ?_ GE212.out) | exact HB.out)) hb); have n3_ := AZ.mk (hbox); have n4_ := AZ.mk ((by rw [hg]; exact (pZ (by repeat (first | (with_reducible first | exact HB.out | apply pA | apply pN | apply pD | refine pS ?_ GE211.out | refine pS ?_ GE212.out) | exact HB.out))) : w.heap.size ≤ gb213)); have n5_ := AZ.mk ((by rw [hg]; exact (pZ (by repeat (first | (with_reducible first | exact HB.out | apply pA | apply pN | apply pD | refine pS ?_ GE211.out | refine pS ?_ GE212.out) | exact HB.out))) : w.heap.size ≤ gb213)); have n6_ := AZ.mk ((by rw [hg]; exact Nat.ne_of_lt (blk_lt (g := gb211) (o := .cells #[.slice A0_0 l0_0.length c0_0] 24 (0, 0)) (by (with_reducible repeat (first | refine bn_ ?_ _ | refine bd_ ?_ | refine ba_ ?_ _)); exact BK211.out)) : gb211 ≠ gb213)); have n7_ := AZ.mk ((by rw [hg]; exact Nat.ne_of_gt (blk_lt (g := gb211) (o := .cells #[.slice A0_0 l0_0.length c0_0] 24 (0, 0)) (by (with_reducible repeat (first | refine bn_ ?_ _ | refine bd_ ?_ | refine ba_ ?_ _)); exact BK211.out)) : gb213 ≠ gb211)); have n8_ := AZ.mk ((by rw [hg]; exact Nat.ne_of_lt (blk_lt (g := gb212) (o := .cells #[.slice none 0 0] 30 (0, 0)) (by (with_reducible repeat (first | refine bn_ ?_ _ | refine bd_ ?_ | refine ba_ ?_ _)); exact BK212.out)) : gb212 ≠ gb213)); have n9_ := AZ.mk ((by rw [hg]; exact Nat.ne_of_gt (blk_lt (g := gb212) (o := .cells #[.slice none 0 0] 30 (0, 0)) (by (with_reducible repeat (first | refine bn_ ?_ _ | refine bd_ ?_ | refine ba_ ?_ _)); exact BK212.out)) : gb213 ≠ gb212)); clear BK211; clear BK212; clear HB; have BK211 := n0_; have BK212 := n1_; have HB := n2_; have BK213 := n3_; have GW213 := n4_; have GE213 := n5_; have NB211_213 := n6_; have NB213_211 := n7_; have NB212_213 := n8_; have NB213_212 := n9_; clear n0_ n1_ n2_ n3_ n4_ n5_ n6_ n7_ n8_ n9_; clear hb hbox hg; have hnb6 := NB211_212.out; have hnc6 := NB212_211.out; have hnb7 := NB211_213.out; have hnc7 := NB213_211.out; have hcz8_0 : w5.cell? ⟨gb211, 0, none⟩ = some (.slice A0_0 l0_0.length c0_0) := (bc BK211.out 0).trans rfl; have hfz8_0 := bf BK211.out 0) | ((with_reducible refine gate_callee (f := 19) rfl ?_); refine goesL_ (some 6) rfl rfl Try.func19 (by kernel_rfl) rfl #[.slice A0_0 l0_0.length c0_0] rfl (by (try simp only [List.map_toArray, List.map_cons, List.map_nil]); first | done | rfl | (simp only [List.length_drop, List.length_take]; rfl)) ?_; (with_reducible refine (laws_toQueryStepS.calls k _ _ l0_0 t214 _ ?side1 ?side2 A2.out).mono ?_); (case side1 => repeat (first | exact (Kd.C_below HR0_0.out HB.out) | (with_reducible refine Kd.C_alloc ?_ _) | (with_reducible refine Kd.C_drewN ?_ _) | (with_reducible refine Kd.C_drew ?_))); (case side2 => exact HC0_0.out); rintro e w9 ⟨v215, rfl, ho0, hb⟩; refine ⟨_, rfl, ?_⟩; have n0_ := AZ.mk (Kd.R_lower ho0 (pZ (by repeat (first | (with_reducible first | exact HB.out | apply pA | apply pN | apply pD | refine pS ?_ GE211.out | refine pS ?_ GE212.out | refine pS ?_ GE213.out) | exact HB.out)))); have n1_ := AZ.mk (bb_ (g := gb211) (o := .cells #[.slice A0_0 l0_0.length c0_0] 24 (0, 0)) (by (with_reducible repeat (first | refine bn_ ?_ _ | refine bd_ ?_ | refine ba_ ?_ _)); exact BK211.out) hb); have n2_ := AZ.mk (bb_ (g := gb212) (o := .cells #[.slice none 0 0] 30 (0, 0)) (by (with_reducible repeat (first | refine bn_ ?_ _ | refine bd_ ?_ | refine ba_ ?_ _)); exact BK212.out) hb); have n3_ := AZ.mk (bb_ (g := gb213) (o := .cells #[.slice none 0 0] 30 (0, 0)) (by (with_reducible repeat (first | refine bn_ ?_ _ | refine bd_ ?_ | refine ba_ ?_ _)); exact BK213.out) hb); have n4_ := AZ.mk (pT (by repeat (first | (with_reducible first | exact HB.out | apply pA | apply pN | apply pD | refine pS ?_ GE211.out | refine pS ?_ GE212.out | refine pS ?_ GE213.out) | exact HB.out)) hb); clear BK211; clear BK212; clear BK213; clear HB; have HO216 := n0_; have BK211 := n1_; have BK212 := n2_; have BK213 := n3_; have HB := n4_; clear n0_ n1_ n2_ n3_ n4_; (try clear hb); (try clear hb2); (try clear hk); (try clear hi); (try clear ho0); obtain ⟨Ao10, co10, eo10⟩ := Kd.R_slice HO216.out; subst eo10; have hnb11 := NB213_212.out; have hnc11 := NB212_213.out; have hcz12_0 : w9.cell? ⟨gb213, 0, none⟩ = some (.slice none 0 0) := (bc BK213.out 0).trans rfl; have hfz12_0 := bf BK213.out 0; have hcz13_0 : w9.cell? ⟨gb212, 0, none⟩ = some (.slice none 0 0) := (bc BK212.out 0).trans rfl; have hfz13_0 := bf BK212.out 0))
 refine bodyPost_ret (results_cell_row rfl _ _ gb212 30 #[.slice Ao10 t214.length co10] (0, 0) _ rfl (by (with_reducible repeat (first | refine bn_ ?_ _ | refine bd_ ?_ | refine ba_ ?_ _)); refine blk_put (cs := #[.slice none 0 0]) ?_ 0 _ rfl; (with_reducible repeat (first | refine bn_ ?_ _ | refine bd_ ?_ | refine ba_ ?_ _)); refine blk_far ?_ NB212_213.out _; (with_reducible repeat (first | refine bn_ ?_ _ | refine bd_ ?_ | refine ba_ ?_ _)); exact BK212.out) Try.underlying30 rfl (by kernel_rfl)) rfl ?_
 exact ⟨_, by first | rfl | (simp [errW_none, errW_some] <;> rfl) | (simp [*, errW_none, errW_some] <;> rfl), by (with_reducible repeat (first | apply Kd.R_alloc | apply Kd.R_drewN | apply Kd.R_drew)); exact Kd.R_mono (Kd.R_far (p := ⟨gb212, 0, none⟩) (Kd.R_far (p := ⟨gb213, 0, none⟩) (Kd.R_types (Kd.R_types HO216.out BK213.out (by decide)) BK212.out (by decide)) (fun _ hk => hk.1.2) (.slice Ao10 t214.length co10)) (fun _ hk => hk.2) (.slice Ao10 t214.length co10)) (fun _ hk => trivial), by repeat (first | (with_reducible first | exact HB.out | apply pA | apply pN | apply pD | refine pS ?_ GE211.out | refine pS ?_ GE212.out | refine pS ?_ GE213.out) | exact HB.out)⟩
end Go.Proofs.Yteeplponconnjaa.P
namespace Go.Proofs.Yteeplponconnjaa.Wa
open Go.RowKit Go.Proofs.YteeplponconnjaaW.PrintWords Go.Proofs.YteeplponconnjaaW.PrintLast Go.Proofs.YteeplponconnjaaW.PrintMore
set_option linter.unusedVariables false
set_option linter.unusedSimpArgs false
def tg (f : Nat → Nat) (j : Nat) : Nat → Prop := fun k => f k = j
def tg2 (f : Nat → Nat) : Nat → Prop := fun k => f k = 1 ∨ f k = 2
def upT (f : Nat → Nat) (N j : Nat) : Nat → Nat := fun k => if k < N then f k else j
theorem upT_lt {f : Nat → Nat} {N j k : Nat} (h : k < N) : upT f N j k = f k := if_pos h
theorem upT_ge {f : Nat → Nat} {N j k : Nat} (h : N ≤ k) : upT f N j k = j := if_neg (by omega)
section
variable {P : Program} {ops : Array Oper} {o : Oper} {a : Act} {Q : Exit → Act → World → Prop} {Kc : Act → World → Prop} {α : Type}
theorem R_append_at (d : Kd α) {w0 W : World} (base : Nat) (hw : Region.wanted o (yielded ops a.tmps) = true) (s x : Operand) (t e : TypeId) (z : Value) (bytes : Nat)
  (ho : o.op = .call { callee := .builtin .append, args := #[s, x], argTypes := #[t, t] })
  (ht : P.underlying t = some (.slice e)) (hinfo : (P.info? e).map (fun i => (i.zero, i.size, i.bytes)) = some (some z, d.sz, bytes)) (hz : z.cells.size = d.sz) (hs0 : 0 < d.sz) (hb0 : 0 < bytes)
  (v : Value) (xs : List α) (p : α) (cs : List Value) (ok okp : Nat → Prop) (g : Nat) (hs : a.eval s = v) (hx : a.eval x = .slice (some ⟨g, 0, none⟩) 1 1) (hg : W.heap[g]? = some (.cells cs.toArray e (0, 0)))
  (hp : d.M W base okp p cs) (hokp : ∀ k, okp k → ok k ∧ some k ≠ v.ownBlock) (hfresh : ∀ k, W.heap.size ≤ k → ok k)
  (HO : d.R e W base ok v xs) (HB : Below base w0 W) (hbase : base ≤ W.heap.size) (hl : (xs.length + 1) * bytes ≤ 140737488355328)
  (h : ∀ v1 w1, d.R e w1 base ok v1 (xs ++ [p]) → Below base w0 w1 → W.grownBy w1 v.ownBlock → (v1.ownBlock = v.ownBlock ∨ ∃ b, v1.ownBlock = some b ∧ W.heap.size ≤ b) → Kc (a.put o.dst v1) w1) :
  if Region.wanted o (yielded ops a.tmps) = true then Oper.wp P o a W Kc Q else Kc (a.put o.dst undef) W := by
 obtain ⟨h0, inner, hown, hr⟩ := HO
 obtain ⟨i0, hi, hzz⟩ := Option.map_eq_some_iff.1 hinfo
 simp only [Prod.mk.injEq] at hzz
 obtain ⟨hz0, hz1, hz2⟩ := hzz
 have hlen : xs.length + 1 ≤ 140737488355328 := Nat.le_trans (Nat.le_mul_of_pos_right _ hb0) hl
 have hys : cs.length = d.sz := d.K_len (d.K_of_M hp)
 rw [if_pos hw]
 obtain ⟨v1, w1, hrun, hown1, hg1, _, hat⟩ := run_append_own_at (P := P) W base t o.type e i0 z d.sz bytes ht hi hz0 hz1 hz2 hz hs0 v xs.length inner hown ⟨g, 0, none⟩ 1 1 cs (by rw [hys]; simp)
  (by simpa using World.news_of_block (cs := cs.toArray) (t := e) (fr := (0, 0)) hg) (d.K_one (d.K_of_M hp)) (by simp only [maxLen]; omega) hl hbase
 unfold Oper.wp execOp
 simp only [ho, resolve, invoke, builtin, Sem.run_bind, Sem.run_pure, Result.andThen_ok, List.map_toArray, List.map_cons, List.map_nil, hs, hx, hrun]
 have hat1 : v1.ownBlock = v.ownBlock ∨ ∃ b, v1.ownBlock = some b ∧ W.heap.size ≤ b := by
  rcases hat with hat | hat
  ·exact .inl hat
  ·exact .inr ⟨_, hat, Nat.le_refl _⟩
 exact h v1 w1 (Kd.R_appended h0 hr hp hokp hfresh hown1 hg1 hat1) (HB.grown hg1 hbase (own_base hown)) hg1 hat1
theorem N_append_at (d : Kd α) {w0 W : World} (base : Nat) (hw : Region.wanted o (yielded ops a.tmps) = true) (s x : Operand) (t e : TypeId) (z : Value) (bytes : Nat)
  (ho : o.op = .call { callee := .builtin .append, args := #[s, x], argTypes := #[t, t] })
  (ht : P.underlying t = some (.slice e)) (hinfo : (P.info? e).map (fun i => (i.zero, i.size, i.bytes)) = some (some z, d.sz, bytes)) (hz : z.cells.size = d.sz) (hs0 : 0 < d.sz) (hb0 : 0 < bytes)
  (v : Value) (xs : List α) (p : α) (cs : List Value) (ok okp : Nat → Prop) (g : Nat) (hs : a.eval s = v) (hx : a.eval x = .slice (some ⟨g, 0, none⟩) 1 1) (hg : W.heap[g]? = some (.cells cs.toArray e (0, 0)))
  (hp : Kd.FK d W okp p cs) (hokp : ∀ k, okp k → ok k ∧ some k ≠ v.ownBlock) (hfresh : ∀ k, W.heap.size ≤ k → ok k)
  (HO : Kd.N d e W base ok v xs) (HB : Below base w0 W) (hbase : base ≤ W.heap.size) (hl : (xs.length + 1) * bytes ≤ 140737488355328)
  (h : ∀ v1 w1, Kd.N d e w1 base ok v1 (xs ++ [p]) → Below base w0 w1 → W.grownBy w1 v.ownBlock → (v1.ownBlock = v.ownBlock ∨ ∃ b, v1.ownBlock = some b ∧ W.heap.size ≤ b) → Kc (a.put o.dst v1) w1) :
  if Region.wanted o (yielded ops a.tmps) = true then Oper.wp P o a W Kc Q else Kc (a.put o.dst undef) W := by
 obtain ⟨h0, rows, hlr, hR, hf⟩ := HO
 refine R_append_at (Kd.raw d.sz) base hw s x t e z bytes ho ht hinfo hz hs0 hb0 v rows cs cs (fun _ => True) (fun _ => False) g hs hx hg (Kd.FK_raw hp) (fun _ hk => hk.elim) (fun _ _ => trivial) (Kd.raw_any hR) HB hbase (by rw [hlr]; exact hl) ?_
 intro v1 w1 hr hb hg hat
 exact h v1 w1 (Kd.N_appended h0 hlr hf (ys := [p]) (news := [cs]) rfl (fun j y c hy hc => by
  rcases j with _ | j
  ·simp only [List.getElem?_cons_zero, Option.some.injEq] at hy hc
   rw [← hy, ← hc]; exact hp
  ·simp at hy) hokp hfresh hr hg hat) hb hg hat
end
section
variable {α : Type} (dq : Kd α) (tI tN tQ tW : Nat)
def WtF (f : Nat → Nat) (W : World) (B gX : Nat) (vq vN vS vo : Value) (steps : List α) (now : List Int) (st : List (List Int)) (out : List Int) : Prop :=
 f gX = 3 ∧ (Kd.int .i64).R tI W B (tg f 0) vo out ∧ Kd.N (Kd.slice tI (Kd.int .i64)) tN W B (tg2 f) vS st ∧ (∀ k, vS.ownBlock = some k → f k = 1) ∧ Kd.V (Kd.int .i64) tI W B (tg f 2) vN now ∧ Kd.V dq tQ W B (tg f 4) vq steps
def Wt (w0 W : World) (B gX : Nat) (cs : Array Value) (vq vN vS vo : Value) (steps : List α) (now : List Int) (st : List (List Int)) (out : List Int) : Prop :=
 Below B w0 W ∧ B ≤ gX ∧ W.heap[gX]? = some (.cells cs tW (0, 0)) ∧ ∃ f, WtF dq tI tN tQ f W B gX vq vN vS vo steps now st out
variable {dq tI tN tQ tW}
variable {w0 W w1 : World} {B gX : Nat} {cs : Array Value} {vq vN vS vo : Value} {steps : List α} {now : List Int} {st : List (List Int)} {out : List Int} {f f' : Nat → Nat}
theorem WtF.move (h : WtF dq tI tN tQ f W B gX vq vN vS vo steps now st out) (hm : ∀ k, k ≠ gX → k < W.heap.size → w1.heap[k]? = W.heap[k]?) : WtF dq tI tN tQ f w1 B gX vq vN vS vo steps now st out := by
 obtain ⟨h3, ho, hs, hw, hn, hq⟩ := h
 have ne : ∀ k, f k ≠ 3 → k ≠ gX := fun k hk e => hk (e ▸ h3)
 refine ⟨h3, Kd.R_step ho (fun k hk hlt => hm k (ne k ?_) hlt), Kd.N_step hs (fun k hk hlt => hm k (ne k ?_) hlt), hw, Kd.V_step hn (fun k hk hlt => hm k (ne k ?_) hlt), Kd.V_step hq (fun k hk hlt => hm k (ne k ?_) hlt)⟩
 ·have : f k = 0 := hk
  omega
 ·have : f k = 1 ∨ f k = 2 := hk
  omega
 ·have : f k = 2 := hk
  omega
 ·have : f k = 4 := hk
  omega
theorem Wt.base (h : Wt dq tI tN tQ tW w0 W B gX cs vq vN vS vo steps now st out) : B ≤ W.heap.size := Nat.le_trans h.2.1 (Nat.le_of_lt (blk_lt h.2.2.1))
theorem Wt.box (h : Wt dq tI tN tQ tW w0 W B gX cs vq vN vS vo steps now st out) : W.heap[gX]? = some (.cells cs tW (0, 0)) := h.2.2.1
theorem Wt.below (h : Wt dq tI tN tQ tW w0 W B gX cs vq vN vS vo steps now st out) (hb : Below W.heap.size W w1) : Wt dq tI tN tQ tW w0 w1 B gX cs vq vN vS vo steps now st out := by
 have hBs := h.base
 obtain ⟨hB, hg, hX, f, hF⟩ := h
 exact ⟨hB.trans (hb.mono hBs), hg, bb_ hX hb, f, hF.move (fun k _ hk => hb.block k hk)⟩
theorem Wt.alloc (h : Wt dq tI tN tQ tW w0 W B gX cs vq vN vS vo steps now st out) (o : Obj) : Wt dq tI tN tQ tW w0 (W.alloc o) B gX cs vq vN vS vo steps now st out := h.below (pA (Below.refl _ _) o)
theorem Wt.drew (h : Wt dq tI tN tQ tW w0 W B gX cs vq vN vS vo steps now st out) : Wt dq tI tN tQ tW w0 W.drew B gX cs vq vN vS vo steps now st out := h.below (below_drew (Below.refl _ _))
theorem Wt.set (h : Wt dq tI tN tQ tW w0 W B gX cs vq vN vS vo steps now st out) (j : Nat) (u : Value) : Wt dq tI tN tQ tW w0 (W.setCell ⟨gX, j, none⟩ u) B gX (cs.setIfInBounds j u) vq vN vS vo steps now st out := by
 obtain ⟨hB, hg, hX, f, hF⟩ := h
 exact ⟨hB.setCell hg _, hg, blk_put hX j u rfl, f, hF.move (fun k hk _ => Below.heap_setCell W ⟨gX, j, none⟩ u k hk)⟩
theorem Wt.forms (h : Wt dq tI tN tQ tW w0 W B gX cs vq vN vS vo steps now st out) : (∃ A c, vq = .slice A steps.length c ∧ steps.length ≤ c) ∧ (∃ A c, vN = .slice A now.length c ∧ now.length ≤ c) ∧ ∃ A c, vS = .slice A st.length c ∧ st.length ≤ c := by
 obtain ⟨hB, hg, hX, f, h3, ho, hs, hw, hn, hq⟩ := h
 obtain ⟨A, c, e, hl, _⟩ := hq
 obtain ⟨A2, c2, e2, hl2, _⟩ := hn
 obtain ⟨A3, c3, e3, hl3, _⟩ := Kd.N_reads hs
 exact ⟨⟨A, c, e, hl⟩, ⟨A2, c2, e2, hl2⟩, A3, c3, e3, hl3⟩
theorem Wt.readq {A : Option Addr} {n c : Nat} (h : Wt dq tI tN tQ tW w0 W B gX cs (.slice A n c) vN vS vo steps now st out) : dq.C W A steps.length steps := by
 obtain ⟨hB, hg, hX, f, h3, ho, hs, hw, hn, hq⟩ := h
 exact (Kd.V_reads' hq).2.2
theorem Wt.readn {A : Option Addr} {n c : Nat} (h : Wt dq tI tN tQ tW w0 W B gX cs vq (.slice A n c) vS vo steps now st out) : (Kd.int .i64).C W A now.length now := by
 obtain ⟨hB, hg, hX, f, h3, ho, hs, hw, hn, hq⟩ := h
 exact (Kd.V_reads' hn).2.2
theorem Wt.now_ (h : Wt dq tI tN tQ tW w0 W B gX cs vq vN vS vo steps now st out) (hb : Below W.heap.size W w1) {v : Value} {xs : List Int} {okk : Nat → Prop} (hr : (Kd.int .i64).R tI w1 W.heap.size okk v xs) : Wt dq tI tN tQ tW w0 w1 B gX cs vq v vS vo steps xs st out := by
 have hBs := h.base
 obtain ⟨hB, hg, hX, f, h3, ho, hs, hw, hn, hq⟩ := h
 have lt : ∀ k, k < W.heap.size → upT f W.heap.size 2 k = f k := fun k hk => upT_lt hk
 refine ⟨hB.trans (hb.mono hBs), hg, bb_ hX hb, upT f W.heap.size 2, (lt _ (blk_lt hX)).trans h3, ?_, ?_, fun k hk => (lt _ (Kd.N_lt hs k hk)).trans (hw k hk), ?_, ?_⟩
 ·exact Kd.R_mono (Kd.R_below (Kd.R_bound ho) hb) (fun k hk => (lt k hk.2.2.1).trans hk.1)
 ·exact Kd.N_mono (Kd.N_below (Kd.N_bound hs) hb) (fun k hk => by unfold tg2; rw [lt k hk.2]; exact hk.1)
 ·exact Kd.V_mono (Kd.R_V (Kd.R_bound hr)) (fun k hk => upT_ge hk.2.1)
 ·exact Kd.V_mono (Kd.V_below (Kd.V_bound hq) hb) (fun k hk => (lt k hk.2).trans hk.1)
theorem Wt.out_ (h : Wt dq tI tN tQ tW w0 W B gX cs vq vN vS vo steps now st out) (hb : Below W.heap.size W w1) {v : Value} {xs : List Int} {okk : Nat → Prop} (hr : (Kd.int .i64).R tI w1 W.heap.size okk v xs) : Wt dq tI tN tQ tW w0 w1 B gX cs vq vN vS v steps now st xs := by
 have hBs := h.base
 obtain ⟨hB, hg, hX, f, h3, ho, hs, hw, hn, hq⟩ := h
 have lt : ∀ k, k < W.heap.size → upT f W.heap.size 0 k = f k := fun k hk => upT_lt hk
 refine ⟨hB.trans (hb.mono hBs), hg, bb_ hX hb, upT f W.heap.size 0, (lt _ (blk_lt hX)).trans h3, Kd.R_mono (Kd.R_lower (Kd.R_bound hr) hBs) (fun k hk => upT_ge hk.2.1), ?_, fun k hk => (lt _ (Kd.N_lt hs k hk)).trans (hw k hk), ?_, ?_⟩
 ·exact Kd.N_mono (Kd.N_below (Kd.N_bound hs) hb) (fun k hk => by unfold tg2; rw [lt k hk.2]; exact hk.1)
 ·exact Kd.V_mono (Kd.V_below (Kd.V_bound hn) hb) (fun k hk => (lt k hk.2).trans hk.1)
 ·exact Kd.V_mono (Kd.V_below (Kd.V_bound hq) hb) (fun k hk => (lt k hk.2).trans hk.1)
theorem Wt.top {A : Option Addr} {c n : Nat} (h : Wt dq tI tN tQ tW w0 W B gX cs vq vN (.slice A n c) vo steps now st out) {m : Nat} (hm : m + 1 = st.length) : ∃ (g : Nat) (vE : Value), A = some ⟨g, 0, none⟩ ∧ W.cell? ⟨g, m, none⟩ = some vE ∧ ∃ (A2 : Option Addr) (n2 c2 : Nat), vE = .slice A2 n2 c2 := by
 obtain ⟨hB, hgg, hX, f, h3, ho, hs, hw, hn, hq⟩ := h
 obtain ⟨g, cap, e, _⟩ := Kd.N_form hs (by omega)
 injection e with e1 e2 e3
 subst e1
 have hn1 := (Kd.N_reads' hs).1
 obtain ⟨cE, hl, hF, hc⟩ := Kd.N_get hs [] (m : Int) (by omega) (by omega)
 rw [Int.toNat_natCast] at hF hc
 obtain ⟨A2, c2, eE, hlE, hFE⟩ := Kd.FK_slice_open hF
 have h0 := hc 0 _ (by rw [eE]; rfl)
 have hsz : (Kd.slice tI (Kd.int .i64)).sz = 1 := rfl
 rw [hsz, Nat.mul_one, Nat.add_zero, add_at, Nat.zero_add] at h0
 exact ⟨g, _, rfl, h0, A2, _, c2, rfl⟩
theorem Wt.pop {g c n : Nat} (h : Wt dq tI tN tQ tW w0 W B gX cs vq vN (.slice (some ⟨g, 0, none⟩) n c) vo steps now st out) {vE : Value} {m : Nat} (hm : m + 1 = st.length) (hE : W.cell? ⟨g, m, none⟩ = some vE) :
  Wt dq tI tN tQ tW w0 W B gX cs vq vE (.slice (some ⟨g, 0, none⟩) m c) vo steps (st.getD m []) (st.take m) out := by
 obtain ⟨hB, hgg, hX, f, h3, ho, hs, hw, hn, hq⟩ := h
 have hn1 := (Kd.N_reads' hs).1
 obtain ⟨cE, hl, hF, hc⟩ := Kd.N_get hs [] (m : Int) (by omega) (by omega)
 rw [Int.toNat_natCast] at hF hc
 obtain ⟨A2, c2, eE, hlE, hFE⟩ := Kd.FK_slice_open hF
 have h0 := hc 0 _ (by rw [eE]; rfl)
 have hsz : (Kd.slice tI (Kd.int .i64)).sz = 1 := rfl
 rw [hsz, Nat.mul_one, Nat.add_zero, add_at, Nat.zero_add, hE] at h0
 obtain rfl : vE = _ := Option.some.inj h0
 have e2 : (Value.slice (some ⟨g, 0, none⟩) n c).ownBlock = (Value.slice (some ⟨g, 0, none⟩) m c).ownBlock := rfl
 let f' : Nat → Nat := fun k => if some k = (Value.slice (some ⟨g, 0, none⟩) m c).ownBlock then 1 else if f k = 1 then 2 else f k
 have f3 : f' gX = 3 := by
  show (if _ then _ else _) = _
  rw [if_neg (fun e => by have := hw gX (by rw [e2]; exact e.symm); omega), if_neg (by omega)]; exact h3
 have fo : ∀ j, j ≠ 1 → ∀ k, f k = j → f' k = j ∨ f' k = 1 := fun j hj k hk => by
  show (if _ then _ else _) = _ ∨ (if _ then _ else _) = _
  by_cases e : some k = (Value.slice (some ⟨g, 0, none⟩) m c).ownBlock
  ·exact .inr (if_pos e)
  ·rw [if_neg e, if_neg (by omega)]; exact .inl hk
 have fx : ∀ j, j ≠ 1 → ∀ k, f k = j → f' k = j := fun j hj k hk => by
  rcases fo j hj k hk with h | h
  ·exact h
  ·exfalso
   by_cases e : some k = (Value.slice (some ⟨g, 0, none⟩) m c).ownBlock
   ·have := hw k (by rw [e2]; exact e.symm); omega
   ·have h9 : f' k = f k := by
     show (if _ then _ else _) = _
     rw [if_neg e, if_neg (by omega)]
    omega
 have f12 : ∀ k, tg2 f k → tg2 f' k := fun k hk => by
  rcases hk with hk | hk
  ·by_cases e : some k = (Value.slice (some ⟨g, 0, none⟩) m c).ownBlock
   ·exact .inl (if_pos e)
   ·refine .inr ?_
    show (if _ then _ else _) = _
    rw [if_neg e, if_pos hk]
  ·exact .inr (fx 2 (by decide) k hk)
 refine ⟨hB, hgg, hX, f', f3, Kd.R_mono ho (fun k hk => fx 0 (by decide) k hk), Kd.N_mono (Kd.N_take hs (by omega)) f12, fun k hk => if_pos hk.symm, ?_, Kd.V_mono hq (fun k hk => fx 4 (by decide) k hk)⟩
 refine ⟨A2, c2, rfl, hlE, Kd.F_mono hFE (fun k hk => ?_)⟩
 obtain ⟨hk1, hk2⟩ := hk
 rw [e2] at hk2
 rcases hk1 with hk1 | hk1
 ·show (if _ then _ else _) = _
  rw [if_neg hk2, if_pos hk1]
 ·exact fx 2 (by decide) k hk1
end
section
variable {P : Program} {ops : Array Oper} {rest : List Oper} {o : Oper} {a : Act} {Q : Exit → Act → World → Prop} {Kc : Act → World → Prop} {α : Type}
variable {dq : Kd α} {tI tN tQ tW : Nat}
variable {w0 W w1 : World} {B gX : Nat} {cs : Array Value} {vq vN vS vo : Value} {steps : List α} {now : List Int} {st : List (List Int)} {out : List Int} {f f' : Nat → Nat}
theorem Wt.app_o (h : Wt dq tI tN tQ tW w0 W B gX cs vq vN vS vo steps now st out) (hgd : o.guard = none) (s x : Operand) (t : TypeId)
  (ho : o.op = .call { callee := .builtin .append, args := #[s, x], argTypes := #[t, t] }) (ht : P.underlying t = some (.slice tI)) (hinfo : (P.info? tI).map (fun i => (i.zero, i.size, i.bytes)) = some (some (.int .i64 0), 1, 8))
  (y : Int) (hs : a.eval s = vo) (hx : a.eval x = .slice (some ⟨W.heap.size, 0, none⟩) 1 1) (hl : (out.length + 1) * 8 ≤ 140737488355328)
  (k : ∀ v1 w1, Wt dq tI tN tQ tW w0 w1 B gX cs vq vN vS v1 steps now st (out ++ [y]) → wpList P ops Q rest (a.put o.dst v1) w1) :
  wpList P ops Q (o :: rest) a (W.alloc (.cells [Value.int .i64 y].toArray tI)) := by
 have hBs := h.base
 obtain ⟨hB, hg, hX, f, h3, ho2, hss, hw, hn, hq⟩ := h
 have lt : ∀ k, k < W.heap.size → upT f W.heap.size 0 k = f k := fun k hk => upT_lt hk
 refine Kd.R_append (Kd.int .i64) B hgd s x t tI (.int .i64 0) 8 ho ht hinfo rfl (by decide) (by decide) vo out y [.int .i64 y] (tg (upT f W.heap.size 0) 0) (fun _ => False) hs hx rfl (fun _ hk => hk.elim) (fun k hk => upT_ge hk) (Kd.R_mono (Kd.R_bound ho2) (fun k hk => (lt k hk.2.2.1).trans hk.1)) hB hBs hl ?_
 intro v1 w1 hr hb1 hgr hat
 have ne : ∀ k, k < W.heap.size → f k ≠ 0 → w1.heap[k]? = W.heap[k]? := fun k hk h0 => hgr.block k hk (fun e => h0 (ho2.1 k e.symm))
 refine k v1 w1 ⟨hb1, hg, (ne gX (blk_lt hX) (by omega)).trans hX, upT f W.heap.size 0, (lt _ (blk_lt hX)).trans h3, hr, ?_, fun k hk => (lt _ (Kd.N_lt hss k hk)).trans (hw k hk), ?_, ?_⟩
 ·refine Kd.N_mono (Kd.N_step (Kd.N_bound hss) (fun k hk hlt => ne k hlt ?_)) (fun k hk => by unfold tg2; rw [lt k hk.2]; exact hk.1)
  have : f k = 1 ∨ f k = 2 := hk.1
  omega
 ·refine Kd.V_mono (Kd.V_step (Kd.V_bound hn) (fun k hk hlt => ne k hlt ?_)) (fun k hk => (lt k hk.2).trans hk.1)
  have : f k = 2 := hk.1
  omega
 ·refine Kd.V_mono (Kd.V_step (Kd.V_bound hq) (fun k hk hlt => ne k hlt ?_)) (fun k hk => (lt k hk.2).trans hk.1)
  have : f k = 4 := hk.1
  omega
theorem Wt.app_s (h : Wt dq tI tN tQ tW w0 W B gX cs vq vN vS vo steps now st out) (hwt : Region.wanted o (yielded ops a.tmps) = true) (s x : Operand) (t : TypeId)
  (ho : o.op = .call { callee := .builtin .append, args := #[s, x], argTypes := #[t, t] }) (ht : P.underlying t = some (.slice tN)) (hinfo : (P.info? tN).map (fun i => (i.zero, i.size, i.bytes)) = some (some (.slice none 0 0), 1, 24))
  (g : Nat) (hs : a.eval s = vS) (hx : a.eval x = .slice (some ⟨g, 0, none⟩) 1 1) (hgv : W.heap[g]? = some (.cells [vN].toArray tN (0, 0))) (hl : (st.length + 1) * 24 ≤ 140737488355328)
  (k : ∀ v1 w1, Wt dq tI tN tQ tW w0 w1 B gX cs vq vN v1 vo steps now (st ++ [now]) out → Kc (a.put o.dst v1) w1) :
  if Region.wanted o (yielded ops a.tmps) = true then Oper.wp P o a W Kc Q else Kc (a.put o.dst undef) W := by
 have hBs := h.base
 obtain ⟨hB, hg, hX, f, h3, ho2, hss, hw, hn, hq⟩ := h
 have lt : ∀ k, k < W.heap.size → upT f W.heap.size 1 k = f k := fun k hk => upT_lt hk
 obtain ⟨An, cn, eN, hnl, hnF⟩ := id hn
 refine N_append_at (Kd.slice tI (Kd.int .i64)) B hwt s x t tN (.slice none 0 0) 24 ho ht hinfo rfl Nat.zero_lt_one (by decide) vS st now [vN] (tg2 (upT f W.heap.size 1)) (fun k => f k = 2 ∧ k < W.heap.size) g hs hx hgv ?_ ?_ (fun k hk => .inl (upT_ge hk)) (Kd.N_mono (Kd.N_bound hss) (fun k hk => by unfold tg2; rw [lt k hk.2]; exact hk.1)) hB hBs hl ?_
 ·rw [eN]
  exact Kd.FK_slice_mk hnl (Kd.F_bound hnF)
 ·intro k hk
  refine ⟨.inr ((lt k hk.2).trans hk.1), fun e => ?_⟩
  have := hw k e.symm
  have := hk.1
  omega
 intro v1 w1 hr hb1 hgr hat
 have ne : ∀ k, k < W.heap.size → f k ≠ 1 → w1.heap[k]? = W.heap[k]? := fun k hk h0 => hgr.block k hk (fun e => h0 (hw k e.symm))
 refine k v1 w1 ⟨hb1, hg, (ne gX (blk_lt hX) (by omega)).trans hX, upT f W.heap.size 1, (lt _ (blk_lt hX)).trans h3, ?_, hr, ?_, ?_, ?_⟩
 ·refine Kd.R_mono (Kd.R_step (Kd.R_bound ho2) (fun k hk hlt => ne k hlt ?_)) (fun k hk => (lt k hk.2.2.1).trans hk.1)
  have : f k = 0 := hk.1
  omega
 ·intro k hk
  rcases hat with hat | ⟨b, hb, hle⟩
  ·rw [hat] at hk
   exact (lt k (Kd.N_lt hss k hk)).trans (hw k hk)
  ·rw [hb] at hk
   injection hk with hk
   exact upT_ge (by omega)
 ·refine Kd.V_mono (Kd.V_step (Kd.V_bound hn) (fun k hk hlt => ne k hlt ?_)) (fun k hk => (lt k hk.2).trans hk.1)
  have : f k = 2 := hk.1
  omega
 ·refine Kd.V_mono (Kd.V_step (Kd.V_bound hq) (fun k hk hlt => ne k hlt ?_)) (fun k hk => (lt k hk.2).trans hk.1)
  have : f k = 4 := hk.1
  omega
end
section
variable {α : Type} {dq : Kd α} {w0 W : World} {B gX : Nat} {cs : Array Value} {vq vN vS : Value} {steps : List α} {now : List Int} {ok1 ok2 ok3 : Nat → Prop}
theorem Wt.start (hE : dq.E = []) (hB : Below B w0 W) (hg : B ≤ gX) (hX : W.heap[gX]? = some (.cells cs 51 (0, 0))) (hq : dq.R 62 W B ok1 vq steps) (hn : (Kd.int .i64).R 2 W B ok2 vN now) (hs : Kd.S (Kd.slice 2 (Kd.int .i64)) 34 W B ok3 vS []) :
  Wt dq 2 34 62 51 w0 W B gX cs vq vN vS (.slice none 0 0) steps now [] [] := by
 let f : Nat → Nat := fun k => match W.heap[k]? with | some (.cells _ t _) => if t = 62 then 4 else if t = 34 then 1 else if t = 2 then 2 else 3 | _ => 3
 have ft : ∀ k t cells, W.heap[k]? = some (.cells cells t (0, 0)) → f k = if t = 62 then 4 else if t = 34 then 1 else if t = 2 then 2 else 3 := fun k t cells h => by
  show (match W.heap[k]? with | some (.cells _ t _) => _ | _ => _) = _
  rw [h]
 have hN := Kd.S_N hs
 have hty := Kd.N_typed hN
 obtain ⟨h0, rows, hl, hR, _⟩ := hN
 have w1 : ∀ k, vS.ownBlock = some k → f k = 1 := fun k hk => by
  obtain ⟨cells, hc⟩ := hty k hk
  rw [ft k _ _ hc]; rfl
 refine ⟨hB, hg, hX, f, by rw [ft _ _ _ hX]; rfl, Kd.R_nil _ _ _ _ _, ⟨fun k hk => .inl (w1 k hk), rows, hl, hR, fun j x c hx hc => by simp at hx⟩, w1, ?_, ?_⟩
 ·refine Kd.V_mono (Kd.R_V (Kd.R_bound hn)) (fun k hk => ?_)
  obtain ⟨_, _, _, q, hq, cells, hc⟩ := hk
  have e : q = 2 := by simpa [Kd.int, Kd.scalar] using hq
  show f k = 2
  rw [ft k _ _ hc, e]; rfl
 ·refine Kd.V_mono (Kd.R_V (Kd.R_bound hq)) (fun k hk => ?_)
  obtain ⟨_, _, _, q, hq, cells, hc⟩ := hk
  have e : q = 62 := by rw [hE] at hq; simpa using hq
  show f k = 4
  rw [ft k _ _ hc, e]; rfl
end
end Go.Proofs.Yteeplponconnjaa.Wa
namespace Go.Proofs.Yteeplponconnjaa.P
open Go.RowKit Go.Proofs.YteeplponconnjaaW.PrintWords Go.Proofs.YteeplponconnjaaW.PrintLast Go.Proofs.YteeplponconnjaaW.PrintMore
attribute [local go_sem] max2_int min2_int max_two min_two max_three min_three max_four min_four
set_option linter.unusedVariables false
set_option linter.unusedSimpArgs false
def impl_isReturn.f (a0 : Int) : Option (Bool) := if a0 = 41 then (some true) else (some (a0 == 93))
set_option maxHeartbeats 8000000 in
set_option maxRecDepth 100000 in
theorem impl_isReturn.calls (a0 : Int) (r : Bool) (w : World) (h : impl_isReturn.f a0 = some r) :
  Calls Try.prog 43 #[.int .u8 a0] w fun e w' => e = .returned (.bool r) ∧ Drawn0 w w' := by
 have H : (if a0 = 41 then (some true) else (some (a0 == 93))) = some r := h
 clear h
 by_cases c2 : a0 = 41
 rotate_left
 ·rw [if_neg c2] at H
  have c2b0 : (a0 == 41) = false := beq_eq_false_iff_ne.mpr c2
  have c2b1 : (a0 != 41) = true := bne_iff_ne.mpr c2
  obtain rfl := Option.some.inj H
  go_enter Try.func43, Try.ntmps43
  go_wp2
  go_ret
  exact ⟨by first | rfl | (simp; done) | (simp [*]; done), by repeat (first | exact Drawn0.refl _ | apply Drawn0.step)⟩
 rw [if_pos c2] at H
 have c2b0 : (a0 == 41) = true := beq_iff_eq.mpr c2
 have c2b1 : (a0 != 41) = false := bne_eq_false_iff_eq.mpr c2
 clear c2
 obtain rfl := Option.some.inj H
 go_enter Try.func43, Try.ntmps43
 go_wp2
 go_ret
 exact ⟨by first | rfl | (simp; done) | (simp [*]; done), by repeat (first | exact Drawn0.refl _ | apply Drawn0.step)⟩
end Go.Proofs.Yteeplponconnjaa.P
namespace Go.Proofs.Yteeplponconnjaa.P
open Go.RowKit Go.Proofs.YteeplponconnjaaW.PrintWords Go.Proofs.YteeplponconnjaaW.PrintLast Go.Proofs.YteeplponconnjaaW.PrintMore
attribute [local go_sem] max2_int min2_int max_two min_two max_three min_three max_four min_four
set_option linter.unusedVariables false
set_option linter.unusedSimpArgs false
def impl_isNode.f (a0 : Int) : Option (Bool) := (impl_isReturn.f a0).bind fun t230 => (some (!t230))
set_option maxHeartbeats 8000000 in
set_option maxRecDepth 100000 in
theorem impl_isNode.calls (a0 : Int) (r : Bool) (w : World) (h : impl_isNode.f a0 = some r) :
  Calls Try.prog 54 #[.int .u8 a0] w fun e w' => e = .returned (.bool r) ∧ Drawn0 w w' := by
 have H : ((impl_isReturn.f a0).bind fun t230 => (some (!t230))) = some r := h
 clear h
 replace H := Option.bind_eq_some_iff.mp H
 obtain ⟨t230, A20, H⟩ := H
 replace H : (some (!t230)) = some r := H
 have A2 := AZ.mk A20
 clear A20
 obtain rfl := Option.some.inj H
 go_enter Try.func54, Try.ntmps54
 go_wp2_with (first | ((with_reducible refine gate_callee (f := 43) rfl ?_); refine goesL_ (some 4) rfl rfl Try.func43 (by kernel_rfl) rfl #[.int .u8 a0] rfl (by (try simp only [List.map_toArray, List.map_cons, List.map_nil]); first | done | rfl | (simp only [List.length_drop, List.length_take]; rfl)) ?_; (with_reducible refine (impl_isReturn.calls a0 t230 _ A2.out).mono ?_); rintro e w' ⟨rfl, ⟨nd, rfl⟩⟩; refine ⟨_, rfl, ?_⟩))
 go_ret
 exact ⟨by first | rfl | (simp; done) | (simp [*]; done), by repeat (first | exact Drawn0.refl _ | apply Drawn0.step)⟩
end Go.Proofs.Yteeplponconnjaa.P
namespace Go.Proofs.Yteeplponconnjaa.P
open Go.RowKit Go.Proofs.YteeplponconnjaaW.PrintWords Go.Proofs.YteeplponconnjaaW.PrintLast Go.Proofs.YteeplponconnjaaW.PrintMore
attribute [local go_sem] max2_int min2_int max_two min_two max_three min_three max_four min_four
set_option linter.unusedVariables false
set_option linter.unusedSimpArgs false
def slices_Index_Lint64_int64.l0 : Nat → List Int → Int → Int → Int → Option (Int)
 | 0, _, _, _, _ => none
 | k + 1, x0, x1, x7, x8 => if x8 < x7 then (if 0 ≤ x8 then (if x8 < (x0.length : Int) then (if x1 = (rd x0 x8) then (some x8) else (slices_Index_Lint64_int64.l0 k x0 x1 x7 (wrap64 (x8 + 1)))) else (none)) else (none)) else (some (-1))
def slices_Index_Lint64_int64.f (k : Nat) (l0 : List Int) (a1 : Int) : Option (Int) := slices_Index_Lint64_int64.l0 k l0 a1 (l0.length : Int) 0
set_option maxHeartbeats 8000000 in
set_option maxRecDepth 100000 in
theorem slices_Index_Lint64_int64.calls (k : Nat) (A0 : Option Addr) (c0 : Nat) (l0 : List Int) (a1 : Int) (r : Int) (w : World) (hr0 : Kd.C (Kd.int .i64) w A0 l0.length l0) (hc0 : l0.length ≤ c0) (h : slices_Index_Lint64_int64.f k l0 a1 = some r) :
  Calls Try.prog 63 #[.slice A0 l0.length c0, .int .i64 a1] w fun e w' => e = .returned (.int .i64 r) ∧ Drawn0 w w' := by
 have HR0 := AZ.mk hr0
 have HC0 := AZ.mk hc0
 clear hr0 hc0
 have H : (slices_Index_Lint64_int64.l0 k l0 a1 (l0.length : Int) 0) = some r := h
 clear h
 have H' := AZ.mk H
 clear H
 go_enter Try.func63, Try.ntmps63
 go_wp2
 go_loopg [8] k (fun kq v8 w' => ∃ (x8_1 : Int), v8 = .int .i64 x8_1 ∧ AZ (slices_Index_Lint64_int64.l0 kq l0 a1 (l0.length : Int) x8_1 = some r) ∧ AZ (kq ≤ k) ∧ Drawn0 w w')
 case atStart => exact ⟨(0), (by first | rfl | (simp; done) | (simp [*]; done)), H', ⟨Nat.le_refl _⟩, by repeat (first | exact Drawn0.refl _ | apply Drawn0.step)⟩
 case round =>
  clear H'
  try clear p2
  obtain ⟨x8_1, rfl, HA, HK1, ⟨m1, rfl⟩⟩ := hrel
  cases gk with
  | zero => exact absurd HA.out (by simp [slices_Index_Lint64_int64.l0])
  | succ k1 =>
   have H := HA.out
   clear HA
   simp only [slices_Index_Lint64_int64.l0] at H
   by_cases c3 : x8_1 < (l0.length : Int)
   rotate_left
   ·rw [if_neg c3] at H
    have c3b0 : decide (x8_1 < (l0.length : Int)) = false := decide_eq_false c3
    clear c3
    obtain rfl := Option.some.inj H
    go_wp2
    go_ret
    exact ⟨by first | rfl | (simp; done) | (simp [*]; done), by repeat (first | exact Drawn0.refl _ | apply Drawn0.step)⟩
   rw [if_pos c3] at H
   have c3b0 : decide (x8_1 < (l0.length : Int)) = true := decide_eq_true c3
   clear c3
   by_cases c4 : 0 ≤ x8_1
   rotate_left
   ·rw [if_neg c4] at H
    exact absurd H (by simp)
   rw [if_pos c4] at H
   have c4b0 : decide (0 ≤ x8_1) = true := decide_eq_true c4
   clear c4
   by_cases c5 : x8_1 < (l0.length : Int)
   rotate_left
   ·rw [if_neg c5] at H
    exact absurd H (by simp)
   rw [if_pos c5] at H
   have c5b0 : decide (x8_1 < (l0.length : Int)) = true := decide_eq_true c5
   clear c5
   by_cases c6 : a1 = (rd l0 x8_1)
   ·rw [if_pos c6] at H
    have c6b0 : (a1 == (rd l0 x8_1)) = true := beq_iff_eq.mpr c6
    have c6b1 : (a1 != (rd l0 x8_1)) = false := bne_eq_false_iff_eq.mpr c6
    clear c6
    obtain rfl := Option.some.inj H
    have p231 : 0 ≤ (x8_1 : Int) := oT (by first | (with_reducible assumption) | assumption)
    have q231 : x8_1 < (l0.length : Int) := oT (by first | (with_reducible assumption) | assumption)
    obtain ⟨ad231, e231, hx231_0⟩ := Kd.at_int HR0.out x8_1 p231 q231
    cases e231
    replace p231 := eq_true p231
    replace q231 := eq_true q231
    go_wp2
    go_ret
    exact ⟨by first | rfl | (simp; done) | (simp [*]; done), by repeat (first | exact Drawn0.refl _ | apply Drawn0.step)⟩
   rw [if_neg c6] at H
   have c6b0 : (a1 == (rd l0 x8_1)) = false := beq_eq_false_iff_ne.mpr c6
   have c6b1 : (a1 != (rd l0 x8_1)) = true := bne_iff_ne.mpr c6
   have H' := AZ.mk H
   clear H
   have p231 : 0 ≤ (x8_1 : Int) := oT (by first | (with_reducible assumption) | assumption)
   have q231 : x8_1 < (l0.length : Int) := oT (by first | (with_reducible assumption) | assumption)
   obtain ⟨ad231, e231, hx231_0⟩ := Kd.at_int HR0.out x8_1 p231 q231
   cases e231
   replace p231 := eq_true p231
   replace q231 := eq_true q231
   go_wp2
   go_roundg k1
   case measure => have := HK1.out; omega
   case rel => exact ⟨(wrap64 (x8_1 + 1)), (by first | rfl | (simp; done) | (simp [*]; done)), H', ⟨by have := HK1.out; omega⟩, by repeat (first | exact Drawn0.refl _ | apply Drawn0.step)⟩
end Go.Proofs.Yteeplponconnjaa.P
namespace Go.Proofs.Yteeplponconnjaa.P
open Go.RowKit Go.Proofs.YteeplponconnjaaW.PrintWords Go.Proofs.YteeplponconnjaaW.PrintLast Go.Proofs.YteeplponconnjaaW.PrintMore
attribute [local go_sem] max2_int min2_int max_two min_two max_three min_three max_four min_four
set_option linter.unusedVariables false
set_option linter.unusedSimpArgs false
def slices_Contains_Lint64_int64.f (k : Nat) (l0 : List Int) (a1 : Int) : Option (Bool) := (slices_Index_Lint64_int64.f k l0 a1).bind fun t232 => (some (decide (t232 ≥ 0)))
set_option maxHeartbeats 8000000 in
set_option maxRecDepth 100000 in
theorem slices_Contains_Lint64_int64.calls (k : Nat) (A0 : Option Addr) (c0 : Nat) (l0 : List Int) (a1 : Int) (r : Bool) (w : World) (hr0 : Kd.C (Kd.int .i64) w A0 l0.length l0) (hc0 : l0.length ≤ c0) (h : slices_Contains_Lint64_int64.f k l0 a1 = some r) :
  Calls Try.prog 55 #[.slice A0 l0.length c0, .int .i64 a1] w fun e w' => e = .returned (.bool r) ∧ Drawn0 w w' := by
 have HR0 := AZ.mk hr0
 have HC0 := AZ.mk hc0
 clear hr0 hc0
 have H : ((slices_Index_Lint64_int64.f k l0 a1).bind fun t232 => (some (decide (t232 ≥ 0)))) = some r := h
 clear h
 replace H := Option.bind_eq_some_iff.mp H
 obtain ⟨t232, A30, H⟩ := H
 replace H : (some (decide (t232 ≥ 0))) = some r := H
 have A3 := AZ.mk A30
 clear A30
 obtain rfl := Option.some.inj H
 go_enter Try.func55, Try.ntmps55
 go_wp2_with (first | ((with_reducible refine gate_callee (f := 63) rfl ?_); refine goesL_ (some 7) rfl rfl Try.func63 (by kernel_rfl) rfl #[.slice A0 l0.length c0, .int .i64 a1] rfl (by (try simp only [List.map_toArray, List.map_cons, List.map_nil]); first | done | rfl | (simp only [List.length_drop, List.length_take]; rfl)) ?_; (with_reducible refine (slices_Index_Lint64_int64.calls k _ _ l0 a1 t232 _ ?side1 ?side2 A3.out).mono ?_); (case side1 => repeat (first | exact HR0.out | (with_reducible refine Kd.C_alloc ?_ _) | (with_reducible refine Kd.C_drewN ?_ _) | (with_reducible refine Kd.C_drew ?_))); (case side2 => exact HC0.out); rintro e w' ⟨rfl, ⟨nd, rfl⟩⟩; refine ⟨_, rfl, ?_⟩))
 go_ret
 exact ⟨by first | rfl | (simp; done) | (simp [*]; done), by repeat (first | exact Drawn0.refl _ | apply Drawn0.step)⟩
end Go.Proofs.Yteeplponconnjaa.P
namespace Go.Proofs.Yteeplponconnjaa.P
open Go.RowKit Go.Proofs.YteeplponconnjaaW.PrintWords Go.Proofs.YteeplponconnjaaW.PrintLast Go.Proofs.YteeplponconnjaaW.PrintMore
attribute [local go_sem] max2_int min2_int max_two min_two max_three min_three max_four min_four
set_option linter.unusedVariables false
set_option linter.unusedSimpArgs false
def impl_size_impl_QueryStep.f (l0 : List (S62)) : Option (Int) := some (l0.length : Int)
set_option maxHeartbeats 8000000 in
set_option maxRecDepth 100000 in
theorem impl_size_impl_QueryStep.calls (A0 : Option Addr) (c0 : Nat) (l0 : List (S62)) (r : Int) (w : World) (hr0 : Kd.C k62 w A0 l0.length l0) (hc0 : l0.length ≤ c0) (h : impl_size_impl_QueryStep.f l0 = some r) :
  Calls Try.prog 34 #[.slice A0 l0.length c0] w fun e w' => e = .returned (.int .i64 r) ∧ Drawn0 w w' := by
 have HR0 := AZ.mk hr0
 have HC0 := AZ.mk hc0
 clear hr0 hc0
 have H : (some (l0.length : Int)) = some r := h
 clear h
 obtain rfl := Option.some.inj H
 go_enter Try.func34, Try.ntmps34
 go_wp2
 go_ret
 exact ⟨by first | rfl | (simp; done) | (simp [*]; done), by repeat (first | exact Drawn0.refl _ | apply Drawn0.step)⟩
end Go.Proofs.Yteeplponconnjaa.P
namespace Go.Proofs.Yteeplponconnjaa.P
open Go.RowKit Go.Proofs.YteeplponconnjaaW.PrintWords Go.Proofs.YteeplponconnjaaW.PrintLast Go.Proofs.YteeplponconnjaaW.PrintMore
attribute [local go_sem] max2_int min2_int max_two min_two max_three min_three max_four min_four
set_option linter.unusedVariables false
set_option linter.unusedSimpArgs false
def impl_Query_last.f (l0_0 : List (S62)) : Option (Int) := (impl_size_impl_QueryStep.f l0_0).bind fun t234 => (some (wrap64 (t234 - 1)))
set_option maxHeartbeats 8000000 in
set_option maxRecDepth 100000 in
theorem impl_Query_last.calls (A0_0 : Option Addr) (c0_0 : Nat) (l0_0 : List (S62)) (r : Int) (w : World) (hr0_0 : Kd.C k62 w A0_0 l0_0.length l0_0) (hc0_0 : l0_0.length ≤ c0_0) (h : impl_Query_last.f l0_0 = some r) :
  Calls Try.prog 56 #[.agg #[.slice A0_0 l0_0.length c0_0]] w fun e w' => e = .returned (.int .i64 r) ∧ Below w.heap.size w w' := by
 have hu30 := Try.underlying30
 have HR0_0 := AZ.mk hr0_0
 have HC0_0 := AZ.mk hc0_0
 clear hr0_0 hc0_0
 have HB := AZ.mk (Below.refl w.heap.size w)
 have H : ((impl_size_impl_QueryStep.f l0_0).bind fun t234 => (some (wrap64 (t234 - 1)))) = some r := h
 clear h
 replace H := Option.bind_eq_some_iff.mp H
 obtain ⟨t234, A20, H⟩ := H
 replace H : (some (wrap64 (t234 - 1))) = some r := H
 have A2 := AZ.mk A20
 clear A20
 obtain rfl := Option.some.inj H
 go_enter Try.func56, Try.ntmps56
 go_wp2_with (first | ((with_reducible refine gate_dst (N := 1) rfl ?_); refine box_event ?hg (N := 1) ?hd (cs := #[.slice A0_0 l0_0.length c0_0]) (t := 30) ?hr ?_; (case hd => rfl); (case hg => rfl); (case hr => first | (go_simp; done) | (go_simp; rfl)); intro gb233 hg w3 hbox hb; have n0_ := AZ.mk (pT (by repeat (first | (with_reducible first | exact HB.out | apply pA | apply pN | apply pD) | exact HB.out)) hb); have n1_ := AZ.mk (hbox); have n2_ := AZ.mk ((by rw [hg]; exact (pZ (by repeat (first | (with_reducible first | exact HB.out | apply pA | apply pN | apply pD) | exact HB.out))) : w.heap.size ≤ gb233)); have n3_ := AZ.mk ((by rw [hg]; exact (pZ (by repeat (first | (with_reducible first | exact HB.out | apply pA | apply pN | apply pD) | exact HB.out))) : w.heap.size ≤ gb233)); clear HB; have HB := n0_; have BK233 := n1_; have GW233 := n2_; have GE233 := n3_; clear n0_ n1_ n2_ n3_; clear hb hbox hg; have hcz4_0 : w3.cell? ⟨gb233, 0, none⟩ = some (.slice A0_0 l0_0.length c0_0) := (bc BK233.out 0).trans rfl; have hfz4_0 := bf BK233.out 0) | ((with_reducible refine gate_callee (f := 34) rfl ?_); refine goesL_ (some 5) rfl rfl Try.func34 (by kernel_rfl) rfl #[.slice A0_0 l0_0.length c0_0] rfl (by (try simp only [List.map_toArray, List.map_cons, List.map_nil]); first | done | rfl | (simp only [List.length_drop, List.length_take]; rfl)) ?_; (with_reducible refine (impl_size_impl_QueryStep.calls _ _ l0_0 t234 _ ?side1 ?side2 A2.out).mono ?_); (case side1 => repeat (first | exact (Kd.C_below HR0_0.out HB.out) | (with_reducible refine Kd.C_alloc ?_ _) | (with_reducible refine Kd.C_drewN ?_ _) | (with_reducible refine Kd.C_drew ?_))); (case side2 => exact HC0_0.out); rintro e w' ⟨rfl, ⟨nd, rfl⟩⟩; refine ⟨_, rfl, ?_⟩))
 go_ret
 exact ⟨by first | rfl | (simp [errW_none, errW_some] <;> rfl) | (simp [*, errW_none, errW_some] <;> rfl), by repeat (first | (with_reducible first | exact HB.out | apply pA | apply pN | apply pD | refine pS ?_ GE233.out) | exact HB.out)⟩
end Go.Proofs.Yteeplponconnjaa.P
namespace Go.Proofs.Yteeplponconnjaa.P
open Go.RowKit Go.Proofs.YteeplponconnjaaW.PrintWords Go.Proofs.YteeplponconnjaaW.PrintLast Go.Proofs.YteeplponconnjaaW.PrintMore
attribute [local go_sem] max2_int min2_int max_two min_two max_three min_three max_four min_four
set_option linter.unusedVariables false
set_option linter.unusedSimpArgs false
def impl_isCall.f (a0 : Int) : Option (Bool) := if a0 = 40 then (some true) else (some (a0 == 91))
set_option maxHeartbeats 8000000 in
set_option maxRecDepth 100000 in
theorem impl_isCall.calls (a0 : Int) (r : Bool) (w : World) (h : impl_isCall.f a0 = some r) :
  Calls Try.prog 41 #[.int .u8 a0] w fun e w' => e = .returned (.bool r) ∧ Drawn0 w w' := by
 have H : (if a0 = 40 then (some true) else (some (a0 == 91))) = some r := h
 clear h
 by_cases c2 : a0 = 40
 rotate_left
 ·rw [if_neg c2] at H
  have c2b0 : (a0 == 40) = false := beq_eq_false_iff_ne.mpr c2
  have c2b1 : (a0 != 40) = true := bne_iff_ne.mpr c2
  obtain rfl := Option.some.inj H
  go_enter Try.func41, Try.ntmps41
  go_wp2
  go_ret
  exact ⟨by first | rfl | (simp; done) | (simp [*]; done), by repeat (first | exact Drawn0.refl _ | apply Drawn0.step)⟩
 rw [if_pos c2] at H
 have c2b0 : (a0 == 40) = true := beq_iff_eq.mpr c2
 have c2b1 : (a0 != 40) = false := bne_eq_false_iff_eq.mpr c2
 clear c2
 obtain rfl := Option.some.inj H
 go_enter Try.func41, Try.ntmps41
 go_wp2
 go_ret
 exact ⟨by first | rfl | (simp; done) | (simp [*]; done), by repeat (first | exact Drawn0.refl _ | apply Drawn0.step)⟩
end Go.Proofs.Yteeplponconnjaa.P
