/- Texts that this law leans on, several in one; written by programs of these sessions (print, wip/deep, gather.py). -/
import Derived.Test.YtgfilbgjnloopaaGe0
namespace Go.Proofs.Ytgfilbgjnloopaa.P
open Go.RowKit Go.Proofs.YtgfilbgjnloopaaW.PrintWords Go.Proofs.YtgfilbgjnloopaaW.PrintLast Go.Proofs.YtgfilbgjnloopaaW.PrintMore
attribute [local go_sem] max2_int min2_int max_two min_two max_three min_three max_four min_four
set_option linter.unusedVariables false
set_option linter.unusedSimpArgs false
def laws_toInt64S.l0 : Nat → List Int → List Int → Int → Option (List Int)
 | 0, _, _, _ => none
 | k + 1, x0, x3, x4 => if x4 < (x0.length : Int) then (if 0 ≤ x4 then (if x4 < (x3.length : Int) then (laws_toInt64S.l0 k x0 (x3.set (x4 : Int).toNat (rd x0 x4)) (wrap64 (x4 + 1))) else (none)) else (none)) else (some x3)
def laws_toInt64S.f (k : Nat) (l0 : List Int) : Option (List Int) := if 0 ≤ (l0.length : Int) then (if ((l0.length : Int) : Int).toNat ≤ 35184372088832 then (laws_toInt64S.l0 k l0 (List.replicate ((l0.length : Int) : Int).toNat 0) 0) else (none)) else (none)
set_option maxHeartbeats 8000000 in
set_option maxRecDepth 100000 in
theorem laws_toInt64S.calls (k : Nat) (A0 : Option Addr) (c0 : Nat) (l0 : List Int) (r : List Int) (w : World) (hr0 : Kd.C (Kd.int .i64) w A0 l0.length l0) (hc0 : l0.length ≤ c0) (h : laws_toInt64S.f k l0 = some r) :
  Calls Try.prog 27 #[.slice A0 l0.length c0] w fun e w' => ∃ v0_ : Value, e = .returned (v0_) ∧ Kd.R (Kd.int .i64) 2 w' w.heap.size (fun _ => True) v0_ r ∧ Below w.heap.size w w' := by
 have HR0 := AZ.mk hr0
 have HC0 := AZ.mk hc0
 clear hr0 hc0
 have HB := AZ.mk (Below.refl w.heap.size w)
 have H : (if 0 ≤ (l0.length : Int) then (if ((l0.length : Int) : Int).toNat ≤ 35184372088832 then (laws_toInt64S.l0 k l0 (List.replicate ((l0.length : Int) : Int).toNat 0) 0) else (none)) else (none)) = some r := h
 clear h
 by_cases c2 : 0 ≤ (l0.length : Int)
 rotate_left
 ·rw [if_neg c2] at H
  exact absurd H (by simp)
 rw [if_pos c2] at H
 have c2b0 := eq_true c2
 have c2b1 : decide (0 ≤ (l0.length : Int)) = true := decide_eq_true c2
 clear c2
 by_cases c3 : ((l0.length : Int) : Int).toNat ≤ 35184372088832
 rotate_left
 ·rw [if_neg c3] at H
  exact absurd H (by simp)
 rw [if_pos c3] at H
 have c3b0 := eq_true c3
 have c3b1 : decide (((l0.length : Int) : Int).toNat ≤ 35184372088832) = true := decide_eq_true c3
 clear c3
 obtain ⟨y130, hy130⟩ : ∃ y_ : List Int, y_ = (List.replicate ((l0.length : Int) : Int).toNat 0) := ⟨_, rfl⟩
 replace H : (laws_toInt64S.l0 k l0 y130 0) = some r := by first | (rw [hy130]; with_reducible exact H) | (have H2_ := (Option.bind_some _ _).symm.trans H; rw [hy130]; with_reducible exact H2_) | (have H2_ := (Option.bind_some _ _).symm.trans H; with_reducible exact H2_) | with_reducible exact H | (rw [hy130]; exact H) | exact H
 have Ny130 := AZ.mk hy130
 clear hy130
 have H' := AZ.mk H
 clear H
 go_enter Try.func27, Try.ntmps27
 go_wp2_with (first | ((with_reducible refine gate_dst (N := 7) rfl ?_); refine Kd.R_make (Kd.int .i64) _ 2 rfl (N := 7) rfl 23 _ _ rfl (l0.length : Int) rfl rfl Try.underlying23 (.int .i64 0) 8 info2 rfl (by decide) (by omega) 0 (ok := fun _ => True) (okp := fun _ => True) rfl (fun _ hk => hk) trivial (oT (by first | (with_reducible assumption) | assumption)) (Nat.le_trans (Nat.mul_le_mul_right _ (oT (by first | (with_reducible assumption) | assumption) : (l0.length : Int).toNat ≤ 35184372088832)) (by omega)) (Below.refl _ _) (Nat.le_refl _) ?_; intro v131 w4 ho5 hb hg_ hnew_; clear hg_ hnew_; (first | rw [← Ny130.out] at ho5 | (simp only [Int.reduceToNat] at ho5; rw [← Ny130.out] at ho5)); have n0_ := AZ.mk (Kd.R_lower ho5 (pZ (by repeat (first | (with_reducible first | exact HB.out | apply pA | apply pN | apply pD) | exact HB.out)))); have n1_ := AZ.mk (pT (by repeat (first | (with_reducible first | exact HB.out | apply pA | apply pN | apply pD) | exact HB.out)) hb); clear HB; have HO132 := n0_; have HB := n1_; clear n0_ n1_; clear hb ho5))
 go_loopg [4] k (fun kq v4 w' => ∃ (x3_1 : List Int) (x4_1 : Int), v4 = .int .i64 x4_1 ∧ AZ (laws_toInt64S.l0 kq l0 x3_1 x4_1 = some r) ∧ AZ (kq ≤ k) ∧ AZ (Kd.R (Kd.int .i64) 2 w' w.heap.size (fun _ => True) v131 x3_1) ∧ AZ (Below w.heap.size w w'))
 case atStart => exact ⟨(y130), (0), (by first | rfl | (simp; done) | (simp [*]; done)), H', ⟨Nat.le_refl _⟩, ⟨by (with_reducible repeat (first | apply Kd.R_alloc | apply Kd.R_drewN | apply Kd.R_drew)); exact HO132.out⟩, ⟨by repeat (first | (with_reducible first | exact HB.out | apply pA | apply pN | apply pD) | exact HB.out)⟩⟩
 case round =>
  clear H'
  try clear c2
  try clear c2b0
  try clear c2b1
  try clear p2
  try clear c3
  try clear c3b0
  try clear c3b1
  obtain ⟨x3_1, x4_1, rfl, HA, HK1, HO_3, HB⟩ := hrel
  cases gk with
  | zero => exact absurd HA.out (by simp [laws_toInt64S.l0])
  | succ k1 =>
   have H := HA.out
   clear HA
   simp only [laws_toInt64S.l0] at H
   by_cases c6 : x4_1 < (l0.length : Int)
   rotate_left
   ·rw [if_neg c6] at H
    have c6b0 : decide (x4_1 < (l0.length : Int)) = false := decide_eq_false c6
    clear c6
    obtain rfl := Option.some.inj H
    go_wp2
    go_ret
    exact ⟨_, by first | rfl | (simp [errW_none, errW_some] <;> rfl) | (simp [*, errW_none, errW_some] <;> rfl), by (with_reducible repeat (first | apply Kd.R_alloc | apply Kd.R_drewN | apply Kd.R_drew)); exact HO_3.out, by repeat (first | (with_reducible first | exact HB.out | apply pA | apply pN | apply pD) | exact HB.out)⟩
   rw [if_pos c6] at H
   have c6b0 : decide (x4_1 < (l0.length : Int)) = true := decide_eq_true c6
   clear c6
   by_cases c7 : 0 ≤ x4_1
   rotate_left
   ·rw [if_neg c7] at H
    exact absurd H (by simp)
   rw [if_pos c7] at H
   have c7b0 : decide (0 ≤ x4_1) = true := decide_eq_true c7
   clear c7
   by_cases c8 : x4_1 < (x3_1.length : Int)
   rotate_left
   ·rw [if_neg c8] at H
    exact absurd H (by simp)
   rw [if_pos c8] at H
   have c8b0 : decide (x4_1 < (x3_1.length : Int)) = true := decide_eq_true c8
   clear c8
   obtain ⟨y134, hy134⟩ : ∃ y_ : List Int, y_ = (x3_1.set (x4_1 : Int).toNat (rd l0 x4_1)) := ⟨_, rfl⟩
   replace H : (laws_toInt64S.l0 k1 l0 y134 (wrap64 (x4_1 + 1))) = some r := by first | (rw [hy134]; with_reducible exact H) | (have H2_ := (Option.bind_some _ _).symm.trans H; rw [hy134]; with_reducible exact H2_) | (have H2_ := (Option.bind_some _ _).symm.trans H; with_reducible exact H2_) | with_reducible exact H | (rw [hy134]; exact H) | exact H
   have Ny134 := AZ.mk hy134
   clear hy134
   have H' := AZ.mk H
   clear H
   have p133 : 0 ≤ (x4_1 : Int) := oT (by first | (with_reducible assumption) | assumption)
   have q133 : x4_1 < (l0.length : Int) := oT (by first | (with_reducible assumption) | assumption)
   obtain ⟨ad133, e133, hx133_0⟩ := Kd.at_int HR0.out x4_1 p133 q133
   cases e133
   replace hx133_0 := (HB.out.cell (World.block_lt_of_cell? w _ hx133_0)).trans hx133_0
   replace p133 := eq_true p133
   replace q133 := eq_true q133
   have p9 : 0 ≤ (x4_1 : Int) := oT (by first | (with_reducible assumption) | assumption)
   have q9 : (x4_1 : Int) < ((x3_1.length : Int) : Int) := oT (by first | (with_reducible assumption) | assumption)
   obtain ⟨go9, co9, eo9, gb9, gl9, cl9, HG9⟩ := Kd.R_form HO_3.out (by omega)
   (first | cases eo9 | (injection eo9 with ea_ en_ ec_; (first | subst ea_ | (injection ea_ with ea_; subst ea_)); subst ec_; clear en_))
   have GB9 := AZ.mk gb9
   have GG9 := AZ.mk HG9
   clear gb9 gl9 HG9
   obtain ⟨hx9_0, hf9_0⟩ := Kd.R_celln 0 HO_3.out (x4_1 : Int) p9 q9
   replace p9 := eq_true p9
   replace q9 := eq_true q9
   have HP10 := Kd.R_putg HO_3.out (x4_1 : Int) (rd l0 x4_1)
   go_wp2_with (first | ((with_reducible refine gate_store (t := 2) (p := 20) rfl ?_); refine store_event (t := 2) (p := 20) (v := ?vo_w11) (w1 := (wr.setCell ⟨go9, (x4_1 : Int).toNat, none⟩ (.int .i64 (rd l0 x4_1)))) ?hg ?ho ?hn ?hr ?_; (case ho => rfl); (case hg => rfl); (case hn => rfl); (case hr => first | (go_simp; done) | (go_simp; rfl)); intro w11 hw; have hg : wr.grownBy w11 (some go9) := (by rw [hw]; exact HP10.2); have hp_ : Kd.R (Kd.int .i64) 2 w11 w.heap.size (fun _ => True) (.slice (some ⟨go9, 0, none⟩) x3_1.length co9) y134 := (by rw [hw, Ny134.out]; exact HP10.1); clear HP10; have n0_ := AZ.mk (hp_); have n1_ := AZ.mk ((by rw [hw]; exact pS (HB.out) GB9.out : Below w.heap.size w w11)); clear HO_3; clear HB; have HO_3 := n0_; have HB := n1_; clear n0_ n1_; clear hg hw hp_))
   go_roundg k1
   case measure => have := HK1.out; omega
   case rel => exact ⟨(y134), (wrap64 (x4_1 + 1)), (by first | rfl | (simp; done) | (simp [*]; done)), H', ⟨by have := HK1.out; omega⟩, ⟨by (with_reducible repeat (first | apply Kd.R_alloc | apply Kd.R_drewN | apply Kd.R_drew)); exact HO_3.out⟩, ⟨by repeat (first | (with_reducible first | exact HB.out | apply pA | apply pN | apply pD) | exact HB.out)⟩⟩
end Go.Proofs.Ytgfilbgjnloopaa.P
namespace Go.Proofs.Ytgfilbgjnloopaa.P
open Go.RowKit Go.Proofs.YtgfilbgjnloopaaW.PrintWords Go.Proofs.YtgfilbgjnloopaaW.PrintLast Go.Proofs.YtgfilbgjnloopaaW.PrintMore
attribute [local go_sem] max2_int min2_int max_two min_two max_three min_three max_four min_four
set_option linter.unusedVariables false
set_option linter.unusedSimpArgs false
def laws_toInt64SS.l0 : Nat → List (List Int) → List (List Int) → Int → Option ((List (List Int)))
 | 0, _, _, _ => none
 | k + 1, x0, x3, x4 => if x4 < (x0.length : Int) then (if 0 ≤ x4 then ((laws_toInt64S.f k (rd_L1 x0 x4)).bind fun t139 => (if x4 < (x3.length : Int) then (laws_toInt64SS.l0 k x0 (x3.set (x4 : Int).toNat t139) (wrap64 (x4 + 1))) else (none))) else (none)) else (some x3)
def laws_toInt64SS.f (k : Nat) (l0 : List (List Int)) : Option ((List (List Int))) := if 0 ≤ (l0.length : Int) then (if ((l0.length : Int) : Int).toNat ≤ 11728124029610 then (laws_toInt64SS.l0 k l0 (List.replicate ((l0.length : Int) : Int).toNat []) 0) else (none)) else (none)
set_option maxHeartbeats 8000000 in
set_option maxRecDepth 100000 in
theorem laws_toInt64SS.calls (k : Nat) (A0 : Option Addr) (c0 : Nat) (l0 : List (List Int)) (r : List (List Int)) (w : World) (hr0 : Kd.C (Kd.slice 2 (Kd.int .i64)) w A0 l0.length l0) (hc0 : l0.length ≤ c0) (h : laws_toInt64SS.f k l0 = some r) :
  Calls Try.prog 26 #[.slice A0 l0.length c0] w fun e w' => ∃ v0_ : Value, e = .returned (v0_) ∧ Kd.S (Kd.slice 2 (Kd.int .i64)) 23 w' w.heap.size (fun _ => True) v0_ r ∧ Below w.heap.size w w' := by
 have HR0 := AZ.mk hr0
 have HC0 := AZ.mk hc0
 clear hr0 hc0
 have HB := AZ.mk (Below.refl w.heap.size w)
 have H : (if 0 ≤ (l0.length : Int) then (if ((l0.length : Int) : Int).toNat ≤ 11728124029610 then (laws_toInt64SS.l0 k l0 (List.replicate ((l0.length : Int) : Int).toNat []) 0) else (none)) else (none)) = some r := h
 clear h
 by_cases c2 : 0 ≤ (l0.length : Int)
 rotate_left
 ·rw [if_neg c2] at H
  exact absurd H (by simp)
 rw [if_pos c2] at H
 have c2b0 := eq_true c2
 have c2b1 : decide (0 ≤ (l0.length : Int)) = true := decide_eq_true c2
 clear c2
 by_cases c3 : ((l0.length : Int) : Int).toNat ≤ 11728124029610
 rotate_left
 ·rw [if_neg c3] at H
  exact absurd H (by simp)
 rw [if_pos c3] at H
 have c3b0 := eq_true c3
 have c3b1 : decide (((l0.length : Int) : Int).toNat ≤ 11728124029610) = true := decide_eq_true c3
 clear c3
 obtain ⟨y135, hy135⟩ : ∃ y_ : List (List Int), y_ = (List.replicate ((l0.length : Int) : Int).toNat []) := ⟨_, rfl⟩
 replace H : (laws_toInt64SS.l0 k l0 y135 0) = some r := by first | (rw [hy135]; with_reducible exact H) | (have H2_ := (Option.bind_some _ _).symm.trans H; rw [hy135]; with_reducible exact H2_) | (have H2_ := (Option.bind_some _ _).symm.trans H; with_reducible exact H2_) | with_reducible exact H | (rw [hy135]; exact H) | exact H
 have Ny135 := AZ.mk hy135
 clear hy135
 have H' := AZ.mk H
 clear H
 go_enter Try.func26, Try.ntmps26
 go_wp2_with (first | ((with_reducible refine gate_dst (N := 7) rfl ?_); refine Kd.S_make (Kd.slice 2 (Kd.int .i64)) _ 23 rfl (N := 7) rfl 22 _ _ rfl (l0.length : Int) rfl rfl Try.underlying22 (.slice none 0 0) 24 info23 rfl (by decide) (by omega) [] (ok := fun _ => True) (okp := fun _ => True) ⟨_, rfl, Kd.R_nil _ _ _ _ _⟩ (fun _ hk => hk) trivial (oT (by first | (with_reducible assumption) | assumption)) (Nat.le_trans (Nat.mul_le_mul_right _ (oT (by first | (with_reducible assumption) | assumption) : (l0.length : Int).toNat ≤ 11728124029610)) (by omega)) (Below.refl _ _) (Nat.le_refl _) ?_; intro v136 w4 ho5 hb hg_ hnew_; clear hg_ hnew_; (first | rw [← Ny135.out] at ho5 | (simp only [Int.reduceToNat] at ho5; rw [← Ny135.out] at ho5)); have n0_ := AZ.mk (Kd.S_lower ho5 (pZ (by repeat (first | (with_reducible first | exact HB.out | apply pA | apply pN | apply pD) | exact HB.out)))); have n1_ := AZ.mk (pT (by repeat (first | (with_reducible first | exact HB.out | apply pA | apply pN | apply pD) | exact HB.out)) hb); clear HB; have HO137 := n0_; have HB := n1_; clear n0_ n1_; clear hb ho5))
 go_loopg [4] k (fun kq v4 w' => ∃ (x3_1 : List (List Int)) (x4_1 : Int), v4 = .int .i64 x4_1 ∧ AZ (laws_toInt64SS.l0 kq l0 x3_1 x4_1 = some r) ∧ AZ (kq ≤ k) ∧ AZ (Kd.S (Kd.slice 2 (Kd.int .i64)) 23 w' w.heap.size (fun _ => True) v136 x3_1) ∧ AZ (Below w.heap.size w w'))
 case atStart => exact ⟨(y135), (0), (by first | rfl | (simp; done) | (simp [*]; done)), H', ⟨Nat.le_refl _⟩, ⟨by (with_reducible repeat (first | apply Kd.S_alloc | apply Kd.S_drewN | apply Kd.S_drew)); exact HO137.out⟩, ⟨by repeat (first | (with_reducible first | exact HB.out | apply pA | apply pN | apply pD) | exact HB.out)⟩⟩
 case round =>
  clear H'
  try clear c2
  try clear c2b0
  try clear c2b1
  try clear p2
  try clear c3
  try clear c3b0
  try clear c3b1
  obtain ⟨x3_1, x4_1, rfl, HA, HK1, HO_3, HB⟩ := hrel
  cases gk with
  | zero => exact absurd HA.out (by simp [laws_toInt64SS.l0])
  | succ k1 =>
   have H := HA.out
   clear HA
   simp only [laws_toInt64SS.l0] at H
   by_cases c6 : x4_1 < (l0.length : Int)
   rotate_left
   ·rw [if_neg c6] at H
    have c6b0 : decide (x4_1 < (l0.length : Int)) = false := decide_eq_false c6
    clear c6
    obtain rfl := Option.some.inj H
    go_wp2
    go_ret
    exact ⟨_, by first | rfl | (simp [errW_none, errW_some] <;> rfl) | (simp [*, errW_none, errW_some] <;> rfl), by (with_reducible repeat (first | apply Kd.S_alloc | apply Kd.S_drewN | apply Kd.S_drew)); exact HO_3.out, by repeat (first | (with_reducible first | exact HB.out | apply pA | apply pN | apply pD) | exact HB.out)⟩
   rw [if_pos c6] at H
   have c6b0 : decide (x4_1 < (l0.length : Int)) = true := decide_eq_true c6
   clear c6
   by_cases c7 : 0 ≤ x4_1
   rotate_left
   ·rw [if_neg c7] at H
    exact absurd H (by simp)
   rw [if_pos c7] at H
   have c7b0 : decide (0 ≤ x4_1) = true := decide_eq_true c7
   clear c7
   replace H := Option.bind_eq_some_iff.mp H
   obtain ⟨t139, A80, H⟩ := H
   replace H : (if x4_1 < (x3_1.length : Int) then (laws_toInt64SS.l0 k1 l0 (x3_1.set (x4_1 : Int).toNat t139) (wrap64 (x4_1 + 1))) else (none)) = some r := H
   have A8 := AZ.mk A80
   clear A80
   by_cases c9 : x4_1 < (x3_1.length : Int)
   rotate_left
   ·rw [if_neg c9] at H
    exact absurd H (by simp)
   rw [if_pos c9] at H
   have c9b0 : decide (x4_1 < (x3_1.length : Int)) = true := decide_eq_true c9
   clear c9
   obtain ⟨y142, hy142⟩ : ∃ y_ : List (List Int), y_ = (x3_1.set (x4_1 : Int).toNat t139) := ⟨_, rfl⟩
   replace H : (laws_toInt64SS.l0 k1 l0 y142 (wrap64 (x4_1 + 1))) = some r := by first | (rw [hy142]; with_reducible exact H) | (have H2_ := (Option.bind_some _ _).symm.trans H; rw [hy142]; with_reducible exact H2_) | (have H2_ := (Option.bind_some _ _).symm.trans H; with_reducible exact H2_) | with_reducible exact H | (rw [hy142]; exact H) | exact H
   have Ny142 := AZ.mk hy142
   clear hy142
   have H' := AZ.mk H
   clear H
   have p138 : 0 ≤ (x4_1 : Int) := oT (by first | (with_reducible assumption) | assumption)
   have q138 : x4_1 < (l0.length : Int) := oT (by first | (with_reducible assumption) | assumption)
   obtain ⟨ad138, A138_0, c138_0, e138, hx138_0, hl138_0, hi138_0⟩ := at_L1 HR0.out x4_1 p138 q138
   cases e138
   replace hx138_0 := (HB.out.cell (World.block_lt_of_cell? w _ hx138_0)).trans hx138_0
   have HR138_0 := AZ.mk hi138_0
   have HC138_0 := AZ.mk hl138_0
   clear hi138_0 hl138_0
   replace p138 := eq_true p138
   replace q138 := eq_true q138
   go_wp2_with (first | ((with_reducible refine gate_callee (f := 27) rfl ?_); refine goesL_ (some 20) rfl rfl Try.func27 (by kernel_rfl) rfl #[.slice A138_0 (rd_L1 l0 x4_1).length c138_0] rfl (by (try simp only [List.map_toArray, List.map_cons, List.map_nil]); first | done | rfl | (simp only [List.length_drop, List.length_take]; rfl)) ?_; (with_reducible refine (laws_toInt64S.calls k1 _ _ (rd_L1 l0 x4_1) t139 _ ?side1 ?side2 A8.out).mono ?_); (case side1 => repeat (first | exact (Kd.C_below HR138_0.out HB.out) | (with_reducible refine Kd.C_alloc ?_ _) | (with_reducible refine Kd.C_drewN ?_ _) | (with_reducible refine Kd.C_drew ?_))); (case side2 => exact HC138_0.out); rintro e w11 ⟨v140, rfl, ho0, hb⟩; refine ⟨_, rfl, ?_⟩; have n0_ := AZ.mk (Kd.S_elder' (by (with_reducible repeat (first | apply Kd.S_alloc | apply Kd.S_drewN | apply Kd.S_drew)); exact HO_3.out) (Kd.R_base ho0) hb); have n1_ := AZ.mk (Kd.R_lower ho0 (pZ (by repeat (first | (with_reducible first | exact HB.out | apply pA | apply pN | apply pD) | exact HB.out)))); have n2_ := AZ.mk (pT (by repeat (first | (with_reducible first | exact HB.out | apply pA | apply pN | apply pD) | exact HB.out)) hb); clear HO_3; clear HB; have HO_3 := n0_; have HO141 := n1_; have HB := n2_; clear n0_ n1_ n2_; (try clear hb); (try clear hb2); (try clear hk); (try clear hi); (try clear ho0); have p10 : 0 ≤ (x4_1 : Int) := oT (by first | (with_reducible assumption) | assumption); have q10 : (x4_1 : Int) < ((x3_1.length : Int) : Int) := oT (by first | (with_reducible assumption) | assumption); obtain ⟨go10, co10, eo10, gb10, gl10, cl10, HG10⟩ := Kd.S_form HO_3.out (by omega); (first | cases eo10 | (injection eo10 with ea_ en_ ec_; (first | subst ea_ | (injection ea_ with ea_; subst ea_)); subst ec_; clear en_)); have GB10 := AZ.mk gb10; have GG10 := AZ.mk HG10; clear gb10 gl10 HG10; obtain ⟨_, ce10, hcl10, hM10, hcc10, hfr10, _, _⟩ := Kd.S_elem HO_3.out [] (x4_1 : Int) p10 q10; obtain ⟨ve10_0, rfl, ge10_0⟩ := hM10; have hx10_0 := hcc10 0 _ rfl; have hf10_0 := hfr10 0; (try simp only [show ((Kd.slice 2 (Kd.int .i64))).sz = 1 from rfl, Nat.mul_one, Nat.add_zero] at hx10_0); (try simp only [show ((Kd.slice 2 (Kd.int .i64))).sz = 1 from rfl, Nat.mul_one, Nat.add_zero] at hf10_0); clear hcl10 hcc10 hfr10; (try clear hM10); replace p10 := eq_true p10; replace q10 := eq_true q10; obtain ⟨Ao14, co14, eo14⟩ := Kd.R_slice HO141.out; subst eo14; have n_ := AZ.mk (Kd.S_mono (ok' := (fun k_ => some k_ ≠ (.slice Ao14 t139.length co14 : Value).ownBlock)) HO_3.out (fun k_ hk => hk.2)); clear HO_3; have HO_3 := n_; clear n_; have HX12 := AZ.mk (show Kd.S (Kd.slice 2 (Kd.int .i64)) 23 w11 w.heap.size (fun k_ => ((fun _ => True)) k_ ∧ ¬ ((fun k_ => some k_ = (.slice Ao14 t139.length co14 : Value).ownBlock)) k_) (.slice (some ⟨go10, 0, none⟩) x3_1.length co10) x3_1 from (by (with_reducible repeat (first | apply Kd.S_alloc | apply Kd.S_drewN | apply Kd.S_drew)); exact Kd.S_mono HO_3.out (fun k_ hk => ⟨trivial, fun e_ => hk e_⟩))); obtain ⟨oki12, ce12, hcl12, hM12, hcc12, hfr12, hoki12, hH12⟩ := Kd.S_elem HX12.out [] (x4_1 : Int) (oT (by first | (with_reducible assumption) | assumption)) (by have h_ : (x4_1 : Int) < ((x3_1.length : Int) : Int) := oT (by first | (with_reducible assumption) | assumption); first | exact h_ | (have e_ := (Kd.S_reads' HO_3.out).1; omega) | simpa using h_); obtain ⟨ve12_0, rfl, ge12_0⟩ := hM12; have HP12 := Kd.S_seg hH12 (oT (by first | (with_reducible assumption) | assumption)) (by have h_ : (x4_1 : Int) < ((x3_1.length : Int) : Int) := oT (by first | (with_reducible assumption) | assumption); first | exact h_ | (have e_ := (Kd.S_reads' HO_3.out).1; omega) | simpa using h_) (seg := [.slice Ao14 t139.length co14]) (j := 0) (show 1 ≤ 1 from by decide) (x' := t139) (Kd.M_row (Kd.R_mono (Kd.R_tight rfl (Kd.R_mono (ok' := fun k_ => ((fun _ => True)) k_ ∧ k_ ≠ go10) (Kd.R_apart' (HO141.out) (Kd.S_typed HO_3.out) (by decide)) (fun k_ hk => ⟨trivial, fun e_ => (hk.2) (by rw [e_]; rfl)⟩))) (fun _ h_ => Or.inr (h_)))) (fun _ hk => hk) (fun k_ hk_ => ((Kd.R_mono (ok' := fun k_ => ((fun _ => True)) k_ ∧ k_ ≠ go10) (Kd.R_apart' (HO141.out) (Kd.S_typed HO_3.out) (by decide)) (fun k_ hk => ⟨trivial, fun e_ => (hk.2) (by rw [e_]; rfl)⟩))).1 k_ hk_.symm); have hx12_0 := hcc12 0 _ rfl; (try simp only [show ((Kd.slice 2 (Kd.int .i64))).sz = 1 from rfl, Nat.mul_one, Nat.add_zero] at hx12_0); have hf12_0 := hfr12 0; (try simp only [show ((Kd.slice 2 (Kd.int .i64))).sz = 1 from rfl, Nat.mul_one, Nat.add_zero] at hf12_0); clear hcl12 hcc12 hfr12; (try clear hM12); clear hoki12 hH12; (try simp only [show ((Kd.slice 2 (Kd.int .i64))).sz = 1 from rfl, Nat.mul_one, Nat.add_zero] at HP12)) | ((with_reducible refine gate_store (t := 23) (p := 21) rfl ?_); refine store_event (t := 23) (p := 21) (v := ?vo_w13) (w1 := (w11.setCell ⟨go10, (x4_1 : Int).toNat, none⟩ (.slice Ao14 t139.length co14))) ?hg ?ho ?hn ?hr ?_; (case ho => rfl); (case hg => rfl); (case hn => rfl); (case hr => first | (go_simp; done) | (go_simp; rfl)); intro w13 hw; have hg : w11.grownBy w13 (some go10) := (by rw [hw]; exact HP12.2); have hp_ : Kd.S (Kd.slice 2 (Kd.int .i64)) 23 w13 w.heap.size (fun _ => True) (.slice (some ⟨go10, 0, none⟩) x3_1.length co10) y142 := (by rw [hw, Ny142.out]; exact HP12.1); clear HP12; have n0_ := AZ.mk (hp_); have n1_ := AZ.mk ((by rw [hw]; exact pS (HB.out) GB10.out : Below w.heap.size w w13)); clear HO_3; clear HB; clear HO141; have HO_3 := n0_; have HB := n1_; clear n0_ n1_; clear hg hw hp_))
   go_roundg k1
   case measure => have := HK1.out; omega
   case rel => exact ⟨(y142), (wrap64 (x4_1 + 1)), (by first | rfl | (simp; done) | (simp [*]; done)), H', ⟨by have := HK1.out; omega⟩, ⟨by (with_reducible repeat (first | apply Kd.S_alloc | apply Kd.S_drewN | apply Kd.S_drew)); exact HO_3.out⟩, ⟨by repeat (first | (with_reducible first | exact HB.out | apply pA | apply pN | apply pD) | exact HB.out)⟩⟩
end Go.Proofs.Ytgfilbgjnloopaa.P
namespace Go.Proofs.Ytgfilbgjnloopaa.P
open Go.RowKit Go.Proofs.YtgfilbgjnloopaaW.PrintWords Go.Proofs.YtgfilbgjnloopaaW.PrintLast Go.Proofs.YtgfilbgjnloopaaW.PrintMore
attribute [local go_sem] max2_int min2_int max_two min_two max_three min_three max_four min_four
set_option linter.unusedVariables false
set_option linter.unusedSimpArgs false
def laws_toBoolS.l0 : Nat → List Bool → List Bool → Int → Option (List Bool)
 | 0, _, _, _ => none
 | k + 1, x0, x3, x4 => if x4 < (x0.length : Int) then (if 0 ≤ x4 then (if x4 < (x3.length : Int) then (laws_toBoolS.l0 k x0 (x3.set (x4 : Int).toNat (rdOf false x0 x4)) (wrap64 (x4 + 1))) else (none)) else (none)) else (some x3)
def laws_toBoolS.f (k : Nat) (l0 : List Bool) : Option (List Bool) := if 0 ≤ (l0.length : Int) then (if ((l0.length : Int) : Int).toNat ≤ 281474976710656 then (laws_toBoolS.l0 k l0 (List.replicate ((l0.length : Int) : Int).toNat false) 0) else (none)) else (none)
set_option maxHeartbeats 8000000 in
set_option maxRecDepth 100000 in
theorem laws_toBoolS.calls (k : Nat) (A0 : Option Addr) (c0 : Nat) (l0 : List Bool) (r : List Bool) (w : World) (hr0 : Kd.C Kd.bool w A0 l0.length l0) (hc0 : l0.length ≤ c0) (h : laws_toBoolS.f k l0 = some r) :
  Calls Try.prog 28 #[.slice A0 l0.length c0] w fun e w' => ∃ v0_ : Value, e = .returned (v0_) ∧ Kd.R Kd.bool 4 w' w.heap.size (fun _ => True) v0_ r ∧ Below w.heap.size w w' := by
 have HR0 := AZ.mk hr0
 have HC0 := AZ.mk hc0
 clear hr0 hc0
 have HB := AZ.mk (Below.refl w.heap.size w)
 have H : (if 0 ≤ (l0.length : Int) then (if ((l0.length : Int) : Int).toNat ≤ 281474976710656 then (laws_toBoolS.l0 k l0 (List.replicate ((l0.length : Int) : Int).toNat false) 0) else (none)) else (none)) = some r := h
 clear h
 by_cases c2 : 0 ≤ (l0.length : Int)
 rotate_left
 ·rw [if_neg c2] at H
  exact absurd H (by simp)
 rw [if_pos c2] at H
 have c2b0 := eq_true c2
 have c2b1 : decide (0 ≤ (l0.length : Int)) = true := decide_eq_true c2
 clear c2
 by_cases c3 : ((l0.length : Int) : Int).toNat ≤ 281474976710656
 rotate_left
 ·rw [if_neg c3] at H
  exact absurd H (by simp)
 rw [if_pos c3] at H
 have c3b0 := eq_true c3
 have c3b1 : decide (((l0.length : Int) : Int).toNat ≤ 281474976710656) = true := decide_eq_true c3
 clear c3
 obtain ⟨y143, hy143⟩ : ∃ y_ : List Bool, y_ = (List.replicate ((l0.length : Int) : Int).toNat false) := ⟨_, rfl⟩
 replace H : (laws_toBoolS.l0 k l0 y143 0) = some r := by first | (rw [hy143]; with_reducible exact H) | (have H2_ := (Option.bind_some _ _).symm.trans H; rw [hy143]; with_reducible exact H2_) | (have H2_ := (Option.bind_some _ _).symm.trans H; with_reducible exact H2_) | with_reducible exact H | (rw [hy143]; exact H) | exact H
 have Ny143 := AZ.mk hy143
 clear hy143
 have H' := AZ.mk H
 clear H
 go_enter Try.func28, Try.ntmps28
 go_wp2_with (first | ((with_reducible refine gate_dst (N := 7) rfl ?_); refine Kd.R_make Kd.bool _ 4 rfl (N := 7) rfl 24 _ _ rfl (l0.length : Int) rfl rfl Try.underlying24 (.bool false) 1 info4 rfl (by decide) (by omega) false (ok := fun _ => True) (okp := fun _ => True) rfl (fun _ hk => hk) trivial (oT (by first | (with_reducible assumption) | assumption)) (Nat.le_trans (Nat.mul_le_mul_right _ (oT (by first | (with_reducible assumption) | assumption) : (l0.length : Int).toNat ≤ 281474976710656)) (by omega)) (Below.refl _ _) (Nat.le_refl _) ?_; intro v144 w4 ho5 hb hg_ hnew_; clear hg_ hnew_; (first | rw [← Ny143.out] at ho5 | (simp only [Int.reduceToNat] at ho5; rw [← Ny143.out] at ho5)); have n0_ := AZ.mk (Kd.R_lower ho5 (pZ (by repeat (first | (with_reducible first | exact HB.out | apply pA | apply pN | apply pD) | exact HB.out)))); have n1_ := AZ.mk (pT (by repeat (first | (with_reducible first | exact HB.out | apply pA | apply pN | apply pD) | exact HB.out)) hb); clear HB; have HO145 := n0_; have HB := n1_; clear n0_ n1_; clear hb ho5))
 go_loopg [4] k (fun kq v4 w' => ∃ (x3_1 : List Bool) (x4_1 : Int), v4 = .int .i64 x4_1 ∧ AZ (laws_toBoolS.l0 kq l0 x3_1 x4_1 = some r) ∧ AZ (kq ≤ k) ∧ AZ (Kd.R Kd.bool 4 w' w.heap.size (fun _ => True) v144 x3_1) ∧ AZ (Below w.heap.size w w'))
 case atStart => exact ⟨(y143), (0), (by first | rfl | (simp; done) | (simp [*]; done)), H', ⟨Nat.le_refl _⟩, ⟨by (with_reducible repeat (first | apply Kd.R_alloc | apply Kd.R_drewN | apply Kd.R_drew)); exact HO145.out⟩, ⟨by repeat (first | (with_reducible first | exact HB.out | apply pA | apply pN | apply pD) | exact HB.out)⟩⟩
 case round =>
  clear H'
  try clear c2
  try clear c2b0
  try clear c2b1
  try clear p2
  try clear c3
  try clear c3b0
  try clear c3b1
  obtain ⟨x3_1, x4_1, rfl, HA, HK1, HO_3, HB⟩ := hrel
  cases gk with
  | zero => exact absurd HA.out (by simp [laws_toBoolS.l0])
  | succ k1 =>
   have H := HA.out
   clear HA
   simp only [laws_toBoolS.l0] at H
   by_cases c6 : x4_1 < (l0.length : Int)
   rotate_left
   ·rw [if_neg c6] at H
    have c6b0 : decide (x4_1 < (l0.length : Int)) = false := decide_eq_false c6
    clear c6
    obtain rfl := Option.some.inj H
    go_wp2
    go_ret
    exact ⟨_, by first | rfl | (simp [errW_none, errW_some] <;> rfl) | (simp [*, errW_none, errW_some] <;> rfl), by (with_reducible repeat (first | apply Kd.R_alloc | apply Kd.R_drewN | apply Kd.R_drew)); exact HO_3.out, by repeat (first | (with_reducible first | exact HB.out | apply pA | apply pN | apply pD) | exact HB.out)⟩
   rw [if_pos c6] at H
   have c6b0 : decide (x4_1 < (l0.length : Int)) = true := decide_eq_true c6
   clear c6
   by_cases c7 : 0 ≤ x4_1
   rotate_left
   ·rw [if_neg c7] at H
    exact absurd H (by simp)
   rw [if_pos c7] at H
   have c7b0 : decide (0 ≤ x4_1) = true := decide_eq_true c7
   clear c7
   by_cases c8 : x4_1 < (x3_1.length : Int)
   rotate_left
   ·rw [if_neg c8] at H
    exact absurd H (by simp)
   rw [if_pos c8] at H
   have c8b0 : decide (x4_1 < (x3_1.length : Int)) = true := decide_eq_true c8
   clear c8
   obtain ⟨y147, hy147⟩ : ∃ y_ : List Bool, y_ = (x3_1.set (x4_1 : Int).toNat (rdOf false l0 x4_1)) := ⟨_, rfl⟩
   replace H : (laws_toBoolS.l0 k1 l0 y147 (wrap64 (x4_1 + 1))) = some r := by first | (rw [hy147]; with_reducible exact H) | (have H2_ := (Option.bind_some _ _).symm.trans H; rw [hy147]; with_reducible exact H2_) | (have H2_ := (Option.bind_some _ _).symm.trans H; with_reducible exact H2_) | with_reducible exact H | (rw [hy147]; exact H) | exact H
   have Ny147 := AZ.mk hy147
   clear hy147
   have H' := AZ.mk H
   clear H
   have p146 : 0 ≤ (x4_1 : Int) := oT (by first | (with_reducible assumption) | assumption)
   have q146 : x4_1 < (l0.length : Int) := oT (by first | (with_reducible assumption) | assumption)
   obtain ⟨ad146, e146, hx146_0⟩ := Kd.at_bool HR0.out x4_1 p146 q146
   cases e146
   replace hx146_0 := (HB.out.cell (World.block_lt_of_cell? w _ hx146_0)).trans hx146_0
   replace p146 := eq_true p146
   replace q146 := eq_true q146
   have p9 : 0 ≤ (x4_1 : Int) := oT (by first | (with_reducible assumption) | assumption)
   have q9 : (x4_1 : Int) < ((x3_1.length : Int) : Int) := oT (by first | (with_reducible assumption) | assumption)
   obtain ⟨go9, co9, eo9, gb9, gl9, cl9, HG9⟩ := Kd.R_form HO_3.out (by omega)
   (first | cases eo9 | (injection eo9 with ea_ en_ ec_; (first | subst ea_ | (injection ea_ with ea_; subst ea_)); subst ec_; clear en_))
   have GB9 := AZ.mk gb9
   have GG9 := AZ.mk HG9
   clear gb9 gl9 HG9
   obtain ⟨hx9_0, hf9_0⟩ := Kd.R_celln false HO_3.out (x4_1 : Int) p9 q9
   replace p9 := eq_true p9
   replace q9 := eq_true q9
   have HP10 := Kd.R_putg HO_3.out (x4_1 : Int) (rdOf false l0 x4_1)
   go_wp2_with (first | ((with_reducible refine gate_store (t := 4) (p := 20) rfl ?_); refine store_event (t := 4) (p := 20) (v := ?vo_w11) (w1 := (wr.setCell ⟨go9, (x4_1 : Int).toNat, none⟩ (.bool (rdOf false l0 x4_1)))) ?hg ?ho ?hn ?hr ?_; (case ho => rfl); (case hg => rfl); (case hn => rfl); (case hr => first | (go_simp; done) | (go_simp; rfl)); intro w11 hw; have hg : wr.grownBy w11 (some go9) := (by rw [hw]; exact HP10.2); have hp_ : Kd.R Kd.bool 4 w11 w.heap.size (fun _ => True) (.slice (some ⟨go9, 0, none⟩) x3_1.length co9) y147 := (by rw [hw, Ny147.out]; exact HP10.1); clear HP10; have n0_ := AZ.mk (hp_); have n1_ := AZ.mk ((by rw [hw]; exact pS (HB.out) GB9.out : Below w.heap.size w w11)); clear HO_3; clear HB; have HO_3 := n0_; have HB := n1_; clear n0_ n1_; clear hg hw hp_))
   go_roundg k1
   case measure => have := HK1.out; omega
   case rel => exact ⟨(y147), (wrap64 (x4_1 + 1)), (by first | rfl | (simp; done) | (simp [*]; done)), H', ⟨by have := HK1.out; omega⟩, ⟨by (with_reducible repeat (first | apply Kd.R_alloc | apply Kd.R_drewN | apply Kd.R_drew)); exact HO_3.out⟩, ⟨by repeat (first | (with_reducible first | exact HB.out | apply pA | apply pN | apply pD) | exact HB.out)⟩⟩
end Go.Proofs.Ytgfilbgjnloopaa.P
namespace Go.Proofs.Ytgfilbgjnloopaa.P
open Go.RowKit Go.Proofs.YtgfilbgjnloopaaW.PrintWords Go.Proofs.YtgfilbgjnloopaaW.PrintLast Go.Proofs.YtgfilbgjnloopaaW.PrintMore
attribute [local go_sem] max2_int min2_int max_two min_two max_three min_three max_four min_four
set_option linter.unusedVariables false
set_option linter.unusedSimpArgs false
def laws_toAlgebra.f (k : Nat) (l0_0 : List (List Int)) (l0_1 : List (List Int)) (l0_2 : List Int) (l0_3 : List Bool) : Option ((List (List Int)) × (List (List Int)) × List Int × List Bool) := (laws_toInt64SS.f k l0_0).bind fun t151 => ((laws_toInt64SS.f k l0_1).bind fun t154 => ((laws_toInt64S.f k l0_2).bind fun t157 => ((laws_toBoolS.f k l0_3).bind fun t160 => (some (t151, t154, t157, t160)))))
set_option maxHeartbeats 8000000 in
set_option maxRecDepth 100000 in
theorem laws_toAlgebra.calls (k : Nat) (A0_0 : Option Addr) (c0_0 : Nat) (l0_0 : List (List Int)) (A0_1 : Option Addr) (c0_1 : Nat) (l0_1 : List (List Int)) (A0_2 : Option Addr) (c0_2 : Nat) (l0_2 : List Int) (A0_3 : Option Addr) (c0_3 : Nat) (l0_3 : List Bool) (r1 : List (List Int)) (r2 : List (List Int)) (r3 : List Int) (r4 : List Bool) (w : World) (hr0_0 : Kd.C (Kd.slice 2 (Kd.int .i64)) w A0_0 l0_0.length l0_0) (hc0_0 : l0_0.length ≤ c0_0) (hr0_1 : Kd.C (Kd.slice 2 (Kd.int .i64)) w A0_1 l0_1.length l0_1) (hc0_1 : l0_1.length ≤ c0_1) (hr0_2 : Kd.C (Kd.int .i64) w A0_2 l0_2.length l0_2) (hc0_2 : l0_2.length ≤ c0_2) (hr0_3 : Kd.C Kd.bool w A0_3 l0_3.length l0_3) (hc0_3 : l0_3.length ≤ c0_3) (h : laws_toAlgebra.f k l0_0 l0_1 l0_2 l0_3 = some (r1, r2, r3, r4)) :
  Calls Try.prog 9 #[.agg #[.slice A0_0 l0_0.length c0_0, .slice A0_1 l0_1.length c0_1, .slice A0_2 l0_2.length c0_2, .slice A0_3 l0_3.length c0_3]] w fun e w' => ∃ v0_ v1_ v2_ v3_ : Value, e = .returned (.agg #[v0_, v1_, v2_, v3_]) ∧ Kd.S (Kd.slice 2 (Kd.int .i64)) 23 w' w.heap.size (fun k_ => some k_ ≠ (v1_ : Value).ownBlock ∧ some k_ ≠ (v2_ : Value).ownBlock) v0_ r1 ∧ Kd.S (Kd.slice 2 (Kd.int .i64)) 23 w' w.heap.size (fun k_ => some k_ ≠ (v0_ : Value).ownBlock ∧ some k_ ≠ (v2_ : Value).ownBlock) v1_ r2 ∧ Kd.R (Kd.int .i64) 2 w' w.heap.size (fun _ => True) v2_ r3 ∧ Kd.R Kd.bool 4 w' w.heap.size (fun _ => True) v3_ r4 ∧ Below w.heap.size w w' := by
 have hu26 := Try.underlying26
 have hu29 := Try.underlying29
 have HR0_0 := AZ.mk hr0_0
 have HC0_0 := AZ.mk hc0_0
 clear hr0_0 hc0_0
 have HR0_1 := AZ.mk hr0_1
 have HC0_1 := AZ.mk hc0_1
 clear hr0_1 hc0_1
 have HR0_2 := AZ.mk hr0_2
 have HC0_2 := AZ.mk hc0_2
 clear hr0_2 hc0_2
 have HR0_3 := AZ.mk hr0_3
 have HC0_3 := AZ.mk hc0_3
 clear hr0_3 hc0_3
 have HB := AZ.mk (Below.refl w.heap.size w)
 have H : ((laws_toInt64SS.f k l0_0).bind fun t151 => ((laws_toInt64SS.f k l0_1).bind fun t154 => ((laws_toInt64S.f k l0_2).bind fun t157 => ((laws_toBoolS.f k l0_3).bind fun t160 => (some (t151, t154, t157, t160)))))) = some (r1, r2, r3, r4) := h
 clear h
 replace H := Option.bind_eq_some_iff.mp H
 obtain ⟨t151, A20, H⟩ := H
 replace H : ((laws_toInt64SS.f k l0_1).bind fun t154 => ((laws_toInt64S.f k l0_2).bind fun t157 => ((laws_toBoolS.f k l0_3).bind fun t160 => (some (t151, t154, t157, t160))))) = some (r1, r2, r3, r4) := H
 have A2 := AZ.mk A20
 clear A20
 replace H := Option.bind_eq_some_iff.mp H
 obtain ⟨t154, A30, H⟩ := H
 replace H : ((laws_toInt64S.f k l0_2).bind fun t157 => ((laws_toBoolS.f k l0_3).bind fun t160 => (some (t151, t154, t157, t160)))) = some (r1, r2, r3, r4) := H
 have A3 := AZ.mk A30
 clear A30
 replace H := Option.bind_eq_some_iff.mp H
 obtain ⟨t157, A40, H⟩ := H
 replace H : ((laws_toBoolS.f k l0_3).bind fun t160 => (some (t151, t154, t157, t160))) = some (r1, r2, r3, r4) := H
 have A4 := AZ.mk A40
 clear A40
 replace H := Option.bind_eq_some_iff.mp H
 obtain ⟨t160, A50, H⟩ := H
 replace H : (some (t151, t154, t157, t160)) = some (r1, r2, r3, r4) := H
 have A5 := AZ.mk A50
 clear A50
 simp only [Option.some.injEq, Prod.mk.injEq] at H
 obtain ⟨rfl, rfl, rfl, rfl⟩ := H
 go_enter Try.func9, Try.ntmps9
 go_wp2_with (first | ((with_reducible refine gate_dst (N := 1) rfl ?_); refine box_event ?hg (N := 1) ?hd (cs := #[.slice A0_0 l0_0.length c0_0, .slice A0_1 l0_1.length c0_1, .slice A0_2 l0_2.length c0_2, .slice A0_3 l0_3.length c0_3]) (t := 26) ?hr ?_; (case hd => rfl); (case hg => rfl); (case hr => first | (go_simp; done) | (go_simp; rfl)); intro gb148 hg w6 hbox hb; have n0_ := AZ.mk (pT (by repeat (first | (with_reducible first | exact HB.out | apply pA | apply pN | apply pD) | exact HB.out)) hb); have n1_ := AZ.mk (hbox); have n2_ := AZ.mk ((by rw [hg]; exact (pZ (by repeat (first | (with_reducible first | exact HB.out | apply pA | apply pN | apply pD) | exact HB.out))) : w.heap.size ≤ gb148)); have n3_ := AZ.mk ((by rw [hg]; exact (pZ (by repeat (first | (with_reducible first | exact HB.out | apply pA | apply pN | apply pD) | exact HB.out))) : w.heap.size ≤ gb148)); clear HB; have HB := n0_; have BK148 := n1_; have GW148 := n2_; have GE148 := n3_; clear n0_ n1_ n2_ n3_; clear hb hbox hg) | ((with_reducible refine gate_dst (N := 2) rfl ?_); refine box_event ?hg (N := 2) ?hd (cs := #[.slice none 0 0, .slice none 0 0, .slice none 0 0, .slice none 0 0]) (t := 29) ?hr ?_; (case hd => rfl); (case hg => rfl); (case hr => first | (go_simp; done) | (go_simp; rfl)); intro gb149 hg w7 hbox hb; have n0_ := AZ.mk (bb_ (g := gb148) (o := .cells #[.slice A0_0 l0_0.length c0_0, .slice A0_1 l0_1.length c0_1, .slice A0_2 l0_2.length c0_2, .slice A0_3 l0_3.length c0_3] 26 (0, 0)) (by (with_reducible repeat (first | refine bn_ ?_ _ | refine bd_ ?_ | refine ba_ ?_ _)); exact BK148.out) hb); have n1_ := AZ.mk (pT (by repeat (first | (with_reducible first | exact HB.out | apply pA | apply pN | apply pD | refine pS ?_ GE148.out) | exact HB.out)) hb); have n2_ := AZ.mk (hbox); have n3_ := AZ.mk ((by rw [hg]; exact (pZ (by repeat (first | (with_reducible first | exact HB.out | apply pA | apply pN | apply pD | refine pS ?_ GE148.out) | exact HB.out))) : w.heap.size ≤ gb149)); have n4_ := AZ.mk ((by rw [hg]; exact (pZ (by repeat (first | (with_reducible first | exact HB.out | apply pA | apply pN | apply pD | refine pS ?_ GE148.out) | exact HB.out))) : w.heap.size ≤ gb149)); have n5_ := AZ.mk ((by rw [hg]; exact Nat.ne_of_lt (blk_lt (g := gb148) (o := .cells #[.slice A0_0 l0_0.length c0_0, .slice A0_1 l0_1.length c0_1, .slice A0_2 l0_2.length c0_2, .slice A0_3 l0_3.length c0_3] 26 (0, 0)) (by (with_reducible repeat (first | refine bn_ ?_ _ | refine bd_ ?_ | refine ba_ ?_ _)); exact BK148.out)) : gb148 ≠ gb149)); have n6_ := AZ.mk ((by rw [hg]; exact Nat.ne_of_gt (blk_lt (g := gb148) (o := .cells #[.slice A0_0 l0_0.length c0_0, .slice A0_1 l0_1.length c0_1, .slice A0_2 l0_2.length c0_2, .slice A0_3 l0_3.length c0_3] 26 (0, 0)) (by (with_reducible repeat (first | refine bn_ ?_ _ | refine bd_ ?_ | refine ba_ ?_ _)); exact BK148.out)) : gb149 ≠ gb148)); clear BK148; clear HB; have BK148 := n0_; have HB := n1_; have BK149 := n2_; have GW149 := n3_; have GE149 := n4_; have NB148_149 := n5_; have NB149_148 := n6_; clear n0_ n1_ n2_ n3_ n4_ n5_ n6_; clear hb hbox hg) | ((with_reducible refine gate_dst (N := 3) rfl ?_); refine box_event ?hg (N := 3) ?hd (cs := #[.slice none 0 0, .slice none 0 0, .slice none 0 0, .slice none 0 0]) (t := 29) ?hr ?_; (case hd => rfl); (case hg => rfl); (case hr => first | (go_simp; done) | (go_simp; rfl)); intro gb150 hg w8 hbox hb; have n0_ := AZ.mk (bb_ (g := gb148) (o := .cells #[.slice A0_0 l0_0.length c0_0, .slice A0_1 l0_1.length c0_1, .slice A0_2 l0_2.length c0_2, .slice A0_3 l0_3.length c0_3] 26 (0, 0)) (by (with_reducible repeat (first | refine bn_ ?_ _ | refine bd_ ?_ | refine ba_ ?_ _)); exact BK148.out) hb); have n1_ := AZ.mk (bb_ (g := gb149) (o := .cells #[.slice none 0 0, .slice none 0 0, .slice none 0 0, .slice none 0 0] 29 (0, 0)) (by (with_reducible repeat (first | refine bn_ ?_ _ | refine bd_ ?_ | refine ba_ ?_ _)); exact BK149.out) hb); have n2_ := AZ.mk (pT (by repeat (first | (with_reducible first | exact HB.out | apply pA | apply pN | apply pD | refine pS ?_ GE148.out | refine pS ?_ GE149.out) | exact HB.out)) hb); have n3_ := AZ.mk (hbox); have n4_ := AZ.mk ((by rw [hg]; exact (pZ (by repeat (first | (with_reducible first | exact HB.out | apply pA | apply pN | apply pD | refine pS ?_ GE148.out | refine pS ?_ GE149.out) | exact HB.out))) : w.heap.size ≤ gb150)); have n5_ := AZ.mk ((by rw [hg]; exact (pZ (by repeat (first | (with_reducible first | exact HB.out | apply pA | apply pN | apply pD | refine pS ?_ GE148.out | refine pS ?_ GE149.out) | exact HB.out))) : w.heap.size ≤ gb150)); have n6_ := AZ.mk ((by rw [hg]; exact Nat.ne_of_lt (blk_lt (g := gb148) (o := .cells #[.slice A0_0 l0_0.length c0_0, .slice A0_1 l0_1.length c0_1, .slice A0_2 l0_2.length c0_2, .slice A0_3 l0_3.length c0_3] 26 (0, 0)) (by (with_reducible repeat (first | refine bn_ ?_ _ | refine bd_ ?_ | refine ba_ ?_ _)); exact BK148.out)) : gb148 ≠ gb150)); have n7_ := AZ.mk ((by rw [hg]; exact Nat.ne_of_gt (blk_lt (g := gb148) (o := .cells #[.slice A0_0 l0_0.length c0_0, .slice A0_1 l0_1.length c0_1, .slice A0_2 l0_2.length c0_2, .slice A0_3 l0_3.length c0_3] 26 (0, 0)) (by (with_reducible repeat (first | refine bn_ ?_ _ | refine bd_ ?_ | refine ba_ ?_ _)); exact BK148.out)) : gb150 ≠ gb148)); have n8_ := AZ.mk ((by rw [hg]; exact Nat.ne_of_lt (blk_lt (g := gb149) (o := .cells #[.slice none 0 0, .slice none 0 0, .slice none 0 0, .slice none 0 0] 29 (0, 0)) (by (with_reducible repeat (first | refine bn_ ?_ _ | refine bd_ ?_ | refine ba_ ?_ _)); exact BK149.out)) : gb149 ≠ gb150)); have n9_ := AZ.mk ((by rw [hg]; exact Nat.ne_of_gt (blk_lt (g := gb149) (o := .cells #[.slice none 0 0, .slice none 0 0, .slice none 0 0, .slice none 0 0] 29 (0, 0)) (by (with_reducible repeat (first | refine bn_ ?_ _ | refine bd_ ?_ | refine ba_ ?_ _)); exact BK149.out)) : gb150 ≠ gb149)); clear BK148; clear BK149; clear HB; have BK148 := n0_; have BK149 := n1_; have HB := n2_; have BK150 := n3_; have GW150 := n4_; have GE150 := n5_; have NB148_150 := n6_; have NB150_148 := n7_; have NB149_150 := n8_; have NB150_149 := n9_; clear n0_ n1_ n2_ n3_ n4_ n5_ n6_ n7_ n8_ n9_; clear hb hbox hg; have hnb9 := NB148_149.out; have hnc9 := NB149_148.out; have hnb10 := NB148_150.out; have hnc10 := NB150_148.out; have hcz11_0 : w8.cell? ⟨gb148, 0, none⟩ = some (.slice A0_0 l0_0.length c0_0) := (bc BK148.out 0).trans rfl; have hcz11_1 : w8.cell? ⟨gb148, 1, none⟩ = some (.slice A0_1 l0_1.length c0_1) := (bc BK148.out 1).trans rfl; have hcz11_2 : w8.cell? ⟨gb148, 2, none⟩ = some (.slice A0_2 l0_2.length c0_2) := (bc BK148.out 2).trans rfl; have hcz11_3 : w8.cell? ⟨gb148, 3, none⟩ = some (.slice A0_3 l0_3.length c0_3) := (bc BK148.out 3).trans rfl; have hfz11_0 := bf BK148.out 0; have hfz11_1 := bf BK148.out 1; have hfz11_2 := bf BK148.out 2; have hfz11_3 := bf BK148.out 3) | ((with_reducible refine gate_callee (f := 26) rfl ?_); refine goesL_ (some 6) rfl rfl Try.func26 (by kernel_rfl) rfl #[.slice A0_0 l0_0.length c0_0] rfl (by (try simp only [List.map_toArray, List.map_cons, List.map_nil]); first | done | rfl | (simp only [List.length_drop, List.length_take]; rfl)) ?_; (with_reducible refine (laws_toInt64SS.calls k _ _ l0_0 t151 _ ?side1 ?side2 A2.out).mono ?_); (case side1 => repeat (first | exact (Kd.C_below HR0_0.out HB.out) | (with_reducible refine Kd.C_alloc ?_ _) | (with_reducible refine Kd.C_drewN ?_ _) | (with_reducible refine Kd.C_drew ?_))); (case side2 => exact HC0_0.out); rintro e w12 ⟨v152, rfl, ho0, hb⟩; refine ⟨_, rfl, ?_⟩; have n0_ := AZ.mk (Kd.S_lower ho0 (pZ (by repeat (first | (with_reducible first | exact HB.out | apply pA | apply pN | apply pD | refine pS ?_ GE148.out | refine pS ?_ GE149.out | refine pS ?_ GE150.out) | exact HB.out)))); have n1_ := AZ.mk (bb_ (g := gb148) (o := .cells #[.slice A0_0 l0_0.length c0_0, .slice A0_1 l0_1.length c0_1, .slice A0_2 l0_2.length c0_2, .slice A0_3 l0_3.length c0_3] 26 (0, 0)) (by (with_reducible repeat (first | refine bn_ ?_ _ | refine bd_ ?_ | refine ba_ ?_ _)); exact BK148.out) hb); have n2_ := AZ.mk (bb_ (g := gb149) (o := .cells #[.slice none 0 0, .slice none 0 0, .slice none 0 0, .slice none 0 0] 29 (0, 0)) (by (with_reducible repeat (first | refine bn_ ?_ _ | refine bd_ ?_ | refine ba_ ?_ _)); exact BK149.out) hb); have n3_ := AZ.mk (bb_ (g := gb150) (o := .cells #[.slice none 0 0, .slice none 0 0, .slice none 0 0, .slice none 0 0] 29 (0, 0)) (by (with_reducible repeat (first | refine bn_ ?_ _ | refine bd_ ?_ | refine ba_ ?_ _)); exact BK150.out) hb); have n4_ := AZ.mk (pT (by repeat (first | (with_reducible first | exact HB.out | apply pA | apply pN | apply pD | refine pS ?_ GE148.out | refine pS ?_ GE149.out | refine pS ?_ GE150.out) | exact HB.out)) hb); clear BK148; clear BK149; clear BK150; clear HB; have HO153 := n0_; have BK148 := n1_; have BK149 := n2_; have BK150 := n3_; have HB := n4_; clear n0_ n1_ n2_ n3_ n4_; (try clear hb); (try clear hb2); (try clear hk); (try clear hi); (try clear ho0); obtain ⟨Ao13, co13, eo13⟩ := Kd.S_slice HO153.out; subst eo13; have hnb14 := NB150_149.out; have hnc14 := NB149_150.out; have hcz15_0 : w12.cell? ⟨gb150, 0, none⟩ = some (.slice none 0 0) := (bc BK150.out 0).trans rfl; have hcz15_1 : w12.cell? ⟨gb150, 1, none⟩ = some (.slice none 0 0) := (bc BK150.out 1).trans rfl; have hcz15_2 : w12.cell? ⟨gb150, 2, none⟩ = some (.slice none 0 0) := (bc BK150.out 2).trans rfl; have hcz15_3 : w12.cell? ⟨gb150, 3, none⟩ = some (.slice none 0 0) := (bc BK150.out 3).trans rfl; have hfz15_0 := bf BK150.out 0; have hfz15_1 := bf BK150.out 1; have hfz15_2 := bf BK150.out 2; have hfz15_3 := bf BK150.out 3; have hcz16_0 : w12.cell? ⟨gb148, 0, none⟩ = some (.slice A0_0 l0_0.length c0_0) := (bc BK148.out 0).trans rfl; have hcz16_1 : w12.cell? ⟨gb148, 1, none⟩ = some (.slice A0_1 l0_1.length c0_1) := (bc BK148.out 1).trans rfl; have hcz16_2 : w12.cell? ⟨gb148, 2, none⟩ = some (.slice A0_2 l0_2.length c0_2) := (bc BK148.out 2).trans rfl; have hcz16_3 : w12.cell? ⟨gb148, 3, none⟩ = some (.slice A0_3 l0_3.length c0_3) := (bc BK148.out 3).trans rfl; have hfz16_0 := bf BK148.out 0; have hfz16_1 := bf BK148.out 1; have hfz16_2 := bf BK148.out 2; have hfz16_3 := bf BK148.out 3) | ((with_reducible refine gate_callee (f := 26) rfl ?_); refine goesL_ (some 10) rfl rfl Try.func26 (by kernel_rfl) rfl #[.slice A0_1 l0_1.length c0_1] rfl (by (try simp only [List.map_toArray, List.map_cons, List.map_nil]); first | done | rfl | (simp only [List.length_drop, List.length_take]; rfl)) ?_; (with_reducible refine (laws_toInt64SS.calls k _ _ l0_1 t154 _ ?side1 ?side2 A3.out).mono ?_); (case side1 => exact Kd.C_below HR0_1.out (by repeat (first | (with_reducible first | exact HB.out | apply pA | apply pN | apply pD | refine pS ?_ GE148.out | refine pS ?_ GE149.out | refine pS ?_ GE150.out) | exact HB.out))); (case side2 => exact HC0_1.out); rintro e w17 ⟨v155, rfl, ho0, hb⟩; refine ⟨_, rfl, ?_⟩; have n0_ := AZ.mk (Kd.S_elder' (by (with_reducible repeat (first | apply Kd.S_alloc | apply Kd.S_drewN | apply Kd.S_drew)); exact (Kd.S_mono (Kd.S_far (p := ⟨gb150, 0, none⟩) (Kd.S_types HO153.out BK150.out (by decide)) (fun _ hk => hk.2) (.slice Ao13 t151.length co13)) (fun _ h_ => h_.1))) (Kd.S_base ho0) hb); have n1_ := AZ.mk (Kd.S_lower (Kd.S_new' ho0 (Kd.S_lt (by (with_reducible repeat (first | apply Kd.S_alloc | apply Kd.S_drewN | apply Kd.S_drew)); exact (Kd.S_mono (Kd.S_far (p := ⟨gb150, 0, none⟩) (Kd.S_types HO153.out BK150.out (by decide)) (fun _ hk => hk.2) (.slice Ao13 t151.length co13)) (fun _ h_ => h_.1))))) (pZ (by repeat (first | (with_reducible first | exact HB.out | apply pA | apply pN | apply pD | refine pS ?_ GE148.out | refine pS ?_ GE149.out | refine pS ?_ GE150.out) | exact HB.out)))); have n2_ := AZ.mk (bb_ (g := gb148) (o := .cells #[.slice A0_0 l0_0.length c0_0, .slice A0_1 l0_1.length c0_1, .slice A0_2 l0_2.length c0_2, .slice A0_3 l0_3.length c0_3] 26 (0, 0)) (by (with_reducible repeat (first | refine bn_ ?_ _ | refine bd_ ?_ | refine ba_ ?_ _)); refine blk_far ?_ NB148_150.out _; (with_reducible repeat (first | refine bn_ ?_ _ | refine bd_ ?_ | refine ba_ ?_ _)); exact BK148.out) hb); have n3_ := AZ.mk (bb_ (g := gb149) (o := .cells #[.slice none 0 0, .slice none 0 0, .slice none 0 0, .slice none 0 0] 29 (0, 0)) (by (with_reducible repeat (first | refine bn_ ?_ _ | refine bd_ ?_ | refine ba_ ?_ _)); refine blk_far ?_ NB149_150.out _; (with_reducible repeat (first | refine bn_ ?_ _ | refine bd_ ?_ | refine ba_ ?_ _)); exact BK149.out) hb); have n4_ := AZ.mk (bb_ (g := gb150) (o := .cells #[.slice Ao13 t151.length co13, .slice none 0 0, .slice none 0 0, .slice none 0 0] 29 (0, 0)) (by (with_reducible repeat (first | refine bn_ ?_ _ | refine bd_ ?_ | refine ba_ ?_ _)); refine blk_put (cs := #[.slice none 0 0, .slice none 0 0, .slice none 0 0, .slice none 0 0]) ?_ 0 _ rfl; (with_reducible repeat (first | refine bn_ ?_ _ | refine bd_ ?_ | refine ba_ ?_ _)); exact BK150.out) hb); have n5_ := AZ.mk (pT (by repeat (first | (with_reducible first | exact HB.out | apply pA | apply pN | apply pD | refine pS ?_ GE148.out | refine pS ?_ GE149.out | refine pS ?_ GE150.out) | exact HB.out)) hb); clear HO153; clear BK148; clear BK149; clear BK150; clear HB; have HO153 := n0_; have HO156 := n1_; have BK148 := n2_; have BK149 := n3_; have BK150 := n4_; have HB := n5_; clear n0_ n1_ n2_ n3_ n4_ n5_; (try clear hb); (try clear hb2); (try clear hk); (try clear hi); (try clear ho0); obtain ⟨Ao18, co18, eo18⟩ := Kd.S_slice HO156.out; subst eo18; have hcz19_0 : w17.cell? ⟨gb150, 0, none⟩ = some (.slice Ao13 t151.length co13) := (bc BK150.out 0).trans rfl; have hcz19_1 : w17.cell? ⟨gb150, 1, none⟩ = some (.slice none 0 0) := (bc BK150.out 1).trans rfl; have hcz19_2 : w17.cell? ⟨gb150, 2, none⟩ = some (.slice none 0 0) := (bc BK150.out 2).trans rfl; have hcz19_3 : w17.cell? ⟨gb150, 3, none⟩ = some (.slice none 0 0) := (bc BK150.out 3).trans rfl; have hfz19_0 := bf BK150.out 0; have hfz19_1 := bf BK150.out 1; have hfz19_2 := bf BK150.out 2; have hfz19_3 := bf BK150.out 3; have hcz20_0 : w17.cell? ⟨gb148, 0, none⟩ = some (.slice A0_0 l0_0.length c0_0) := (bc BK148.out 0).trans rfl; have hcz20_1 : w17.cell? ⟨gb148, 1, none⟩ = some (.slice A0_1 l0_1.length c0_1) := (bc BK148.out 1).trans rfl; have hcz20_2 : w17.cell? ⟨gb148, 2, none⟩ = some (.slice A0_2 l0_2.length c0_2) := (bc BK148.out 2).trans rfl; have hcz20_3 : w17.cell? ⟨gb148, 3, none⟩ = some (.slice A0_3 l0_3.length c0_3) := (bc BK148.out 3).trans rfl; have hfz20_0 := bf BK148.out 0; have hfz20_1 := bf BK148.out 1; have hfz20_2 := bf BK148.out 2; have hfz20_3 := bf BK148.out 3) | ((with_reducible refine gate_callee (f := 27) rfl ?_); refine goesL_ (some 14) rfl rfl Try.func27 (by kernel_rfl) rfl #[.slice A0_2 l0_2.length c0_2] rfl (by (try simp only [List.map_toArray, List.map_cons, List.map_nil]); first | done | rfl | (simp only [List.length_drop, List.length_take]; rfl)) ?_; (with_reducible refine (laws_toInt64S.calls k _ _ l0_2 t157 _ ?side1 ?side2 A4.out).mono ?_); (case side1 => exact Kd.C_below HR0_2.out (by repeat (first | (with_reducible first | exact HB.out | apply pA | apply pN | apply pD | refine pS ?_ GE148.out | refine pS ?_ GE149.out | refine pS ?_ GE150.out) | exact HB.out))); (case side2 => exact HC0_2.out); rintro e w21 ⟨v158, rfl, ho0, hb⟩; refine ⟨_, rfl, ?_⟩; have n0_ := AZ.mk (Kd.S_elder' (by (with_reducible repeat (first | apply Kd.S_alloc | apply Kd.S_drewN | apply Kd.S_drew)); exact (Kd.S_mono (Kd.S_far (p := ⟨gb150, 1, none⟩) (Kd.S_types HO153.out BK150.out (by decide)) (fun _ hk => hk.2) (.slice Ao18 t154.length co18)) (fun _ h_ => h_.1))) (Kd.R_base ho0) hb); have n1_ := AZ.mk (Kd.S_elder' (by (with_reducible repeat (first | apply Kd.S_alloc | apply Kd.S_drewN | apply Kd.S_drew)); exact (Kd.S_mono (Kd.S_far (p := ⟨gb150, 1, none⟩) (Kd.S_types HO156.out BK150.out (by decide)) (fun _ hk => hk.2) (.slice Ao18 t154.length co18)) (fun _ h_ => h_.1))) (Kd.R_base ho0) hb); have n2_ := AZ.mk (Kd.R_lower ho0 (pZ (by repeat (first | (with_reducible first | exact HB.out | apply pA | apply pN | apply pD | refine pS ?_ GE148.out | refine pS ?_ GE149.out | refine pS ?_ GE150.out) | exact HB.out)))); have n3_ := AZ.mk (bb_ (g := gb148) (o := .cells #[.slice A0_0 l0_0.length c0_0, .slice A0_1 l0_1.length c0_1, .slice A0_2 l0_2.length c0_2, .slice A0_3 l0_3.length c0_3] 26 (0, 0)) (by (with_reducible repeat (first | refine bn_ ?_ _ | refine bd_ ?_ | refine ba_ ?_ _)); refine blk_far ?_ NB148_150.out _; (with_reducible repeat (first | refine bn_ ?_ _ | refine bd_ ?_ | refine ba_ ?_ _)); exact BK148.out) hb); have n4_ := AZ.mk (bb_ (g := gb149) (o := .cells #[.slice none 0 0, .slice none 0 0, .slice none 0 0, .slice none 0 0] 29 (0, 0)) (by (with_reducible repeat (first | refine bn_ ?_ _ | refine bd_ ?_ | refine ba_ ?_ _)); refine blk_far ?_ NB149_150.out _; (with_reducible repeat (first | refine bn_ ?_ _ | refine bd_ ?_ | refine ba_ ?_ _)); exact BK149.out) hb); have n5_ := AZ.mk (bb_ (g := gb150) (o := .cells #[.slice Ao13 t151.length co13, .slice Ao18 t154.length co18, .slice none 0 0, .slice none 0 0] 29 (0, 0)) (by (with_reducible repeat (first | refine bn_ ?_ _ | refine bd_ ?_ | refine ba_ ?_ _)); refine blk_put (cs := #[.slice Ao13 t151.length co13, .slice none 0 0, .slice none 0 0, .slice none 0 0]) ?_ 1 _ rfl; (with_reducible repeat (first | refine bn_ ?_ _ | refine bd_ ?_ | refine ba_ ?_ _)); exact BK150.out) hb); have n6_ := AZ.mk (pT (by repeat (first | (with_reducible first | exact HB.out | apply pA | apply pN | apply pD | refine pS ?_ GE148.out | refine pS ?_ GE149.out | refine pS ?_ GE150.out) | exact HB.out)) hb); clear HO153; clear HO156; clear BK148; clear BK149; clear BK150; clear HB; have HO153 := n0_; have HO156 := n1_; have HO159 := n2_; have BK148 := n3_; have BK149 := n4_; have BK150 := n5_; have HB := n6_; clear n0_ n1_ n2_ n3_ n4_ n5_ n6_; (try clear hb); (try clear hb2); (try clear hk); (try clear hi); (try clear ho0); obtain ⟨Ao22, co22, eo22⟩ := Kd.R_slice HO159.out; subst eo22; have hcz23_0 : w21.cell? ⟨gb150, 0, none⟩ = some (.slice Ao13 t151.length co13) := (bc BK150.out 0).trans rfl; have hcz23_1 : w21.cell? ⟨gb150, 1, none⟩ = some (.slice Ao18 t154.length co18) := (bc BK150.out 1).trans rfl; have hcz23_2 : w21.cell? ⟨gb150, 2, none⟩ = some (.slice none 0 0) := (bc BK150.out 2).trans rfl; have hcz23_3 : w21.cell? ⟨gb150, 3, none⟩ = some (.slice none 0 0) := (bc BK150.out 3).trans rfl; have hfz23_0 := bf BK150.out 0; have hfz23_1 := bf BK150.out 1; have hfz23_2 := bf BK150.out 2; have hfz23_3 := bf BK150.out 3; have hcz24_0 : w21.cell? ⟨gb148, 0, none⟩ = some (.slice A0_0 l0_0.length c0_0) := (bc BK148.out 0).trans rfl; have hcz24_1 : w21.cell? ⟨gb148, 1, none⟩ = some (.slice A0_1 l0_1.length c0_1) := (bc BK148.out 1).trans rfl; have hcz24_2 : w21.cell? ⟨gb148, 2, none⟩ = some (.slice A0_2 l0_2.length c0_2) := (bc BK148.out 2).trans rfl; have hcz24_3 : w21.cell? ⟨gb148, 3, none⟩ = some (.slice A0_3 l0_3.length c0_3) := (bc BK148.out 3).trans rfl; have hfz24_0 := bf BK148.out 0; have hfz24_1 := bf BK148.out 1; have hfz24_2 := bf BK148.out 2; have hfz24_3 := bf BK148.out 3) | ((with_reducible refine gate_callee (f := 28) rfl ?_); refine goesL_ (some 18) rfl rfl Try.func28 (by kernel_rfl) rfl #[.slice A0_3 l0_3.length c0_3] rfl (by (try simp only [List.map_toArray, List.map_cons, List.map_nil]); first | done | rfl | (simp only [List.length_drop, List.length_take]; rfl)) ?_; (with_reducible refine (laws_toBoolS.calls k _ _ l0_3 t160 _ ?side1 ?side2 A5.out).mono ?_); (case side1 => exact Kd.C_below HR0_3.out (by repeat (first | (with_reducible first | exact HB.out | apply pA | apply pN | apply pD | refine pS ?_ GE148.out | refine pS ?_ GE149.out | refine pS ?_ GE150.out) | exact HB.out))); (case side2 => exact HC0_3.out); rintro e w25 ⟨v161, rfl, ho0, hb⟩; refine ⟨_, rfl, ?_⟩; have n0_ := AZ.mk (Kd.S_below (by (with_reducible repeat (first | apply Kd.S_alloc | apply Kd.S_drewN | apply Kd.S_drew)); exact (Kd.S_mono (Kd.S_far (p := ⟨gb150, 2, none⟩) (Kd.S_types HO153.out BK150.out (by decide)) (fun _ hk => hk.2) (.slice Ao22 t157.length co22)) (fun _ h_ => h_.1))) hb); have n1_ := AZ.mk (Kd.S_below (by (with_reducible repeat (first | apply Kd.S_alloc | apply Kd.S_drewN | apply Kd.S_drew)); exact (Kd.S_mono (Kd.S_far (p := ⟨gb150, 2, none⟩) (Kd.S_types HO156.out BK150.out (by decide)) (fun _ hk => hk.2) (.slice Ao22 t157.length co22)) (fun _ h_ => h_.1))) hb); have n2_ := AZ.mk (Kd.R_below (by (with_reducible repeat (first | apply Kd.R_alloc | apply Kd.R_drewN | apply Kd.R_drew)); exact (Kd.R_mono (Kd.R_far (p := ⟨gb150, 2, none⟩) (Kd.R_types HO159.out BK150.out (by decide)) (fun _ hk => hk.2) (.slice Ao22 t157.length co22)) (fun _ h_ => h_.1))) hb); have n3_ := AZ.mk (Kd.R_lower ho0 (pZ (by repeat (first | (with_reducible first | exact HB.out | apply pA | apply pN | apply pD | refine pS ?_ GE148.out | refine pS ?_ GE149.out | refine pS ?_ GE150.out) | exact HB.out)))); have n4_ := AZ.mk (bb_ (g := gb148) (o := .cells #[.slice A0_0 l0_0.length c0_0, .slice A0_1 l0_1.length c0_1, .slice A0_2 l0_2.length c0_2, .slice A0_3 l0_3.length c0_3] 26 (0, 0)) (by (with_reducible repeat (first | refine bn_ ?_ _ | refine bd_ ?_ | refine ba_ ?_ _)); refine blk_far ?_ NB148_150.out _; (with_reducible repeat (first | refine bn_ ?_ _ | refine bd_ ?_ | refine ba_ ?_ _)); exact BK148.out) hb); have n5_ := AZ.mk (bb_ (g := gb149) (o := .cells #[.slice none 0 0, .slice none 0 0, .slice none 0 0, .slice none 0 0] 29 (0, 0)) (by (with_reducible repeat (first | refine bn_ ?_ _ | refine bd_ ?_ | refine ba_ ?_ _)); refine blk_far ?_ NB149_150.out _; (with_reducible repeat (first | refine bn_ ?_ _ | refine bd_ ?_ | refine ba_ ?_ _)); exact BK149.out) hb); have n6_ := AZ.mk (bb_ (g := gb150) (o := .cells #[.slice Ao13 t151.length co13, .slice Ao18 t154.length co18, .slice Ao22 t157.length co22, .slice none 0 0] 29 (0, 0)) (by (with_reducible repeat (first | refine bn_ ?_ _ | refine bd_ ?_ | refine ba_ ?_ _)); refine blk_put (cs := #[.slice Ao13 t151.length co13, .slice Ao18 t154.length co18, .slice none 0 0, .slice none 0 0]) ?_ 2 _ rfl; (with_reducible repeat (first | refine bn_ ?_ _ | refine bd_ ?_ | refine ba_ ?_ _)); exact BK150.out) hb); have n7_ := AZ.mk (pT (by repeat (first | (with_reducible first | exact HB.out | apply pA | apply pN | apply pD | refine pS ?_ GE148.out | refine pS ?_ GE149.out | refine pS ?_ GE150.out) | exact HB.out)) hb); clear HO153; clear HO156; clear HO159; clear BK148; clear BK149; clear BK150; clear HB; have HO153 := n0_; have HO156 := n1_; have HO159 := n2_; have HO162 := n3_; have BK148 := n4_; have BK149 := n5_; have BK150 := n6_; have HB := n7_; clear n0_ n1_ n2_ n3_ n4_ n5_ n6_ n7_; (try clear hb); (try clear hb2); (try clear hk); (try clear hi); (try clear ho0); obtain ⟨Ao26, co26, eo26⟩ := Kd.R_slice HO162.out; subst eo26; have hcz27_0 : w25.cell? ⟨gb150, 0, none⟩ = some (.slice Ao13 t151.length co13) := (bc BK150.out 0).trans rfl; have hcz27_1 : w25.cell? ⟨gb150, 1, none⟩ = some (.slice Ao18 t154.length co18) := (bc BK150.out 1).trans rfl; have hcz27_2 : w25.cell? ⟨gb150, 2, none⟩ = some (.slice Ao22 t157.length co22) := (bc BK150.out 2).trans rfl; have hcz27_3 : w25.cell? ⟨gb150, 3, none⟩ = some (.slice none 0 0) := (bc BK150.out 3).trans rfl; have hfz27_0 := bf BK150.out 0; have hfz27_1 := bf BK150.out 1; have hfz27_2 := bf BK150.out 2; have hfz27_3 := bf BK150.out 3; have hcz28_0 : w25.cell? ⟨gb149, 0, none⟩ = some (.slice none 0 0) := (bc BK149.out 0).trans rfl; have hcz28_1 : w25.cell? ⟨gb149, 1, none⟩ = some (.slice none 0 0) := (bc BK149.out 1).trans rfl; have hcz28_2 : w25.cell? ⟨gb149, 2, none⟩ = some (.slice none 0 0) := (bc BK149.out 2).trans rfl; have hcz28_3 : w25.cell? ⟨gb149, 3, none⟩ = some (.slice none 0 0) := (bc BK149.out 3).trans rfl; have hfz28_0 := bf BK149.out 0; have hfz28_1 := bf BK149.out 1; have hfz28_2 := bf BK149.out 2; have hfz28_3 := bf BK149.out 3))
 refine bodyPost_ret (results_cell_row rfl _ _ gb149 29 #[.slice Ao13 t151.length co13, .slice Ao18 t154.length co18, .slice Ao22 t157.length co22, .slice Ao26 t160.length co26] (0, 0) _ rfl (by (with_reducible repeat (first | refine bn_ ?_ _ | refine bd_ ?_ | refine ba_ ?_ _)); refine blk_put (cs := #[.slice Ao13 t151.length co13, .slice Ao18 t154.length co18, .slice Ao22 t157.length co22, .slice none 0 0]) ?_ 3 _ rfl; (with_reducible repeat (first | refine bn_ ?_ _ | refine bd_ ?_ | refine ba_ ?_ _)); refine blk_put (cs := #[.slice Ao13 t151.length co13, .slice Ao18 t154.length co18, .slice none 0 0, .slice none 0 0]) ?_ 2 _ rfl; (with_reducible repeat (first | refine bn_ ?_ _ | refine bd_ ?_ | refine ba_ ?_ _)); refine blk_put (cs := #[.slice Ao13 t151.length co13, .slice none 0 0, .slice none 0 0, .slice none 0 0]) ?_ 1 _ rfl; (with_reducible repeat (first | refine bn_ ?_ _ | refine bd_ ?_ | refine ba_ ?_ _)); refine blk_put (cs := #[.slice none 0 0, .slice none 0 0, .slice none 0 0, .slice none 0 0]) ?_ 0 _ rfl; (with_reducible repeat (first | refine bn_ ?_ _ | refine bd_ ?_ | refine ba_ ?_ _)); refine blk_far ?_ NB149_150.out _; (with_reducible repeat (first | refine bn_ ?_ _ | refine bd_ ?_ | refine ba_ ?_ _)); exact BK149.out) Try.underlying29 rfl (by kernel_rfl)) rfl ?_
 exact ⟨_, _, _, _, by first | rfl | (simp [errW_none, errW_some] <;> rfl) | (simp [*, errW_none, errW_some] <;> rfl), by (with_reducible repeat (first | apply Kd.S_alloc | apply Kd.S_drewN | apply Kd.S_drew)); exact Kd.S_mono (Kd.S_far (p := ⟨gb149, 3, none⟩) (Kd.S_far (p := ⟨gb149, 2, none⟩) (Kd.S_far (p := ⟨gb149, 1, none⟩) (Kd.S_far (p := ⟨gb149, 0, none⟩) (Kd.S_far (p := ⟨gb150, 3, none⟩) (Kd.S_types (Kd.S_types HO153.out BK150.out (by decide)) BK149.out (by decide)) (fun _ hk => hk.1.2) (.slice Ao26 t160.length co26)) (fun _ hk => hk.2) (.slice Ao13 t151.length co13)) (fun _ hk => hk.2) (.slice Ao18 t154.length co18)) (fun _ hk => hk.2) (.slice Ao22 t157.length co22)) (fun _ hk => hk.2) (.slice Ao26 t160.length co26)) (fun _ hk => ⟨hk.1.1.1.2, hk.1.1.2⟩), by (with_reducible repeat (first | apply Kd.S_alloc | apply Kd.S_drewN | apply Kd.S_drew)); exact Kd.S_mono (Kd.S_far (p := ⟨gb149, 3, none⟩) (Kd.S_far (p := ⟨gb149, 2, none⟩) (Kd.S_far (p := ⟨gb149, 1, none⟩) (Kd.S_far (p := ⟨gb149, 0, none⟩) (Kd.S_far (p := ⟨gb150, 3, none⟩) (Kd.S_types (Kd.S_types HO156.out BK150.out (by decide)) BK149.out (by decide)) (fun _ hk => hk.1.2) (.slice Ao26 t160.length co26)) (fun _ hk => hk.2) (.slice Ao13 t151.length co13)) (fun _ hk => hk.2) (.slice Ao18 t154.length co18)) (fun _ hk => hk.2) (.slice Ao22 t157.length co22)) (fun _ hk => hk.2) (.slice Ao26 t160.length co26)) (fun _ hk => ⟨hk.1.1.1.2, hk.1.1.2⟩), by (with_reducible repeat (first | apply Kd.R_alloc | apply Kd.R_drewN | apply Kd.R_drew)); exact Kd.R_mono (Kd.R_far (p := ⟨gb149, 3, none⟩) (Kd.R_far (p := ⟨gb149, 2, none⟩) (Kd.R_far (p := ⟨gb149, 1, none⟩) (Kd.R_far (p := ⟨gb149, 0, none⟩) (Kd.R_far (p := ⟨gb150, 3, none⟩) (Kd.R_types (Kd.R_types HO159.out BK150.out (by decide)) BK149.out (by decide)) (fun _ hk => hk.1.2) (.slice Ao26 t160.length co26)) (fun _ hk => hk.2) (.slice Ao13 t151.length co13)) (fun _ hk => hk.2) (.slice Ao18 t154.length co18)) (fun _ hk => hk.2) (.slice Ao22 t157.length co22)) (fun _ hk => hk.2) (.slice Ao26 t160.length co26)) (fun _ hk => trivial), by (with_reducible repeat (first | apply Kd.R_alloc | apply Kd.R_drewN | apply Kd.R_drew)); exact Kd.R_mono (Kd.R_far (p := ⟨gb149, 3, none⟩) (Kd.R_far (p := ⟨gb149, 2, none⟩) (Kd.R_far (p := ⟨gb149, 1, none⟩) (Kd.R_far (p := ⟨gb149, 0, none⟩) (Kd.R_far (p := ⟨gb150, 3, none⟩) (Kd.R_types (Kd.R_types HO162.out BK150.out (by decide)) BK149.out (by decide)) (fun _ hk => hk.1.2) (.slice Ao26 t160.length co26)) (fun _ hk => hk.2) (.slice Ao13 t151.length co13)) (fun _ hk => hk.2) (.slice Ao18 t154.length co18)) (fun _ hk => hk.2) (.slice Ao22 t157.length co22)) (fun _ hk => hk.2) (.slice Ao26 t160.length co26)) (fun _ hk => trivial), by repeat (first | (with_reducible first | exact HB.out | apply pA | apply pN | apply pD | refine pS ?_ GE148.out | refine pS ?_ GE149.out | refine pS ?_ GE150.out) | exact HB.out)⟩
end Go.Proofs.Ytgfilbgjnloopaa.P
namespace Go.Proofs.Ytgfilbgjnloopaa.P
open Go.RowKit Go.Proofs.YtgfilbgjnloopaaW.PrintWords Go.Proofs.YtgfilbgjnloopaaW.PrintLast Go.Proofs.YtgfilbgjnloopaaW.PrintMore
attribute [local go_sem] max2_int min2_int max_two min_two max_three min_three max_four min_four
set_option linter.unusedVariables false
set_option linter.unusedSimpArgs false
def laws_eqInt64S.l0 : Nat → List Int → List Int → Int → Option (Bool)
 | 0, _, _, _ => none
 | k + 1, x0, x1, x5 => if x5 < (x0.length : Int) then (if 0 ≤ x5 then (if x5 < (x1.length : Int) then (if (rd x0 x5) = (rd x1 x5) then (laws_eqInt64S.l0 k x0 x1 (wrap64 (x5 + 1))) else (some false)) else (none)) else (none)) else (some true)
def laws_eqInt64S.f (k : Nat) (l0 : List Int) (l1 : List Int) : Option (Bool) := if (l0.length : Int) = (l1.length : Int) then (laws_eqInt64S.l0 k l0 l1 0) else (some false)
set_option maxHeartbeats 8000000 in
set_option maxRecDepth 100000 in
theorem laws_eqInt64S.calls (k : Nat) (A0 : Option Addr) (c0 : Nat) (l0 : List Int) (A1 : Option Addr) (c1 : Nat) (l1 : List Int) (r : Bool) (w : World) (hr0 : Kd.C (Kd.int .i64) w A0 l0.length l0) (hc0 : l0.length ≤ c0) (hr1 : Kd.C (Kd.int .i64) w A1 l1.length l1) (hc1 : l1.length ≤ c1) (h : laws_eqInt64S.f k l0 l1 = some r) :
  Calls Try.prog 14 #[.slice A0 l0.length c0, .slice A1 l1.length c1] w fun e w' => e = .returned (.bool r) ∧ Drawn0 w w' := by
 have HR0 := AZ.mk hr0
 have HC0 := AZ.mk hc0
 clear hr0 hc0
 have HR1 := AZ.mk hr1
 have HC1 := AZ.mk hc1
 clear hr1 hc1
 have H : (if (l0.length : Int) = (l1.length : Int) then (laws_eqInt64S.l0 k l0 l1 0) else (some false)) = some r := h
 clear h
 by_cases c3 : (l0.length : Int) = (l1.length : Int)
 rotate_left
 ·rw [if_neg c3] at H
  have c3b0 : ((l0.length : Int) == (l1.length : Int)) = false := beq_eq_false_iff_ne.mpr c3
  have c3b1 : ((l0.length : Int) != (l1.length : Int)) = true := bne_iff_ne.mpr c3
  have c3b2 : (l0.length == l1.length) = false := by first | simpa using c3 | (simp at c3 ⊢; omega)
  obtain rfl := Option.some.inj H
  go_enter Try.func14, Try.ntmps14
  go_wp2
  repeat (go_quiet (fail); try go_wp2)
  go_ret
  exact ⟨by first | rfl | (simp; done) | (simp [*]; done), by repeat (first | exact Drawn0.refl _ | apply Drawn0.step)⟩
 rw [if_pos c3] at H
 have c3b0 : ((l0.length : Int) == (l1.length : Int)) = true := beq_iff_eq.mpr c3
 have c3b1 : ((l0.length : Int) != (l1.length : Int)) = false := bne_eq_false_iff_eq.mpr c3
 have c3b2 : (l0.length == l1.length) = true := by first | simpa using c3 | (simp at c3 ⊢; omega)
 clear c3
 have H' := AZ.mk H
 clear H
 go_enter Try.func14, Try.ntmps14
 go_wp2
 repeat (go_quiet (fail); try go_wp2)
 go_loopg [5] k (fun kq v5 w' => ∃ (x5_1 : Int), v5 = .int .i64 x5_1 ∧ AZ (laws_eqInt64S.l0 kq l0 l1 x5_1 = some r) ∧ AZ (kq ≤ k) ∧ Drawn0 w w')
 case atStart => exact ⟨(0), (by first | rfl | (simp; done) | (simp [*]; done)), H', ⟨Nat.le_refl _⟩, by repeat (first | exact Drawn0.refl _ | apply Drawn0.step)⟩
 case round =>
  clear H'
  try clear c1
  try clear p2
  try clear c3
  try clear c3b0
  try clear c3b1
  try clear c3b2
  obtain ⟨x5_1, rfl, HA, HK1, ⟨m1, rfl⟩⟩ := hrel
  cases gk with
  | zero => exact absurd HA.out (by simp [laws_eqInt64S.l0])
  | succ k1 =>
   have H := HA.out
   clear HA
   simp only [laws_eqInt64S.l0] at H
   by_cases c4 : x5_1 < (l0.length : Int)
   rotate_left
   ·rw [if_neg c4] at H
    have c4b0 : decide (x5_1 < (l0.length : Int)) = false := decide_eq_false c4
    clear c4
    obtain rfl := Option.some.inj H
    go_wp2
    repeat (go_quiet (fail); try go_wp2)
    go_ret
    exact ⟨by first | rfl | (simp; done) | (simp [*]; done), by repeat (first | exact Drawn0.refl _ | apply Drawn0.step)⟩
   rw [if_pos c4] at H
   have c4b0 : decide (x5_1 < (l0.length : Int)) = true := decide_eq_true c4
   clear c4
   by_cases c5 : 0 ≤ x5_1
   rotate_left
   ·rw [if_neg c5] at H
    exact absurd H (by simp)
   rw [if_pos c5] at H
   have c5b0 : decide (0 ≤ x5_1) = true := decide_eq_true c5
   clear c5
   by_cases c6 : x5_1 < (l1.length : Int)
   rotate_left
   ·rw [if_neg c6] at H
    exact absurd H (by simp)
   rw [if_pos c6] at H
   have c6b0 : decide (x5_1 < (l1.length : Int)) = true := decide_eq_true c6
   clear c6
   by_cases c7 : (rd l0 x5_1) = (rd l1 x5_1)
   rotate_left
   ·rw [if_neg c7] at H
    have c7b0 : ((rd l0 x5_1) == (rd l1 x5_1)) = false := beq_eq_false_iff_ne.mpr c7
    have c7b1 : ((rd l0 x5_1) != (rd l1 x5_1)) = true := bne_iff_ne.mpr c7
    obtain rfl := Option.some.inj H
    have p166 : 0 ≤ (x5_1 : Int) := oT (by first | (with_reducible assumption) | assumption)
    have q166 : x5_1 < (l0.length : Int) := oT (by first | (with_reducible assumption) | assumption)
    obtain ⟨ad166, e166, hx166_0⟩ := Kd.at_int HR0.out x5_1 p166 q166
    cases e166
    replace p166 := eq_true p166
    replace q166 := eq_true q166
    have p167 : 0 ≤ (x5_1 : Int) := oT (by first | (with_reducible assumption) | assumption)
    have q167 : x5_1 < (l1.length : Int) := oT (by first | (with_reducible assumption) | assumption)
    obtain ⟨ad167, e167, hx167_0⟩ := Kd.at_int HR1.out x5_1 p167 q167
    cases e167
    replace p167 := eq_true p167
    replace q167 := eq_true q167
    go_wp2
    repeat (go_quiet (fail); try go_wp2)
    go_ret
    exact ⟨by first | rfl | (simp; done) | (simp [*]; done), by repeat (first | exact Drawn0.refl _ | apply Drawn0.step)⟩
   rw [if_pos c7] at H
   have c7b0 : ((rd l0 x5_1) == (rd l1 x5_1)) = true := beq_iff_eq.mpr c7
   have c7b1 : ((rd l0 x5_1) != (rd l1 x5_1)) = false := bne_eq_false_iff_eq.mpr c7
   clear c7
   have H' := AZ.mk H
   clear H
   have p166 : 0 ≤ (x5_1 : Int) := oT (by first | (with_reducible assumption) | assumption)
   have q166 : x5_1 < (l0.length : Int) := oT (by first | (with_reducible assumption) | assumption)
   obtain ⟨ad166, e166, hx166_0⟩ := Kd.at_int HR0.out x5_1 p166 q166
   cases e166
   replace p166 := eq_true p166
   replace q166 := eq_true q166
   have p167 : 0 ≤ (x5_1 : Int) := oT (by first | (with_reducible assumption) | assumption)
   have q167 : x5_1 < (l1.length : Int) := oT (by first | (with_reducible assumption) | assumption)
   obtain ⟨ad167, e167, hx167_0⟩ := Kd.at_int HR1.out x5_1 p167 q167
   cases e167
   replace p167 := eq_true p167
   replace q167 := eq_true q167
   go_wp2
   repeat (go_quiet (fail); try go_wp2)
   go_roundg k1
   case measure => have := HK1.out; omega
   case rel => exact ⟨(wrap64 (x5_1 + 1)), (by first | rfl | (simp; done) | (simp [*]; done)), H', ⟨by have := HK1.out; omega⟩, by repeat (first | exact Drawn0.refl _ | apply Drawn0.step)⟩
end Go.Proofs.Ytgfilbgjnloopaa.P
namespace Go.Proofs.Ytgfilbgjnloopaa.P
open Go.RowKit Go.Proofs.YtgfilbgjnloopaaW.PrintWords Go.Proofs.YtgfilbgjnloopaaW.PrintLast Go.Proofs.YtgfilbgjnloopaaW.PrintMore
attribute [local go_sem] max2_int min2_int max_two min_two max_three min_three max_four min_four
set_option linter.unusedVariables false
set_option linter.unusedSimpArgs false
def laws_eqInt64SS.l0 : Nat → List (List Int) → List (List Int) → Int → Option (Bool)
 | 0, _, _, _ => none
 | k + 1, x0, x1, x5 => if x5 < (x0.length : Int) then (if 0 ≤ x5 then (if x5 < (x1.length : Int) then ((laws_eqInt64S.f k (rd_L1 x0 x5) (rd_L1 x1 x5)).bind fun t170 => (if t170 = true then (laws_eqInt64SS.l0 k x0 x1 (wrap64 (x5 + 1))) else (some false))) else (none)) else (none)) else (some true)
def laws_eqInt64SS.f (k : Nat) (l0 : List (List Int)) (l1 : List (List Int)) : Option (Bool) := if (l0.length : Int) = (l1.length : Int) then (laws_eqInt64SS.l0 k l0 l1 0) else (some false)
set_option maxHeartbeats 8000000 in
set_option maxRecDepth 100000 in
theorem laws_eqInt64SS.calls (k : Nat) (A0 : Option Addr) (c0 : Nat) (l0 : List (List Int)) (A1 : Option Addr) (c1 : Nat) (l1 : List (List Int)) (r : Bool) (w : World) (hr0 : Kd.C (Kd.slice 2 (Kd.int .i64)) w A0 l0.length l0) (hc0 : l0.length ≤ c0) (hr1 : Kd.C (Kd.slice 2 (Kd.int .i64)) w A1 l1.length l1) (hc1 : l1.length ≤ c1) (h : laws_eqInt64SS.f k l0 l1 = some r) :
  Calls Try.prog 39 #[.slice A0 l0.length c0, .slice A1 l1.length c1] w fun e w' => e = .returned (.bool r) ∧ Drawn0 w w' := by
 have HR0 := AZ.mk hr0
 have HC0 := AZ.mk hc0
 clear hr0 hc0
 have HR1 := AZ.mk hr1
 have HC1 := AZ.mk hc1
 clear hr1 hc1
 have H : (if (l0.length : Int) = (l1.length : Int) then (laws_eqInt64SS.l0 k l0 l1 0) else (some false)) = some r := h
 clear h
 by_cases c3 : (l0.length : Int) = (l1.length : Int)
 rotate_left
 ·rw [if_neg c3] at H
  have c3b0 : ((l0.length : Int) == (l1.length : Int)) = false := beq_eq_false_iff_ne.mpr c3
  have c3b1 : ((l0.length : Int) != (l1.length : Int)) = true := bne_iff_ne.mpr c3
  have c3b2 : (l0.length == l1.length) = false := by first | simpa using c3 | (simp at c3 ⊢; omega)
  obtain rfl := Option.some.inj H
  go_enter Try.func39, Try.ntmps39
  go_wp2
  repeat (go_quiet (fail); try go_wp2)
  go_ret
  exact ⟨by first | rfl | (simp; done) | (simp [*]; done), by repeat (first | exact Drawn0.refl _ | apply Drawn0.step)⟩
 rw [if_pos c3] at H
 have c3b0 : ((l0.length : Int) == (l1.length : Int)) = true := beq_iff_eq.mpr c3
 have c3b1 : ((l0.length : Int) != (l1.length : Int)) = false := bne_eq_false_iff_eq.mpr c3
 have c3b2 : (l0.length == l1.length) = true := by first | simpa using c3 | (simp at c3 ⊢; omega)
 clear c3
 have H' := AZ.mk H
 clear H
 go_enter Try.func39, Try.ntmps39
 go_wp2
 repeat (go_quiet (fail); try go_wp2)
 go_loopg [5] k (fun kq v5 w' => ∃ (x5_1 : Int), v5 = .int .i64 x5_1 ∧ AZ (laws_eqInt64SS.l0 kq l0 l1 x5_1 = some r) ∧ AZ (kq ≤ k) ∧ Drawn0 w w')
 case atStart => exact ⟨(0), (by first | rfl | (simp; done) | (simp [*]; done)), H', ⟨Nat.le_refl _⟩, by repeat (first | exact Drawn0.refl _ | apply Drawn0.step)⟩
 case round =>
  clear H'
  try clear c1
  try clear p2
  try clear c3
  try clear c3b0
  try clear c3b1
  try clear c3b2
  obtain ⟨x5_1, rfl, HA, HK1, ⟨m1, rfl⟩⟩ := hrel
  cases gk with
  | zero => exact absurd HA.out (by simp [laws_eqInt64SS.l0])
  | succ k1 =>
   have H := HA.out
   clear HA
   simp only [laws_eqInt64SS.l0] at H
   by_cases c4 : x5_1 < (l0.length : Int)
   rotate_left
   ·rw [if_neg c4] at H
    have c4b0 : decide (x5_1 < (l0.length : Int)) = false := decide_eq_false c4
    clear c4
    obtain rfl := Option.some.inj H
    go_wp2
    repeat (go_quiet (fail); try go_wp2)
    go_ret
    exact ⟨by first | rfl | (simp; done) | (simp [*]; done), by repeat (first | exact Drawn0.refl _ | apply Drawn0.step)⟩
   rw [if_pos c4] at H
   have c4b0 : decide (x5_1 < (l0.length : Int)) = true := decide_eq_true c4
   clear c4
   by_cases c5 : 0 ≤ x5_1
   rotate_left
   ·rw [if_neg c5] at H
    exact absurd H (by simp)
   rw [if_pos c5] at H
   have c5b0 : decide (0 ≤ x5_1) = true := decide_eq_true c5
   clear c5
   by_cases c6 : x5_1 < (l1.length : Int)
   rotate_left
   ·rw [if_neg c6] at H
    exact absurd H (by simp)
   rw [if_pos c6] at H
   have c6b0 : decide (x5_1 < (l1.length : Int)) = true := decide_eq_true c6
   clear c6
   replace H := Option.bind_eq_some_iff.mp H
   obtain ⟨t170, A70, H⟩ := H
   replace H : (if t170 = true then (laws_eqInt64SS.l0 k1 l0 l1 (wrap64 (x5_1 + 1))) else (some false)) = some r := H
   have A7 := AZ.mk A70
   clear A70
   by_cases c8 : t170 = true
   rotate_left
   ·replace c8 := Bool.eq_false_iff.mpr c8
    subst c8
    have H1 : (some false) = some r := by rw [if_neg (show ¬ (false = true) by decide)] at H; exact H
    clear H
    have H := H1
    clear H1
    obtain rfl := Option.some.inj H
    have p168 : 0 ≤ (x5_1 : Int) := oT (by first | (with_reducible assumption) | assumption)
    have q168 : x5_1 < (l0.length : Int) := oT (by first | (with_reducible assumption) | assumption)
    obtain ⟨ad168, A168_0, c168_0, e168, hx168_0, hl168_0, hi168_0⟩ := at_L1 HR0.out x5_1 p168 q168
    cases e168
    have HR168_0 := AZ.mk hi168_0
    have HC168_0 := AZ.mk hl168_0
    clear hi168_0 hl168_0
    replace p168 := eq_true p168
    replace q168 := eq_true q168
    have p169 : 0 ≤ (x5_1 : Int) := oT (by first | (with_reducible assumption) | assumption)
    have q169 : x5_1 < (l1.length : Int) := oT (by first | (with_reducible assumption) | assumption)
    obtain ⟨ad169, A169_0, c169_0, e169, hx169_0, hl169_0, hi169_0⟩ := at_L1 HR1.out x5_1 p169 q169
    cases e169
    have HR169_0 := AZ.mk hi169_0
    have HC169_0 := AZ.mk hl169_0
    clear hi169_0 hl169_0
    replace p169 := eq_true p169
    replace q169 := eq_true q169
    go_wp2_with (first | (go_at_call 14; (with_reducible refine (laws_eqInt64S.calls k1 _ _ (rd_L1 l0 x5_1) _ _ (rd_L1 l1 x5_1) false _ ?side1 ?side2 ?side3 ?side4 A7.out).mono ?_); (case side1 => repeat (first | exact HR168_0.out | (with_reducible refine Kd.C_alloc ?_ _) | (with_reducible refine Kd.C_drewN ?_ _) | (with_reducible refine Kd.C_drew ?_))); (case side2 => exact HC168_0.out); (case side3 => repeat (first | exact HR169_0.out | (with_reducible refine Kd.C_alloc ?_ _) | (with_reducible refine Kd.C_drewN ?_ _) | (with_reducible refine Kd.C_drew ?_))); (case side4 => exact HC169_0.out); rintro e w' ⟨rfl, ⟨nd, rfl⟩⟩; (try first | exact ⟨rfl, _, World.drewN_drewN _ _ _⟩ | exact ⟨rfl, _, Eq.trans (World.drewN_drewN _ _ _) (congrArg (World.drewN _) (Nat.add_assoc _ _ _))⟩)))
    repeat (go_quiet (first | (go_at_call 14; (with_reducible refine (laws_eqInt64S.calls k1 _ _ (rd_L1 l0 x5_1) _ _ (rd_L1 l1 x5_1) false _ ?side1 ?side2 ?side3 ?side4 A7.out).mono ?_); (case side1 => repeat (first | exact HR168_0.out | (with_reducible refine Kd.C_alloc ?_ _) | (with_reducible refine Kd.C_drewN ?_ _) | (with_reducible refine Kd.C_drew ?_))); (case side2 => exact HC168_0.out); (case side3 => repeat (first | exact HR169_0.out | (with_reducible refine Kd.C_alloc ?_ _) | (with_reducible refine Kd.C_drewN ?_ _) | (with_reducible refine Kd.C_drew ?_))); (case side4 => exact HC169_0.out); rintro e w' ⟨rfl, ⟨nd, rfl⟩⟩; (try first | exact ⟨rfl, _, World.drewN_drewN _ _ _⟩ | exact ⟨rfl, _, Eq.trans (World.drewN_drewN _ _ _) (congrArg (World.drewN _) (Nat.add_assoc _ _ _))⟩))); try go_wp2_with (first | (go_at_call 14; (with_reducible refine (laws_eqInt64S.calls k1 _ _ (rd_L1 l0 x5_1) _ _ (rd_L1 l1 x5_1) false _ ?side1 ?side2 ?side3 ?side4 A7.out).mono ?_); (case side1 => repeat (first | exact HR168_0.out | (with_reducible refine Kd.C_alloc ?_ _) | (with_reducible refine Kd.C_drewN ?_ _) | (with_reducible refine Kd.C_drew ?_))); (case side2 => exact HC168_0.out); (case side3 => repeat (first | exact HR169_0.out | (with_reducible refine Kd.C_alloc ?_ _) | (with_reducible refine Kd.C_drewN ?_ _) | (with_reducible refine Kd.C_drew ?_))); (case side4 => exact HC169_0.out); rintro e w' ⟨rfl, ⟨nd, rfl⟩⟩; (try first | exact ⟨rfl, _, World.drewN_drewN _ _ _⟩ | exact ⟨rfl, _, Eq.trans (World.drewN_drewN _ _ _) (congrArg (World.drewN _) (Nat.add_assoc _ _ _))⟩))))
    go_ret
    exact ⟨by first | rfl | (simp; done) | (simp [*]; done), by repeat (first | exact Drawn0.refl _ | apply Drawn0.step)⟩
   subst c8
   have H1 : (laws_eqInt64SS.l0 k1 l0 l1 (wrap64 (x5_1 + 1))) = some r := by rw [if_pos rfl] at H; exact H
   clear H
   have H := H1
   clear H1
   have H' := AZ.mk H
   clear H
   have p168 : 0 ≤ (x5_1 : Int) := oT (by first | (with_reducible assumption) | assumption)
   have q168 : x5_1 < (l0.length : Int) := oT (by first | (with_reducible assumption) | assumption)
   obtain ⟨ad168, A168_0, c168_0, e168, hx168_0, hl168_0, hi168_0⟩ := at_L1 HR0.out x5_1 p168 q168
   cases e168
   have HR168_0 := AZ.mk hi168_0
   have HC168_0 := AZ.mk hl168_0
   clear hi168_0 hl168_0
   replace p168 := eq_true p168
   replace q168 := eq_true q168
   have p169 : 0 ≤ (x5_1 : Int) := oT (by first | (with_reducible assumption) | assumption)
   have q169 : x5_1 < (l1.length : Int) := oT (by first | (with_reducible assumption) | assumption)
   obtain ⟨ad169, A169_0, c169_0, e169, hx169_0, hl169_0, hi169_0⟩ := at_L1 HR1.out x5_1 p169 q169
   cases e169
   have HR169_0 := AZ.mk hi169_0
   have HC169_0 := AZ.mk hl169_0
   clear hi169_0 hl169_0
   replace p169 := eq_true p169
   replace q169 := eq_true q169
   go_wp2_with (first | (go_at_call 14; (with_reducible refine (laws_eqInt64S.calls k1 _ _ (rd_L1 l0 x5_1) _ _ (rd_L1 l1 x5_1) true _ ?side1 ?side2 ?side3 ?side4 A7.out).mono ?_); (case side1 => repeat (first | exact HR168_0.out | (with_reducible refine Kd.C_alloc ?_ _) | (with_reducible refine Kd.C_drewN ?_ _) | (with_reducible refine Kd.C_drew ?_))); (case side2 => exact HC168_0.out); (case side3 => repeat (first | exact HR169_0.out | (with_reducible refine Kd.C_alloc ?_ _) | (with_reducible refine Kd.C_drewN ?_ _) | (with_reducible refine Kd.C_drew ?_))); (case side4 => exact HC169_0.out); rintro e w' ⟨rfl, ⟨nd, rfl⟩⟩; (try first | exact ⟨rfl, _, World.drewN_drewN _ _ _⟩ | exact ⟨rfl, _, Eq.trans (World.drewN_drewN _ _ _) (congrArg (World.drewN _) (Nat.add_assoc _ _ _))⟩)))
   repeat (go_quiet (first | (go_at_call 14; (with_reducible refine (laws_eqInt64S.calls k1 _ _ (rd_L1 l0 x5_1) _ _ (rd_L1 l1 x5_1) true _ ?side1 ?side2 ?side3 ?side4 A7.out).mono ?_); (case side1 => repeat (first | exact HR168_0.out | (with_reducible refine Kd.C_alloc ?_ _) | (with_reducible refine Kd.C_drewN ?_ _) | (with_reducible refine Kd.C_drew ?_))); (case side2 => exact HC168_0.out); (case side3 => repeat (first | exact HR169_0.out | (with_reducible refine Kd.C_alloc ?_ _) | (with_reducible refine Kd.C_drewN ?_ _) | (with_reducible refine Kd.C_drew ?_))); (case side4 => exact HC169_0.out); rintro e w' ⟨rfl, ⟨nd, rfl⟩⟩; (try first | exact ⟨rfl, _, World.drewN_drewN _ _ _⟩ | exact ⟨rfl, _, Eq.trans (World.drewN_drewN _ _ _) (congrArg (World.drewN _) (Nat.add_assoc _ _ _))⟩))); try go_wp2_with (first | (go_at_call 14; (with_reducible refine (laws_eqInt64S.calls k1 _ _ (rd_L1 l0 x5_1) _ _ (rd_L1 l1 x5_1) true _ ?side1 ?side2 ?side3 ?side4 A7.out).mono ?_); (case side1 => repeat (first | exact HR168_0.out | (with_reducible refine Kd.C_alloc ?_ _) | (with_reducible refine Kd.C_drewN ?_ _) | (with_reducible refine Kd.C_drew ?_))); (case side2 => exact HC168_0.out); (case side3 => repeat (first | exact HR169_0.out | (with_reducible refine Kd.C_alloc ?_ _) | (with_reducible refine Kd.C_drewN ?_ _) | (with_reducible refine Kd.C_drew ?_))); (case side4 => exact HC169_0.out); rintro e w' ⟨rfl, ⟨nd, rfl⟩⟩; (try first | exact ⟨rfl, _, World.drewN_drewN _ _ _⟩ | exact ⟨rfl, _, Eq.trans (World.drewN_drewN _ _ _) (congrArg (World.drewN _) (Nat.add_assoc _ _ _))⟩))))
   go_roundg k1
   case measure => have := HK1.out; omega
   case rel => exact ⟨(wrap64 (x5_1 + 1)), (by first | rfl | (simp; done) | (simp [*]; done)), H', ⟨by have := HK1.out; omega⟩, by repeat (first | exact Drawn0.refl _ | apply Drawn0.step)⟩
end Go.Proofs.Ytgfilbgjnloopaa.P
namespace Go.Proofs.Ytgfilbgjnloopaa.P
open Go.RowKit Go.Proofs.YtgfilbgjnloopaaW.PrintWords Go.Proofs.YtgfilbgjnloopaaW.PrintLast Go.Proofs.YtgfilbgjnloopaaW.PrintMore
attribute [local go_sem] max2_int min2_int max_two min_two max_three min_three max_four min_four
set_option linter.unusedVariables false
set_option linter.unusedSimpArgs false
def laws_eqBoolS.l0 : Nat → List Bool → List Bool → Int → Option (Bool)
 | 0, _, _, _ => none
 | k + 1, x0, x1, x5 => if x5 < (x0.length : Int) then (if 0 ≤ x5 then (if x5 < (x1.length : Int) then (if ((rdOf false x0 x5) != (rdOf false x1 x5)) = true then (some false) else (laws_eqBoolS.l0 k x0 x1 (wrap64 (x5 + 1)))) else (none)) else (none)) else (some true)
def laws_eqBoolS.f (k : Nat) (l0 : List Bool) (l1 : List Bool) : Option (Bool) := if (l0.length : Int) = (l1.length : Int) then (laws_eqBoolS.l0 k l0 l1 0) else (some false)
set_option maxHeartbeats 8000000 in
set_option maxRecDepth 100000 in
theorem laws_eqBoolS.calls (k : Nat) (A0 : Option Addr) (c0 : Nat) (l0 : List Bool) (A1 : Option Addr) (c1 : Nat) (l1 : List Bool) (r : Bool) (w : World) (hr0 : Kd.C Kd.bool w A0 l0.length l0) (hc0 : l0.length ≤ c0) (hr1 : Kd.C Kd.bool w A1 l1.length l1) (hc1 : l1.length ≤ c1) (h : laws_eqBoolS.f k l0 l1 = some r) :
  Calls Try.prog 40 #[.slice A0 l0.length c0, .slice A1 l1.length c1] w fun e w' => e = .returned (.bool r) ∧ Drawn0 w w' := by
 have HR0 := AZ.mk hr0
 have HC0 := AZ.mk hc0
 clear hr0 hc0
 have HR1 := AZ.mk hr1
 have HC1 := AZ.mk hc1
 clear hr1 hc1
 have H : (if (l0.length : Int) = (l1.length : Int) then (laws_eqBoolS.l0 k l0 l1 0) else (some false)) = some r := h
 clear h
 by_cases c3 : (l0.length : Int) = (l1.length : Int)
 rotate_left
 ·rw [if_neg c3] at H
  have c3b0 : ((l0.length : Int) == (l1.length : Int)) = false := beq_eq_false_iff_ne.mpr c3
  have c3b1 : ((l0.length : Int) != (l1.length : Int)) = true := bne_iff_ne.mpr c3
  have c3b2 : (l0.length == l1.length) = false := by first | simpa using c3 | (simp at c3 ⊢; omega)
  obtain rfl := Option.some.inj H
  go_enter Try.func40, Try.ntmps40
  go_wp2
  repeat (go_quiet (fail); try go_wp2)
  go_ret
  exact ⟨by first | rfl | (simp; done) | (simp [*]; done), by repeat (first | exact Drawn0.refl _ | apply Drawn0.step)⟩
 rw [if_pos c3] at H
 have c3b0 : ((l0.length : Int) == (l1.length : Int)) = true := beq_iff_eq.mpr c3
 have c3b1 : ((l0.length : Int) != (l1.length : Int)) = false := bne_eq_false_iff_eq.mpr c3
 have c3b2 : (l0.length == l1.length) = true := by first | simpa using c3 | (simp at c3 ⊢; omega)
 clear c3
 have H' := AZ.mk H
 clear H
 go_enter Try.func40, Try.ntmps40
 go_wp2
 repeat (go_quiet (fail); try go_wp2)
 go_loopg [5] k (fun kq v5 w' => ∃ (x5_1 : Int), v5 = .int .i64 x5_1 ∧ AZ (laws_eqBoolS.l0 kq l0 l1 x5_1 = some r) ∧ AZ (kq ≤ k) ∧ Drawn0 w w')
 case atStart => exact ⟨(0), (by first | rfl | (simp; done) | (simp [*]; done)), H', ⟨Nat.le_refl _⟩, by repeat (first | exact Drawn0.refl _ | apply Drawn0.step)⟩
 case round =>
  clear H'
  try clear c1
  try clear p2
  try clear c3
  try clear c3b0
  try clear c3b1
  try clear c3b2
  obtain ⟨x5_1, rfl, HA, HK1, ⟨m1, rfl⟩⟩ := hrel
  cases gk with
  | zero => exact absurd HA.out (by simp [laws_eqBoolS.l0])
  | succ k1 =>
   have H := HA.out
   clear HA
   simp only [laws_eqBoolS.l0] at H
   by_cases c4 : x5_1 < (l0.length : Int)
   rotate_left
   ·rw [if_neg c4] at H
    have c4b0 : decide (x5_1 < (l0.length : Int)) = false := decide_eq_false c4
    clear c4
    obtain rfl := Option.some.inj H
    go_wp2
    repeat (go_quiet (fail); try go_wp2)
    go_ret
    exact ⟨by first | rfl | (simp; done) | (simp [*]; done), by repeat (first | exact Drawn0.refl _ | apply Drawn0.step)⟩
   rw [if_pos c4] at H
   have c4b0 : decide (x5_1 < (l0.length : Int)) = true := decide_eq_true c4
   clear c4
   by_cases c5 : 0 ≤ x5_1
   rotate_left
   ·rw [if_neg c5] at H
    exact absurd H (by simp)
   rw [if_pos c5] at H
   have c5b0 : decide (0 ≤ x5_1) = true := decide_eq_true c5
   clear c5
   by_cases c6 : x5_1 < (l1.length : Int)
   rotate_left
   ·rw [if_neg c6] at H
    exact absurd H (by simp)
   rw [if_pos c6] at H
   have c6b0 : decide (x5_1 < (l1.length : Int)) = true := decide_eq_true c6
   clear c6
   by_cases c7 : ((rdOf false l0 x5_1) != (rdOf false l1 x5_1)) = true
   ·rw [if_pos c7] at H
    have c7b0 : ((rdOf false l0 x5_1) != (rdOf false l1 x5_1)) = true := c7
    (try (have c7b1 : decide ((rdOf false l0 x5_1) = (rdOf false l1 x5_1)) = false := by simpa using c7))
    (try (have c7b2 : ((rdOf false l0 x5_1) == (rdOf false l1 x5_1)) = false := by simpa using c7))
    (try (have c7b3 : ¬ ((rdOf false l0 x5_1) = (rdOf false l1 x5_1)) := by simpa using c7))
    clear c7
    obtain rfl := Option.some.inj H
    have p171 : 0 ≤ (x5_1 : Int) := oT (by first | (with_reducible assumption) | assumption)
    have q171 : x5_1 < (l0.length : Int) := oT (by first | (with_reducible assumption) | assumption)
    obtain ⟨ad171, e171, hx171_0⟩ := Kd.at_bool HR0.out x5_1 p171 q171
    cases e171
    replace p171 := eq_true p171
    replace q171 := eq_true q171
    have p172 : 0 ≤ (x5_1 : Int) := oT (by first | (with_reducible assumption) | assumption)
    have q172 : x5_1 < (l1.length : Int) := oT (by first | (with_reducible assumption) | assumption)
    obtain ⟨ad172, e172, hx172_0⟩ := Kd.at_bool HR1.out x5_1 p172 q172
    cases e172
    replace p172 := eq_true p172
    replace q172 := eq_true q172
    go_wp2
    repeat (go_quiet (fail); try go_wp2)
    go_ret
    exact ⟨by first | rfl | (simp; done) | (simp [*]; done), by repeat (first | exact Drawn0.refl _ | apply Drawn0.step)⟩
   rw [if_neg c7] at H
   have c7b0 : ((rdOf false l0 x5_1) != (rdOf false l1 x5_1)) = false := by simpa using c7
   (try (have c7b1 : decide ((rdOf false l0 x5_1) = (rdOf false l1 x5_1)) = true := by simpa using c7))
   (try (have c7b2 : ((rdOf false l0 x5_1) == (rdOf false l1 x5_1)) = true := by simpa using c7))
   clear c7
   have H' := AZ.mk H
   clear H
   have p171 : 0 ≤ (x5_1 : Int) := oT (by first | (with_reducible assumption) | assumption)
   have q171 : x5_1 < (l0.length : Int) := oT (by first | (with_reducible assumption) | assumption)
   obtain ⟨ad171, e171, hx171_0⟩ := Kd.at_bool HR0.out x5_1 p171 q171
   cases e171
   replace p171 := eq_true p171
   replace q171 := eq_true q171
   have p172 : 0 ≤ (x5_1 : Int) := oT (by first | (with_reducible assumption) | assumption)
   have q172 : x5_1 < (l1.length : Int) := oT (by first | (with_reducible assumption) | assumption)
   obtain ⟨ad172, e172, hx172_0⟩ := Kd.at_bool HR1.out x5_1 p172 q172
   cases e172
   replace p172 := eq_true p172
   replace q172 := eq_true q172
   go_wp2
   repeat (go_quiet (fail); try go_wp2)
   go_roundg k1
   case measure => have := HK1.out; omega
   case rel => exact ⟨(wrap64 (x5_1 + 1)), (by first | rfl | (simp; done) | (simp [*]; done)), H', ⟨by have := HK1.out; omega⟩, by repeat (first | exact Drawn0.refl _ | apply Drawn0.step)⟩
end Go.Proofs.Ytgfilbgjnloopaa.P
namespace Go.Proofs.Ytgfilbgjnloopaa.P
open Go.RowKit Go.Proofs.YtgfilbgjnloopaaW.PrintWords Go.Proofs.YtgfilbgjnloopaaW.PrintLast Go.Proofs.YtgfilbgjnloopaaW.PrintMore
attribute [local go_sem] max2_int min2_int max_two min_two max_three min_three max_four min_four
set_option linter.unusedVariables false
set_option linter.unusedSimpArgs false
def laws_eqAlgebra.f (k : Nat) (l0_0 : List (List Int)) (l0_1 : List (List Int)) (l0_2 : List Int) (l0_3 : List Bool) (l1_0 : List (List Int)) (l1_1 : List (List Int)) (l1_2 : List Int) (l1_3 : List Bool) : Option (Bool) := (laws_eqInt64SS.f k l0_0 l1_0).bind fun t175 => (if t175 = true then ((laws_eqInt64SS.f k l0_1 l1_1).bind fun t176 => (if t176 = true then ((laws_eqInt64S.f k l0_2 l1_2).bind fun t177 => (if t177 = true then ((laws_eqBoolS.f k l0_3 l1_3).bind fun t178 => (if t178 = true then (some true) else (some false))) else (some false))) else (some false))) else (some false))
set_option maxHeartbeats 8000000 in
set_option maxRecDepth 100000 in
theorem laws_eqAlgebra.calls (k : Nat) (A0_0 : Option Addr) (c0_0 : Nat) (l0_0 : List (List Int)) (A0_1 : Option Addr) (c0_1 : Nat) (l0_1 : List (List Int)) (A0_2 : Option Addr) (c0_2 : Nat) (l0_2 : List Int) (A0_3 : Option Addr) (c0_3 : Nat) (l0_3 : List Bool) (A1_0 : Option Addr) (c1_0 : Nat) (l1_0 : List (List Int)) (A1_1 : Option Addr) (c1_1 : Nat) (l1_1 : List (List Int)) (A1_2 : Option Addr) (c1_2 : Nat) (l1_2 : List Int) (A1_3 : Option Addr) (c1_3 : Nat) (l1_3 : List Bool) (r : Bool) (w : World) (hr0_0 : Kd.C (Kd.slice 2 (Kd.int .i64)) w A0_0 l0_0.length l0_0) (hc0_0 : l0_0.length ≤ c0_0) (hr0_1 : Kd.C (Kd.slice 2 (Kd.int .i64)) w A0_1 l0_1.length l0_1) (hc0_1 : l0_1.length ≤ c0_1) (hr0_2 : Kd.C (Kd.int .i64) w A0_2 l0_2.length l0_2) (hc0_2 : l0_2.length ≤ c0_2) (hr0_3 : Kd.C Kd.bool w A0_3 l0_3.length l0_3) (hc0_3 : l0_3.length ≤ c0_3) (hr1_0 : Kd.C (Kd.slice 2 (Kd.int .i64)) w A1_0 l1_0.length l1_0) (hc1_0 : l1_0.length ≤ c1_0) (hr1_1 : Kd.C (Kd.slice 2 (Kd.int .i64)) w A1_1 l1_1.length l1_1) (hc1_1 : l1_1.length ≤ c1_1) (hr1_2 : Kd.C (Kd.int .i64) w A1_2 l1_2.length l1_2) (hc1_2 : l1_2.length ≤ c1_2) (hr1_3 : Kd.C Kd.bool w A1_3 l1_3.length l1_3) (hc1_3 : l1_3.length ≤ c1_3) (h : laws_eqAlgebra.f k l0_0 l0_1 l0_2 l0_3 l1_0 l1_1 l1_2 l1_3 = some r) :
  Calls Try.prog 11 #[.agg #[.slice A0_0 l0_0.length c0_0, .slice A0_1 l0_1.length c0_1, .slice A0_2 l0_2.length c0_2, .slice A0_3 l0_3.length c0_3], .agg #[.slice A1_0 l1_0.length c1_0, .slice A1_1 l1_1.length c1_1, .slice A1_2 l1_2.length c1_2, .slice A1_3 l1_3.length c1_3]] w fun e w' => e = .returned (.bool r) ∧ Below w.heap.size w w' := by
 have hu29 := Try.underlying29
 have HR0_0 := AZ.mk hr0_0
 have HC0_0 := AZ.mk hc0_0
 clear hr0_0 hc0_0
 have HR0_1 := AZ.mk hr0_1
 have HC0_1 := AZ.mk hc0_1
 clear hr0_1 hc0_1
 have HR0_2 := AZ.mk hr0_2
 have HC0_2 := AZ.mk hc0_2
 clear hr0_2 hc0_2
 have HR0_3 := AZ.mk hr0_3
 have HC0_3 := AZ.mk hc0_3
 clear hr0_3 hc0_3
 have HR1_0 := AZ.mk hr1_0
 have HC1_0 := AZ.mk hc1_0
 clear hr1_0 hc1_0
 have HR1_1 := AZ.mk hr1_1
 have HC1_1 := AZ.mk hc1_1
 clear hr1_1 hc1_1
 have HR1_2 := AZ.mk hr1_2
 have HC1_2 := AZ.mk hc1_2
 clear hr1_2 hc1_2
 have HR1_3 := AZ.mk hr1_3
 have HC1_3 := AZ.mk hc1_3
 clear hr1_3 hc1_3
 have HB := AZ.mk (Below.refl w.heap.size w)
 have H : ((laws_eqInt64SS.f k l0_0 l1_0).bind fun t175 => (if t175 = true then ((laws_eqInt64SS.f k l0_1 l1_1).bind fun t176 => (if t176 = true then ((laws_eqInt64S.f k l0_2 l1_2).bind fun t177 => (if t177 = true then ((laws_eqBoolS.f k l0_3 l1_3).bind fun t178 => (if t178 = true then (some true) else (some false))) else (some false))) else (some false))) else (some false))) = some r := h
 clear h
 replace H := Option.bind_eq_some_iff.mp H
 obtain ⟨t175, A30, H⟩ := H
 replace H : (if t175 = true then ((laws_eqInt64SS.f k l0_1 l1_1).bind fun t176 => (if t176 = true then ((laws_eqInt64S.f k l0_2 l1_2).bind fun t177 => (if t177 = true then ((laws_eqBoolS.f k l0_3 l1_3).bind fun t178 => (if t178 = true then (some true) else (some false))) else (some false))) else (some false))) else (some false)) = some r := H
 have A3 := AZ.mk A30
 clear A30
 by_cases c4 : t175 = true
 rotate_left
 ·replace c4 := Bool.eq_false_iff.mpr c4
  subst c4
  have H1 : (some false) = some r := by rw [if_neg (show ¬ (false = true) by decide)] at H; exact H
  clear H
  have H := H1
  clear H1
  obtain rfl := Option.some.inj H
  go_enter Try.func11, Try.ntmps11
  go_wp2_with (first | ((with_reducible refine gate_dst (N := 2) rfl ?_); refine box_event ?hg (N := 2) ?hd (cs := #[.slice A0_0 l0_0.length c0_0, .slice A0_1 l0_1.length c0_1, .slice A0_2 l0_2.length c0_2, .slice A0_3 l0_3.length c0_3]) (t := 29) ?hr ?_; (case hd => rfl); (case hg => rfl); (case hr => first | (go_simp; done) | (go_simp; rfl)); intro gb173 hg w31 hbox hb; have n0_ := AZ.mk (pT (by repeat (first | (with_reducible first | exact HB.out | apply pA | apply pN | apply pD) | exact HB.out)) hb); have n1_ := AZ.mk (hbox); have n2_ := AZ.mk ((by rw [hg]; exact (pZ (by repeat (first | (with_reducible first | exact HB.out | apply pA | apply pN | apply pD) | exact HB.out))) : w.heap.size ≤ gb173)); have n3_ := AZ.mk ((by rw [hg]; exact (pZ (by repeat (first | (with_reducible first | exact HB.out | apply pA | apply pN | apply pD) | exact HB.out))) : w.heap.size ≤ gb173)); clear HB; have HB := n0_; have BK173 := n1_; have GW173 := n2_; have GE173 := n3_; clear n0_ n1_ n2_ n3_; clear hb hbox hg) | ((with_reducible refine gate_dst (N := 3) rfl ?_); refine box_event ?hg (N := 3) ?hd (cs := #[.slice A1_0 l1_0.length c1_0, .slice A1_1 l1_1.length c1_1, .slice A1_2 l1_2.length c1_2, .slice A1_3 l1_3.length c1_3]) (t := 29) ?hr ?_; (case hd => rfl); (case hg => rfl); (case hr => first | (go_simp; done) | (go_simp; rfl)); intro gb174 hg w32 hbox hb; have n0_ := AZ.mk (bb_ (g := gb173) (o := .cells #[.slice A0_0 l0_0.length c0_0, .slice A0_1 l0_1.length c0_1, .slice A0_2 l0_2.length c0_2, .slice A0_3 l0_3.length c0_3] 29 (0, 0)) (by (with_reducible repeat (first | refine bn_ ?_ _ | refine bd_ ?_ | refine ba_ ?_ _)); exact BK173.out) hb); have n1_ := AZ.mk (pT (by repeat (first | (with_reducible first | exact HB.out | apply pA | apply pN | apply pD | refine pS ?_ GE173.out) | exact HB.out)) hb); have n2_ := AZ.mk (hbox); have n3_ := AZ.mk ((by rw [hg]; exact (pZ (by repeat (first | (with_reducible first | exact HB.out | apply pA | apply pN | apply pD | refine pS ?_ GE173.out) | exact HB.out))) : w.heap.size ≤ gb174)); have n4_ := AZ.mk ((by rw [hg]; exact (pZ (by repeat (first | (with_reducible first | exact HB.out | apply pA | apply pN | apply pD | refine pS ?_ GE173.out) | exact HB.out))) : w.heap.size ≤ gb174)); have n5_ := AZ.mk ((by rw [hg]; exact Nat.ne_of_lt (blk_lt (g := gb173) (o := .cells #[.slice A0_0 l0_0.length c0_0, .slice A0_1 l0_1.length c0_1, .slice A0_2 l0_2.length c0_2, .slice A0_3 l0_3.length c0_3] 29 (0, 0)) (by (with_reducible repeat (first | refine bn_ ?_ _ | refine bd_ ?_ | refine ba_ ?_ _)); exact BK173.out)) : gb173 ≠ gb174)); have n6_ := AZ.mk ((by rw [hg]; exact Nat.ne_of_gt (blk_lt (g := gb173) (o := .cells #[.slice A0_0 l0_0.length c0_0, .slice A0_1 l0_1.length c0_1, .slice A0_2 l0_2.length c0_2, .slice A0_3 l0_3.length c0_3] 29 (0, 0)) (by (with_reducible repeat (first | refine bn_ ?_ _ | refine bd_ ?_ | refine ba_ ?_ _)); exact BK173.out)) : gb174 ≠ gb173)); clear BK173; clear HB; have BK173 := n0_; have HB := n1_; have BK174 := n2_; have GW174 := n3_; have GE174 := n4_; have NB173_174 := n5_; have NB174_173 := n6_; clear n0_ n1_ n2_ n3_ n4_ n5_ n6_; clear hb hbox hg; have hnb33 := NB173_174.out; have hnc33 := NB174_173.out; have hcz34_0 : w32.cell? ⟨gb173, 0, none⟩ = some (.slice A0_0 l0_0.length c0_0) := (bc BK173.out 0).trans rfl; have hcz34_1 : w32.cell? ⟨gb173, 1, none⟩ = some (.slice A0_1 l0_1.length c0_1) := (bc BK173.out 1).trans rfl; have hcz34_2 : w32.cell? ⟨gb173, 2, none⟩ = some (.slice A0_2 l0_2.length c0_2) := (bc BK173.out 2).trans rfl; have hcz34_3 : w32.cell? ⟨gb173, 3, none⟩ = some (.slice A0_3 l0_3.length c0_3) := (bc BK173.out 3).trans rfl; have hfz34_0 := bf BK173.out 0; have hfz34_1 := bf BK173.out 1; have hfz34_2 := bf BK173.out 2; have hfz34_3 := bf BK173.out 3; have hcz35_0 : w32.cell? ⟨gb174, 0, none⟩ = some (.slice A1_0 l1_0.length c1_0) := (bc BK174.out 0).trans rfl; have hcz35_1 : w32.cell? ⟨gb174, 1, none⟩ = some (.slice A1_1 l1_1.length c1_1) := (bc BK174.out 1).trans rfl; have hcz35_2 : w32.cell? ⟨gb174, 2, none⟩ = some (.slice A1_2 l1_2.length c1_2) := (bc BK174.out 2).trans rfl; have hcz35_3 : w32.cell? ⟨gb174, 3, none⟩ = some (.slice A1_3 l1_3.length c1_3) := (bc BK174.out 3).trans rfl; have hfz35_0 := bf BK174.out 0; have hfz35_1 := bf BK174.out 1; have hfz35_2 := bf BK174.out 2; have hfz35_3 := bf BK174.out 3) | ((with_reducible refine gate_callee (f := 39) rfl ?_); refine goesL_ (some 9) rfl rfl Try.func39 (by kernel_rfl) rfl #[.slice A0_0 l0_0.length c0_0, .slice A1_0 l1_0.length c1_0] rfl (by (try simp only [List.map_toArray, List.map_cons, List.map_nil]); first | done | rfl | (simp only [List.length_drop, List.length_take]; rfl)) ?_; (with_reducible refine (laws_eqInt64SS.calls k _ _ l0_0 _ _ l1_0 false _ ?side1 ?side2 ?side3 ?side4 A3.out).mono ?_); (case side1 => repeat (first | exact (Kd.C_below HR0_0.out HB.out) | (with_reducible refine Kd.C_alloc ?_ _) | (with_reducible refine Kd.C_drewN ?_ _) | (with_reducible refine Kd.C_drew ?_))); (case side2 => exact HC0_0.out); (case side3 => repeat (first | exact (Kd.C_below HR1_0.out HB.out) | (with_reducible refine Kd.C_alloc ?_ _) | (with_reducible refine Kd.C_drewN ?_ _) | (with_reducible refine Kd.C_drew ?_))); (case side4 => exact HC1_0.out); rintro e w' ⟨rfl, ⟨nd, rfl⟩⟩; refine ⟨_, rfl, ?_⟩))
  go_ret
  exact ⟨by first | rfl | (simp [errW_none, errW_some] <;> rfl) | (simp [*, errW_none, errW_some] <;> rfl), by repeat (first | (with_reducible first | exact HB.out | apply pA | apply pN | apply pD | refine pS ?_ GE173.out | refine pS ?_ GE174.out) | exact HB.out)⟩
 subst c4
 have H1 : ((laws_eqInt64SS.f k l0_1 l1_1).bind fun t176 => (if t176 = true then ((laws_eqInt64S.f k l0_2 l1_2).bind fun t177 => (if t177 = true then ((laws_eqBoolS.f k l0_3 l1_3).bind fun t178 => (if t178 = true then (some true) else (some false))) else (some false))) else (some false))) = some r := by rw [if_pos rfl] at H; exact H
 clear H
 have H := H1
 clear H1
 replace H := Option.bind_eq_some_iff.mp H
 obtain ⟨t176, A50, H⟩ := H
 replace H : (if t176 = true then ((laws_eqInt64S.f k l0_2 l1_2).bind fun t177 => (if t177 = true then ((laws_eqBoolS.f k l0_3 l1_3).bind fun t178 => (if t178 = true then (some true) else (some false))) else (some false))) else (some false)) = some r := H
 have A5 := AZ.mk A50
 clear A50
 by_cases c6 : t176 = true
 rotate_left
 ·replace c6 := Bool.eq_false_iff.mpr c6
  subst c6
  have H1 : (some false) = some r := by rw [if_neg (show ¬ (false = true) by decide)] at H; exact H
  clear H
  have H := H1
  clear H1
  obtain rfl := Option.some.inj H
  go_enter Try.func11, Try.ntmps11
  go_wp2_with (first | ((with_reducible refine gate_dst (N := 2) rfl ?_); refine box_event ?hg (N := 2) ?hd (cs := #[.slice A0_0 l0_0.length c0_0, .slice A0_1 l0_1.length c0_1, .slice A0_2 l0_2.length c0_2, .slice A0_3 l0_3.length c0_3]) (t := 29) ?hr ?_; (case hd => rfl); (case hg => rfl); (case hr => first | (go_simp; done) | (go_simp; rfl)); intro gb173 hg w26 hbox hb; have n0_ := AZ.mk (pT (by repeat (first | (with_reducible first | exact HB.out | apply pA | apply pN | apply pD) | exact HB.out)) hb); have n1_ := AZ.mk (hbox); have n2_ := AZ.mk ((by rw [hg]; exact (pZ (by repeat (first | (with_reducible first | exact HB.out | apply pA | apply pN | apply pD) | exact HB.out))) : w.heap.size ≤ gb173)); have n3_ := AZ.mk ((by rw [hg]; exact (pZ (by repeat (first | (with_reducible first | exact HB.out | apply pA | apply pN | apply pD) | exact HB.out))) : w.heap.size ≤ gb173)); clear HB; have HB := n0_; have BK173 := n1_; have GW173 := n2_; have GE173 := n3_; clear n0_ n1_ n2_ n3_; clear hb hbox hg) | ((with_reducible refine gate_dst (N := 3) rfl ?_); refine box_event ?hg (N := 3) ?hd (cs := #[.slice A1_0 l1_0.length c1_0, .slice A1_1 l1_1.length c1_1, .slice A1_2 l1_2.length c1_2, .slice A1_3 l1_3.length c1_3]) (t := 29) ?hr ?_; (case hd => rfl); (case hg => rfl); (case hr => first | (go_simp; done) | (go_simp; rfl)); intro gb174 hg w27 hbox hb; have n0_ := AZ.mk (bb_ (g := gb173) (o := .cells #[.slice A0_0 l0_0.length c0_0, .slice A0_1 l0_1.length c0_1, .slice A0_2 l0_2.length c0_2, .slice A0_3 l0_3.length c0_3] 29 (0, 0)) (by (with_reducible repeat (first | refine bn_ ?_ _ | refine bd_ ?_ | refine ba_ ?_ _)); exact BK173.out) hb); have n1_ := AZ.mk (pT (by repeat (first | (with_reducible first | exact HB.out | apply pA | apply pN | apply pD | refine pS ?_ GE173.out) | exact HB.out)) hb); have n2_ := AZ.mk (hbox); have n3_ := AZ.mk ((by rw [hg]; exact (pZ (by repeat (first | (with_reducible first | exact HB.out | apply pA | apply pN | apply pD | refine pS ?_ GE173.out) | exact HB.out))) : w.heap.size ≤ gb174)); have n4_ := AZ.mk ((by rw [hg]; exact (pZ (by repeat (first | (with_reducible first | exact HB.out | apply pA | apply pN | apply pD | refine pS ?_ GE173.out) | exact HB.out))) : w.heap.size ≤ gb174)); have n5_ := AZ.mk ((by rw [hg]; exact Nat.ne_of_lt (blk_lt (g := gb173) (o := .cells #[.slice A0_0 l0_0.length c0_0, .slice A0_1 l0_1.length c0_1, .slice A0_2 l0_2.length c0_2, .slice A0_3 l0_3.length c0_3] 29 (0, 0)) (by (with_reducible repeat (first | refine bn_ ?_ _ | refine bd_ ?_ | refine ba_ ?_ _)); exact BK173.out)) : gb173 ≠ gb174)); have n6_ := AZ.mk ((by rw [hg]; exact Nat.ne_of_gt (blk_lt (g := gb173) (o := .cells #[.slice A0_0 l0_0.length c0_0, .slice A0_1 l0_1.length c0_1, .slice A0_2 l0_2.length c0_2, .slice A0_3 l0_3.length c0_3] 29 (0, 0)) (by (with_reducible repeat (first | refine bn_ ?_ _ | refine bd_ ?_ | refine ba_ ?_ _)); exact BK173.out)) : gb174 ≠ gb173)); clear BK173; clear HB; have BK173 := n0_; have HB := n1_; have BK174 := n2_; have GW174 := n3_; have GE174 := n4_; have NB173_174 := n5_; have NB174_173 := n6_; clear n0_ n1_ n2_ n3_ n4_ n5_ n6_; clear hb hbox hg; have hnb28 := NB173_174.out; have hnc28 := NB174_173.out; have hcz29_0 : w27.cell? ⟨gb173, 0, none⟩ = some (.slice A0_0 l0_0.length c0_0) := (bc BK173.out 0).trans rfl; have hcz29_1 : w27.cell? ⟨gb173, 1, none⟩ = some (.slice A0_1 l0_1.length c0_1) := (bc BK173.out 1).trans rfl; have hcz29_2 : w27.cell? ⟨gb173, 2, none⟩ = some (.slice A0_2 l0_2.length c0_2) := (bc BK173.out 2).trans rfl; have hcz29_3 : w27.cell? ⟨gb173, 3, none⟩ = some (.slice A0_3 l0_3.length c0_3) := (bc BK173.out 3).trans rfl; have hfz29_0 := bf BK173.out 0; have hfz29_1 := bf BK173.out 1; have hfz29_2 := bf BK173.out 2; have hfz29_3 := bf BK173.out 3; have hcz30_0 : w27.cell? ⟨gb174, 0, none⟩ = some (.slice A1_0 l1_0.length c1_0) := (bc BK174.out 0).trans rfl; have hcz30_1 : w27.cell? ⟨gb174, 1, none⟩ = some (.slice A1_1 l1_1.length c1_1) := (bc BK174.out 1).trans rfl; have hcz30_2 : w27.cell? ⟨gb174, 2, none⟩ = some (.slice A1_2 l1_2.length c1_2) := (bc BK174.out 2).trans rfl; have hcz30_3 : w27.cell? ⟨gb174, 3, none⟩ = some (.slice A1_3 l1_3.length c1_3) := (bc BK174.out 3).trans rfl; have hfz30_0 := bf BK174.out 0; have hfz30_1 := bf BK174.out 1; have hfz30_2 := bf BK174.out 2; have hfz30_3 := bf BK174.out 3) | ((with_reducible refine gate_callee (f := 39) rfl ?_); refine goesL_ (some 9) rfl rfl Try.func39 (by kernel_rfl) rfl #[.slice A0_0 l0_0.length c0_0, .slice A1_0 l1_0.length c1_0] rfl (by (try simp only [List.map_toArray, List.map_cons, List.map_nil]); first | done | rfl | (simp only [List.length_drop, List.length_take]; rfl)) ?_; (with_reducible refine (laws_eqInt64SS.calls k _ _ l0_0 _ _ l1_0 true _ ?side1 ?side2 ?side3 ?side4 A3.out).mono ?_); (case side1 => repeat (first | exact (Kd.C_below HR0_0.out HB.out) | (with_reducible refine Kd.C_alloc ?_ _) | (with_reducible refine Kd.C_drewN ?_ _) | (with_reducible refine Kd.C_drew ?_))); (case side2 => exact HC0_0.out); (case side3 => repeat (first | exact (Kd.C_below HR1_0.out HB.out) | (with_reducible refine Kd.C_alloc ?_ _) | (with_reducible refine Kd.C_drewN ?_ _) | (with_reducible refine Kd.C_drew ?_))); (case side4 => exact HC1_0.out); rintro e w' ⟨rfl, ⟨nd, rfl⟩⟩; refine ⟨_, rfl, ?_⟩) | ((with_reducible refine gate_callee (f := 39) rfl ?_); refine goesL_ (some 15) rfl rfl Try.func39 (by kernel_rfl) rfl #[.slice A0_1 l0_1.length c0_1, .slice A1_1 l1_1.length c1_1] rfl (by (try simp only [List.map_toArray, List.map_cons, List.map_nil]); first | done | rfl | (simp only [List.length_drop, List.length_take]; rfl)) ?_; (with_reducible refine (laws_eqInt64SS.calls k _ _ l0_1 _ _ l1_1 false _ ?side1 ?side2 ?side3 ?side4 A5.out).mono ?_); (case side1 => repeat (first | exact (Kd.C_below HR0_1.out (by repeat (first | (with_reducible first | exact HB.out | apply pA | apply pN | apply pD | refine pS ?_ GE173.out | refine pS ?_ GE174.out) | exact HB.out))) | (with_reducible refine Kd.C_alloc ?_ _) | (with_reducible refine Kd.C_drewN ?_ _) | (with_reducible refine Kd.C_drew ?_))); (case side2 => exact HC0_1.out); (case side3 => repeat (first | exact (Kd.C_below HR1_1.out (by repeat (first | (with_reducible first | exact HB.out | apply pA | apply pN | apply pD | refine pS ?_ GE173.out | refine pS ?_ GE174.out) | exact HB.out))) | (with_reducible refine Kd.C_alloc ?_ _) | (with_reducible refine Kd.C_drewN ?_ _) | (with_reducible refine Kd.C_drew ?_))); (case side4 => exact HC1_1.out); rintro e w' ⟨rfl, ⟨nd, rfl⟩⟩; refine ⟨_, rfl, ?_⟩))
  go_ret
  exact ⟨by first | rfl | (simp [errW_none, errW_some] <;> rfl) | (simp [*, errW_none, errW_some] <;> rfl), by repeat (first | (with_reducible first | exact HB.out | apply pA | apply pN | apply pD | refine pS ?_ GE173.out | refine pS ?_ GE174.out) | exact HB.out)⟩
 subst c6
 have H1 : ((laws_eqInt64S.f k l0_2 l1_2).bind fun t177 => (if t177 = true then ((laws_eqBoolS.f k l0_3 l1_3).bind fun t178 => (if t178 = true then (some true) else (some false))) else (some false))) = some r := by rw [if_pos rfl] at H; exact H
 clear H
 have H := H1
 clear H1
 replace H := Option.bind_eq_some_iff.mp H
 obtain ⟨t177, A70, H⟩ := H
 replace H : (if t177 = true then ((laws_eqBoolS.f k l0_3 l1_3).bind fun t178 => (if t178 = true then (some true) else (some false))) else (some false)) = some r := H
 have A7 := AZ.mk A70
 clear A70
 by_cases c8 : t177 = true
 rotate_left
 ·replace c8 := Bool.eq_false_iff.mpr c8
  subst c8
  have H1 : (some false) = some r := by rw [if_neg (show ¬ (false = true) by decide)] at H; exact H
  clear H
  have H := H1
  clear H1
  obtain rfl := Option.some.inj H
  go_enter Try.func11, Try.ntmps11
  go_wp2_with (first | ((with_reducible refine gate_dst (N := 2) rfl ?_); refine box_event ?hg (N := 2) ?hd (cs := #[.slice A0_0 l0_0.length c0_0, .slice A0_1 l0_1.length c0_1, .slice A0_2 l0_2.length c0_2, .slice A0_3 l0_3.length c0_3]) (t := 29) ?hr ?_; (case hd => rfl); (case hg => rfl); (case hr => first | (go_simp; done) | (go_simp; rfl)); intro gb173 hg w21 hbox hb; have n0_ := AZ.mk (pT (by repeat (first | (with_reducible first | exact HB.out | apply pA | apply pN | apply pD) | exact HB.out)) hb); have n1_ := AZ.mk (hbox); have n2_ := AZ.mk ((by rw [hg]; exact (pZ (by repeat (first | (with_reducible first | exact HB.out | apply pA | apply pN | apply pD) | exact HB.out))) : w.heap.size ≤ gb173)); have n3_ := AZ.mk ((by rw [hg]; exact (pZ (by repeat (first | (with_reducible first | exact HB.out | apply pA | apply pN | apply pD) | exact HB.out))) : w.heap.size ≤ gb173)); clear HB; have HB := n0_; have BK173 := n1_; have GW173 := n2_; have GE173 := n3_; clear n0_ n1_ n2_ n3_; clear hb hbox hg) | ((with_reducible refine gate_dst (N := 3) rfl ?_); refine box_event ?hg (N := 3) ?hd (cs := #[.slice A1_0 l1_0.length c1_0, .slice A1_1 l1_1.length c1_1, .slice A1_2 l1_2.length c1_2, .slice A1_3 l1_3.length c1_3]) (t := 29) ?hr ?_; (case hd => rfl); (case hg => rfl); (case hr => first | (go_simp; done) | (go_simp; rfl)); intro gb174 hg w22 hbox hb; have n0_ := AZ.mk (bb_ (g := gb173) (o := .cells #[.slice A0_0 l0_0.length c0_0, .slice A0_1 l0_1.length c0_1, .slice A0_2 l0_2.length c0_2, .slice A0_3 l0_3.length c0_3] 29 (0, 0)) (by (with_reducible repeat (first | refine bn_ ?_ _ | refine bd_ ?_ | refine ba_ ?_ _)); exact BK173.out) hb); have n1_ := AZ.mk (pT (by repeat (first | (with_reducible first | exact HB.out | apply pA | apply pN | apply pD | refine pS ?_ GE173.out) | exact HB.out)) hb); have n2_ := AZ.mk (hbox); have n3_ := AZ.mk ((by rw [hg]; exact (pZ (by repeat (first | (with_reducible first | exact HB.out | apply pA | apply pN | apply pD | refine pS ?_ GE173.out) | exact HB.out))) : w.heap.size ≤ gb174)); have n4_ := AZ.mk ((by rw [hg]; exact (pZ (by repeat (first | (with_reducible first | exact HB.out | apply pA | apply pN | apply pD | refine pS ?_ GE173.out) | exact HB.out))) : w.heap.size ≤ gb174)); have n5_ := AZ.mk ((by rw [hg]; exact Nat.ne_of_lt (blk_lt (g := gb173) (o := .cells #[.slice A0_0 l0_0.length c0_0, .slice A0_1 l0_1.length c0_1, .slice A0_2 l0_2.length c0_2, .slice A0_3 l0_3.length c0_3] 29 (0, 0)) (by (with_reducible repeat (first | refine bn_ ?_ _ | refine bd_ ?_ | refine ba_ ?_ _)); exact BK173.out)) : gb173 ≠ gb174)); have n6_ := AZ.mk ((by rw [hg]; exact Nat.ne_of_gt (blk_lt (g := gb173) (o := .cells #[.slice A0_0 l0_0.length c0_0, .slice A0_1 l0_1.length c0_1, .slice A0_2 l0_2.length c0_2, .slice A0_3 l0_3.length c0_3] 29 (0, 0)) (by (with_reducible repeat (first | refine bn_ ?_ _ | refine bd_ ?_ | refine ba_ ?_ _)); exact BK173.out)) : gb174 ≠ gb173)); clear BK173; clear HB; have BK173 := n0_; have HB := n1_; have BK174 := n2_; have GW174 := n3_; have GE174 := n4_; have NB173_174 := n5_; have NB174_173 := n6_; clear n0_ n1_ n2_ n3_ n4_ n5_ n6_; clear hb hbox hg; have hnb23 := NB173_174.out; have hnc23 := NB174_173.out; have hcz24_0 : w22.cell? ⟨gb173, 0, none⟩ = some (.slice A0_0 l0_0.length c0_0) := (bc BK173.out 0).trans rfl; have hcz24_1 : w22.cell? ⟨gb173, 1, none⟩ = some (.slice A0_1 l0_1.length c0_1) := (bc BK173.out 1).trans rfl; have hcz24_2 : w22.cell? ⟨gb173, 2, none⟩ = some (.slice A0_2 l0_2.length c0_2) := (bc BK173.out 2).trans rfl; have hcz24_3 : w22.cell? ⟨gb173, 3, none⟩ = some (.slice A0_3 l0_3.length c0_3) := (bc BK173.out 3).trans rfl; have hfz24_0 := bf BK173.out 0; have hfz24_1 := bf BK173.out 1; have hfz24_2 := bf BK173.out 2; have hfz24_3 := bf BK173.out 3; have hcz25_0 : w22.cell? ⟨gb174, 0, none⟩ = some (.slice A1_0 l1_0.length c1_0) := (bc BK174.out 0).trans rfl; have hcz25_1 : w22.cell? ⟨gb174, 1, none⟩ = some (.slice A1_1 l1_1.length c1_1) := (bc BK174.out 1).trans rfl; have hcz25_2 : w22.cell? ⟨gb174, 2, none⟩ = some (.slice A1_2 l1_2.length c1_2) := (bc BK174.out 2).trans rfl; have hcz25_3 : w22.cell? ⟨gb174, 3, none⟩ = some (.slice A1_3 l1_3.length c1_3) := (bc BK174.out 3).trans rfl; have hfz25_0 := bf BK174.out 0; have hfz25_1 := bf BK174.out 1; have hfz25_2 := bf BK174.out 2; have hfz25_3 := bf BK174.out 3) | ((with_reducible refine gate_callee (f := 39) rfl ?_); refine goesL_ (some 9) rfl rfl Try.func39 (by kernel_rfl) rfl #[.slice A0_0 l0_0.length c0_0, .slice A1_0 l1_0.length c1_0] rfl (by (try simp only [List.map_toArray, List.map_cons, List.map_nil]); first | done | rfl | (simp only [List.length_drop, List.length_take]; rfl)) ?_; (with_reducible refine (laws_eqInt64SS.calls k _ _ l0_0 _ _ l1_0 true _ ?side1 ?side2 ?side3 ?side4 A3.out).mono ?_); (case side1 => repeat (first | exact (Kd.C_below HR0_0.out HB.out) | (with_reducible refine Kd.C_alloc ?_ _) | (with_reducible refine Kd.C_drewN ?_ _) | (with_reducible refine Kd.C_drew ?_))); (case side2 => exact HC0_0.out); (case side3 => repeat (first | exact (Kd.C_below HR1_0.out HB.out) | (with_reducible refine Kd.C_alloc ?_ _) | (with_reducible refine Kd.C_drewN ?_ _) | (with_reducible refine Kd.C_drew ?_))); (case side4 => exact HC1_0.out); rintro e w' ⟨rfl, ⟨nd, rfl⟩⟩; refine ⟨_, rfl, ?_⟩) | ((with_reducible refine gate_callee (f := 39) rfl ?_); refine goesL_ (some 15) rfl rfl Try.func39 (by kernel_rfl) rfl #[.slice A0_1 l0_1.length c0_1, .slice A1_1 l1_1.length c1_1] rfl (by (try simp only [List.map_toArray, List.map_cons, List.map_nil]); first | done | rfl | (simp only [List.length_drop, List.length_take]; rfl)) ?_; (with_reducible refine (laws_eqInt64SS.calls k _ _ l0_1 _ _ l1_1 true _ ?side1 ?side2 ?side3 ?side4 A5.out).mono ?_); (case side1 => repeat (first | exact (Kd.C_below HR0_1.out (by repeat (first | (with_reducible first | exact HB.out | apply pA | apply pN | apply pD | refine pS ?_ GE173.out | refine pS ?_ GE174.out) | exact HB.out))) | (with_reducible refine Kd.C_alloc ?_ _) | (with_reducible refine Kd.C_drewN ?_ _) | (with_reducible refine Kd.C_drew ?_))); (case side2 => exact HC0_1.out); (case side3 => repeat (first | exact (Kd.C_below HR1_1.out (by repeat (first | (with_reducible first | exact HB.out | apply pA | apply pN | apply pD | refine pS ?_ GE173.out | refine pS ?_ GE174.out) | exact HB.out))) | (with_reducible refine Kd.C_alloc ?_ _) | (with_reducible refine Kd.C_drewN ?_ _) | (with_reducible refine Kd.C_drew ?_))); (case side4 => exact HC1_1.out); rintro e w' ⟨rfl, ⟨nd, rfl⟩⟩; refine ⟨_, rfl, ?_⟩) | ((with_reducible refine gate_callee (f := 14) rfl ?_); refine goesL_ (some 21) rfl rfl Try.func14 (by kernel_rfl) rfl #[.slice A0_2 l0_2.length c0_2, .slice A1_2 l1_2.length c1_2] rfl (by (try simp only [List.map_toArray, List.map_cons, List.map_nil]); first | done | rfl | (simp only [List.length_drop, List.length_take]; rfl)) ?_; (with_reducible refine (laws_eqInt64S.calls k _ _ l0_2 _ _ l1_2 false _ ?side1 ?side2 ?side3 ?side4 A7.out).mono ?_); (case side1 => repeat (first | exact (Kd.C_below HR0_2.out (by repeat (first | (with_reducible first | exact HB.out | apply pA | apply pN | apply pD | refine pS ?_ GE173.out | refine pS ?_ GE174.out) | exact HB.out))) | (with_reducible refine Kd.C_alloc ?_ _) | (with_reducible refine Kd.C_drewN ?_ _) | (with_reducible refine Kd.C_drew ?_))); (case side2 => exact HC0_2.out); (case side3 => repeat (first | exact (Kd.C_below HR1_2.out (by repeat (first | (with_reducible first | exact HB.out | apply pA | apply pN | apply pD | refine pS ?_ GE173.out | refine pS ?_ GE174.out) | exact HB.out))) | (with_reducible refine Kd.C_alloc ?_ _) | (with_reducible refine Kd.C_drewN ?_ _) | (with_reducible refine Kd.C_drew ?_))); (case side4 => exact HC1_2.out); rintro e w' ⟨rfl, ⟨nd, rfl⟩⟩; refine ⟨_, rfl, ?_⟩))
  go_ret
  exact ⟨by first | rfl | (simp [errW_none, errW_some] <;> rfl) | (simp [*, errW_none, errW_some] <;> rfl), by repeat (first | (with_reducible first | exact HB.out | apply pA | apply pN | apply pD | refine pS ?_ GE173.out | refine pS ?_ GE174.out) | exact HB.out)⟩
 subst c8
 have H1 : ((laws_eqBoolS.f k l0_3 l1_3).bind fun t178 => (if t178 = true then (some true) else (some false))) = some r := by rw [if_pos rfl] at H; exact H
 clear H
 have H := H1
 clear H1
 replace H := Option.bind_eq_some_iff.mp H
 obtain ⟨t178, A90, H⟩ := H
 replace H : (if t178 = true then (some true) else (some false)) = some r := H
 have A9 := AZ.mk A90
 clear A90
 by_cases c10 : t178 = true
 ·subst c10
  have H1 : (some true) = some r := by rw [if_pos rfl] at H; exact H
  clear H
  have H := H1
  clear H1
  obtain rfl := Option.some.inj H
  go_enter Try.func11, Try.ntmps11
  go_wp2_with (first | ((with_reducible refine gate_dst (N := 2) rfl ?_); refine box_event ?hg (N := 2) ?hd (cs := #[.slice A0_0 l0_0.length c0_0, .slice A0_1 l0_1.length c0_1, .slice A0_2 l0_2.length c0_2, .slice A0_3 l0_3.length c0_3]) (t := 29) ?hr ?_; (case hd => rfl); (case hg => rfl); (case hr => first | (go_simp; done) | (go_simp; rfl)); intro gb173 hg w11 hbox hb; have n0_ := AZ.mk (pT (by repeat (first | (with_reducible first | exact HB.out | apply pA | apply pN | apply pD) | exact HB.out)) hb); have n1_ := AZ.mk (hbox); have n2_ := AZ.mk ((by rw [hg]; exact (pZ (by repeat (first | (with_reducible first | exact HB.out | apply pA | apply pN | apply pD) | exact HB.out))) : w.heap.size ≤ gb173)); have n3_ := AZ.mk ((by rw [hg]; exact (pZ (by repeat (first | (with_reducible first | exact HB.out | apply pA | apply pN | apply pD) | exact HB.out))) : w.heap.size ≤ gb173)); clear HB; have HB := n0_; have BK173 := n1_; have GW173 := n2_; have GE173 := n3_; clear n0_ n1_ n2_ n3_; clear hb hbox hg) | ((with_reducible refine gate_dst (N := 3) rfl ?_); refine box_event ?hg (N := 3) ?hd (cs := #[.slice A1_0 l1_0.length c1_0, .slice A1_1 l1_1.length c1_1, .slice A1_2 l1_2.length c1_2, .slice A1_3 l1_3.length c1_3]) (t := 29) ?hr ?_; (case hd => rfl); (case hg => rfl); (case hr => first | (go_simp; done) | (go_simp; rfl)); intro gb174 hg w12 hbox hb; have n0_ := AZ.mk (bb_ (g := gb173) (o := .cells #[.slice A0_0 l0_0.length c0_0, .slice A0_1 l0_1.length c0_1, .slice A0_2 l0_2.length c0_2, .slice A0_3 l0_3.length c0_3] 29 (0, 0)) (by (with_reducible repeat (first | refine bn_ ?_ _ | refine bd_ ?_ | refine ba_ ?_ _)); exact BK173.out) hb); have n1_ := AZ.mk (pT (by repeat (first | (with_reducible first | exact HB.out | apply pA | apply pN | apply pD | refine pS ?_ GE173.out) | exact HB.out)) hb); have n2_ := AZ.mk (hbox); have n3_ := AZ.mk ((by rw [hg]; exact (pZ (by repeat (first | (with_reducible first | exact HB.out | apply pA | apply pN | apply pD | refine pS ?_ GE173.out) | exact HB.out))) : w.heap.size ≤ gb174)); have n4_ := AZ.mk ((by rw [hg]; exact (pZ (by repeat (first | (with_reducible first | exact HB.out | apply pA | apply pN | apply pD | refine pS ?_ GE173.out) | exact HB.out))) : w.heap.size ≤ gb174)); have n5_ := AZ.mk ((by rw [hg]; exact Nat.ne_of_lt (blk_lt (g := gb173) (o := .cells #[.slice A0_0 l0_0.length c0_0, .slice A0_1 l0_1.length c0_1, .slice A0_2 l0_2.length c0_2, .slice A0_3 l0_3.length c0_3] 29 (0, 0)) (by (with_reducible repeat (first | refine bn_ ?_ _ | refine bd_ ?_ | refine ba_ ?_ _)); exact BK173.out)) : gb173 ≠ gb174)); have n6_ := AZ.mk ((by rw [hg]; exact Nat.ne_of_gt (blk_lt (g := gb173) (o := .cells #[.slice A0_0 l0_0.length c0_0, .slice A0_1 l0_1.length c0_1, .slice A0_2 l0_2.length c0_2, .slice A0_3 l0_3.length c0_3] 29 (0, 0)) (by (with_reducible repeat (first | refine bn_ ?_ _ | refine bd_ ?_ | refine ba_ ?_ _)); exact BK173.out)) : gb174 ≠ gb173)); clear BK173; clear HB; have BK173 := n0_; have HB := n1_; have BK174 := n2_; have GW174 := n3_; have GE174 := n4_; have NB173_174 := n5_; have NB174_173 := n6_; clear n0_ n1_ n2_ n3_ n4_ n5_ n6_; clear hb hbox hg; have hnb13 := NB173_174.out; have hnc13 := NB174_173.out; have hcz14_0 : w12.cell? ⟨gb173, 0, none⟩ = some (.slice A0_0 l0_0.length c0_0) := (bc BK173.out 0).trans rfl; have hcz14_1 : w12.cell? ⟨gb173, 1, none⟩ = some (.slice A0_1 l0_1.length c0_1) := (bc BK173.out 1).trans rfl; have hcz14_2 : w12.cell? ⟨gb173, 2, none⟩ = some (.slice A0_2 l0_2.length c0_2) := (bc BK173.out 2).trans rfl; have hcz14_3 : w12.cell? ⟨gb173, 3, none⟩ = some (.slice A0_3 l0_3.length c0_3) := (bc BK173.out 3).trans rfl; have hfz14_0 := bf BK173.out 0; have hfz14_1 := bf BK173.out 1; have hfz14_2 := bf BK173.out 2; have hfz14_3 := bf BK173.out 3; have hcz15_0 : w12.cell? ⟨gb174, 0, none⟩ = some (.slice A1_0 l1_0.length c1_0) := (bc BK174.out 0).trans rfl; have hcz15_1 : w12.cell? ⟨gb174, 1, none⟩ = some (.slice A1_1 l1_1.length c1_1) := (bc BK174.out 1).trans rfl; have hcz15_2 : w12.cell? ⟨gb174, 2, none⟩ = some (.slice A1_2 l1_2.length c1_2) := (bc BK174.out 2).trans rfl; have hcz15_3 : w12.cell? ⟨gb174, 3, none⟩ = some (.slice A1_3 l1_3.length c1_3) := (bc BK174.out 3).trans rfl; have hfz15_0 := bf BK174.out 0; have hfz15_1 := bf BK174.out 1; have hfz15_2 := bf BK174.out 2; have hfz15_3 := bf BK174.out 3) | ((with_reducible refine gate_callee (f := 39) rfl ?_); refine goesL_ (some 9) rfl rfl Try.func39 (by kernel_rfl) rfl #[.slice A0_0 l0_0.length c0_0, .slice A1_0 l1_0.length c1_0] rfl (by (try simp only [List.map_toArray, List.map_cons, List.map_nil]); first | done | rfl | (simp only [List.length_drop, List.length_take]; rfl)) ?_; (with_reducible refine (laws_eqInt64SS.calls k _ _ l0_0 _ _ l1_0 true _ ?side1 ?side2 ?side3 ?side4 A3.out).mono ?_); (case side1 => repeat (first | exact (Kd.C_below HR0_0.out HB.out) | (with_reducible refine Kd.C_alloc ?_ _) | (with_reducible refine Kd.C_drewN ?_ _) | (with_reducible refine Kd.C_drew ?_))); (case side2 => exact HC0_0.out); (case side3 => repeat (first | exact (Kd.C_below HR1_0.out HB.out) | (with_reducible refine Kd.C_alloc ?_ _) | (with_reducible refine Kd.C_drewN ?_ _) | (with_reducible refine Kd.C_drew ?_))); (case side4 => exact HC1_0.out); rintro e w' ⟨rfl, ⟨nd, rfl⟩⟩; refine ⟨_, rfl, ?_⟩) | ((with_reducible refine gate_callee (f := 39) rfl ?_); refine goesL_ (some 15) rfl rfl Try.func39 (by kernel_rfl) rfl #[.slice A0_1 l0_1.length c0_1, .slice A1_1 l1_1.length c1_1] rfl (by (try simp only [List.map_toArray, List.map_cons, List.map_nil]); first | done | rfl | (simp only [List.length_drop, List.length_take]; rfl)) ?_; (with_reducible refine (laws_eqInt64SS.calls k _ _ l0_1 _ _ l1_1 true _ ?side1 ?side2 ?side3 ?side4 A5.out).mono ?_); (case side1 => repeat (first | exact (Kd.C_below HR0_1.out (by repeat (first | (with_reducible first | exact HB.out | apply pA | apply pN | apply pD | refine pS ?_ GE173.out | refine pS ?_ GE174.out) | exact HB.out))) | (with_reducible refine Kd.C_alloc ?_ _) | (with_reducible refine Kd.C_drewN ?_ _) | (with_reducible refine Kd.C_drew ?_))); (case side2 => exact HC0_1.out); (case side3 => repeat (first | exact (Kd.C_below HR1_1.out (by repeat (first | (with_reducible first | exact HB.out | apply pA | apply pN | apply pD | refine pS ?_ GE173.out | refine pS ?_ GE174.out) | exact HB.out))) | (with_reducible refine Kd.C_alloc ?_ _) | (with_reducible refine Kd.C_drewN ?_ _) | (with_reducible refine Kd.C_drew ?_))); (case side4 => exact HC1_1.out); rintro e w' ⟨rfl, ⟨nd, rfl⟩⟩; refine ⟨_, rfl, ?_⟩) | ((with_reducible refine gate_callee (f := 14) rfl ?_); refine goesL_ (some 21) rfl rfl Try.func14 (by kernel_rfl) rfl #[.slice A0_2 l0_2.length c0_2, .slice A1_2 l1_2.length c1_2] rfl (by (try simp only [List.map_toArray, List.map_cons, List.map_nil]); first | done | rfl | (simp only [List.length_drop, List.length_take]; rfl)) ?_; (with_reducible refine (laws_eqInt64S.calls k _ _ l0_2 _ _ l1_2 true _ ?side1 ?side2 ?side3 ?side4 A7.out).mono ?_); (case side1 => repeat (first | exact (Kd.C_below HR0_2.out (by repeat (first | (with_reducible first | exact HB.out | apply pA | apply pN | apply pD | refine pS ?_ GE173.out | refine pS ?_ GE174.out) | exact HB.out))) | (with_reducible refine Kd.C_alloc ?_ _) | (with_reducible refine Kd.C_drewN ?_ _) | (with_reducible refine Kd.C_drew ?_))); (case side2 => exact HC0_2.out); (case side3 => repeat (first | exact (Kd.C_below HR1_2.out (by repeat (first | (with_reducible first | exact HB.out | apply pA | apply pN | apply pD | refine pS ?_ GE173.out | refine pS ?_ GE174.out) | exact HB.out))) | (with_reducible refine Kd.C_alloc ?_ _) | (with_reducible refine Kd.C_drewN ?_ _) | (with_reducible refine Kd.C_drew ?_))); (case side4 => exact HC1_2.out); rintro e w' ⟨rfl, ⟨nd, rfl⟩⟩; refine ⟨_, rfl, ?_⟩) | ((with_reducible refine gate_callee (f := 40) rfl ?_); refine goesL_ (some 27) rfl rfl Try.func40 (by kernel_rfl) rfl #[.slice A0_3 l0_3.length c0_3, .slice A1_3 l1_3.length c1_3] rfl (by (try simp only [List.map_toArray, List.map_cons, List.map_nil]); first | done | rfl | (simp only [List.length_drop, List.length_take]; rfl)) ?_; (with_reducible refine (laws_eqBoolS.calls k _ _ l0_3 _ _ l1_3 true _ ?side1 ?side2 ?side3 ?side4 A9.out).mono ?_); (case side1 => repeat (first | exact (Kd.C_below HR0_3.out (by repeat (first | (with_reducible first | exact HB.out | apply pA | apply pN | apply pD | refine pS ?_ GE173.out | refine pS ?_ GE174.out) | exact HB.out))) | (with_reducible refine Kd.C_alloc ?_ _) | (with_reducible refine Kd.C_drewN ?_ _) | (with_reducible refine Kd.C_drew ?_))); (case side2 => exact HC0_3.out); (case side3 => repeat (first | exact (Kd.C_below HR1_3.out (by repeat (first | (with_reducible first | exact HB.out | apply pA | apply pN | apply pD | refine pS ?_ GE173.out | refine pS ?_ GE174.out) | exact HB.out))) | (with_reducible refine Kd.C_alloc ?_ _) | (with_reducible refine Kd.C_drewN ?_ _) | (with_reducible refine Kd.C_drew ?_))); (case side4 => exact HC1_3.out); rintro e w' ⟨rfl, ⟨nd, rfl⟩⟩; refine ⟨_, rfl, ?_⟩))
  go_ret
  exact ⟨by first | rfl | (simp [errW_none, errW_some] <;> rfl) | (simp [*, errW_none, errW_some] <;> rfl), by repeat (first | (with_reducible first | exact HB.out | apply pA | apply pN | apply pD | refine pS ?_ GE173.out | refine pS ?_ GE174.out) | exact HB.out)⟩
 replace c10 := Bool.eq_false_iff.mpr c10
 subst c10
 have H1 : (some false) = some r := by rw [if_neg (show ¬ (false = true) by decide)] at H; exact H
 clear H
 have H := H1
 clear H1
 obtain rfl := Option.some.inj H
 go_enter Try.func11, Try.ntmps11
 go_wp2_with (first | ((with_reducible refine gate_dst (N := 2) rfl ?_); refine box_event ?hg (N := 2) ?hd (cs := #[.slice A0_0 l0_0.length c0_0, .slice A0_1 l0_1.length c0_1, .slice A0_2 l0_2.length c0_2, .slice A0_3 l0_3.length c0_3]) (t := 29) ?hr ?_; (case hd => rfl); (case hg => rfl); (case hr => first | (go_simp; done) | (go_simp; rfl)); intro gb173 hg w16 hbox hb; have n0_ := AZ.mk (pT (by repeat (first | (with_reducible first | exact HB.out | apply pA | apply pN | apply pD) | exact HB.out)) hb); have n1_ := AZ.mk (hbox); have n2_ := AZ.mk ((by rw [hg]; exact (pZ (by repeat (first | (with_reducible first | exact HB.out | apply pA | apply pN | apply pD) | exact HB.out))) : w.heap.size ≤ gb173)); have n3_ := AZ.mk ((by rw [hg]; exact (pZ (by repeat (first | (with_reducible first | exact HB.out | apply pA | apply pN | apply pD) | exact HB.out))) : w.heap.size ≤ gb173)); clear HB; have HB := n0_; have BK173 := n1_; have GW173 := n2_; have GE173 := n3_; clear n0_ n1_ n2_ n3_; clear hb hbox hg) | ((with_reducible refine gate_dst (N := 3) rfl ?_); refine box_event ?hg (N := 3) ?hd (cs := #[.slice A1_0 l1_0.length c1_0, .slice A1_1 l1_1.length c1_1, .slice A1_2 l1_2.length c1_2, .slice A1_3 l1_3.length c1_3]) (t := 29) ?hr ?_; (case hd => rfl); (case hg => rfl); (case hr => first | (go_simp; done) | (go_simp; rfl)); intro gb174 hg w17 hbox hb; have n0_ := AZ.mk (bb_ (g := gb173) (o := .cells #[.slice A0_0 l0_0.length c0_0, .slice A0_1 l0_1.length c0_1, .slice A0_2 l0_2.length c0_2, .slice A0_3 l0_3.length c0_3] 29 (0, 0)) (by (with_reducible repeat (first | refine bn_ ?_ _ | refine bd_ ?_ | refine ba_ ?_ _)); exact BK173.out) hb); have n1_ := AZ.mk (pT (by repeat (first | (with_reducible first | exact HB.out | apply pA | apply pN | apply pD | refine pS ?_ GE173.out) | exact HB.out)) hb); have n2_ := AZ.mk (hbox); have n3_ := AZ.mk ((by rw [hg]; exact (pZ (by repeat (first | (with_reducible first | exact HB.out | apply pA | apply pN | apply pD | refine pS ?_ GE173.out) | exact HB.out))) : w.heap.size ≤ gb174)); have n4_ := AZ.mk ((by rw [hg]; exact (pZ (by repeat (first | (with_reducible first | exact HB.out | apply pA | apply pN | apply pD | refine pS ?_ GE173.out) | exact HB.out))) : w.heap.size ≤ gb174)); have n5_ := AZ.mk ((by rw [hg]; exact Nat.ne_of_lt (blk_lt (g := gb173) (o := .cells #[.slice A0_0 l0_0.length c0_0, .slice A0_1 l0_1.length c0_1, .slice A0_2 l0_2.length c0_2, .slice A0_3 l0_3.length c0_3] 29 (0, 0)) (by (with_reducible repeat (first | refine bn_ ?_ _ | refine bd_ ?_ | refine ba_ ?_ _)); exact BK173.out)) : gb173 ≠ gb174)); have n6_ := AZ.mk ((by rw [hg]; exact Nat.ne_of_gt (blk_lt (g := gb173) (o := .cells #[.slice A0_0 l0_0.length c0_0, .slice A0_1 l0_1.length c0_1, .slice A0_2 l0_2.length c0_2, .slice A0_3 l0_3.length c0_3] 29 (0, 0)) (by (with_reducible repeat (first | refine bn_ ?_ _ | refine bd_ ?_ | refine ba_ ?_ _)); exact BK173.out)) : gb174 ≠ gb173)); clear BK173; clear HB; have BK173 := n0_; have HB := n1_; have BK174 := n2_; have GW174 := n3_; have GE174 := n4_; have NB173_174 := n5_; have NB174_173 := n6_; clear n0_ n1_ n2_ n3_ n4_ n5_ n6_; clear hb hbox hg; have hnb18 := NB173_174.out; have hnc18 := NB174_173.out; have hcz19_0 : w17.cell? ⟨gb173, 0, none⟩ = some (.slice A0_0 l0_0.length c0_0) := (bc BK173.out 0).trans rfl; have hcz19_1 : w17.cell? ⟨gb173, 1, none⟩ = some (.slice A0_1 l0_1.length c0_1) := (bc BK173.out 1).trans rfl; have hcz19_2 : w17.cell? ⟨gb173, 2, none⟩ = some (.slice A0_2 l0_2.length c0_2) := (bc BK173.out 2).trans rfl; have hcz19_3 : w17.cell? ⟨gb173, 3, none⟩ = some (.slice A0_3 l0_3.length c0_3) := (bc BK173.out 3).trans rfl; have hfz19_0 := bf BK173.out 0; have hfz19_1 := bf BK173.out 1; have hfz19_2 := bf BK173.out 2; have hfz19_3 := bf BK173.out 3; have hcz20_0 : w17.cell? ⟨gb174, 0, none⟩ = some (.slice A1_0 l1_0.length c1_0) := (bc BK174.out 0).trans rfl; have hcz20_1 : w17.cell? ⟨gb174, 1, none⟩ = some (.slice A1_1 l1_1.length c1_1) := (bc BK174.out 1).trans rfl; have hcz20_2 : w17.cell? ⟨gb174, 2, none⟩ = some (.slice A1_2 l1_2.length c1_2) := (bc BK174.out 2).trans rfl; have hcz20_3 : w17.cell? ⟨gb174, 3, none⟩ = some (.slice A1_3 l1_3.length c1_3) := (bc BK174.out 3).trans rfl; have hfz20_0 := bf BK174.out 0; have hfz20_1 := bf BK174.out 1; have hfz20_2 := bf BK174.out 2; have hfz20_3 := bf BK174.out 3) | ((with_reducible refine gate_callee (f := 39) rfl ?_); refine goesL_ (some 9) rfl rfl Try.func39 (by kernel_rfl) rfl #[.slice A0_0 l0_0.length c0_0, .slice A1_0 l1_0.length c1_0] rfl (by (try simp only [List.map_toArray, List.map_cons, List.map_nil]); first | done | rfl | (simp only [List.length_drop, List.length_take]; rfl)) ?_; (with_reducible refine (laws_eqInt64SS.calls k _ _ l0_0 _ _ l1_0 true _ ?side1 ?side2 ?side3 ?side4 A3.out).mono ?_); (case side1 => repeat (first | exact (Kd.C_below HR0_0.out HB.out) | (with_reducible refine Kd.C_alloc ?_ _) | (with_reducible refine Kd.C_drewN ?_ _) | (with_reducible refine Kd.C_drew ?_))); (case side2 => exact HC0_0.out); (case side3 => repeat (first | exact (Kd.C_below HR1_0.out HB.out) | (with_reducible refine Kd.C_alloc ?_ _) | (with_reducible refine Kd.C_drewN ?_ _) | (with_reducible refine Kd.C_drew ?_))); (case side4 => exact HC1_0.out); rintro e w' ⟨rfl, ⟨nd, rfl⟩⟩; refine ⟨_, rfl, ?_⟩) | ((with_reducible refine gate_callee (f := 39) rfl ?_); refine goesL_ (some 15) rfl rfl Try.func39 (by kernel_rfl) rfl #[.slice A0_1 l0_1.length c0_1, .slice A1_1 l1_1.length c1_1] rfl (by (try simp only [List.map_toArray, List.map_cons, List.map_nil]); first | done | rfl | (simp only [List.length_drop, List.length_take]; rfl)) ?_; (with_reducible refine (laws_eqInt64SS.calls k _ _ l0_1 _ _ l1_1 true _ ?side1 ?side2 ?side3 ?side4 A5.out).mono ?_); (case side1 => repeat (first | exact (Kd.C_below HR0_1.out (by repeat (first | (with_reducible first | exact HB.out | apply pA | apply pN | apply pD | refine pS ?_ GE173.out | refine pS ?_ GE174.out) | exact HB.out))) | (with_reducible refine Kd.C_alloc ?_ _) | (with_reducible refine Kd.C_drewN ?_ _) | (with_reducible refine Kd.C_drew ?_))); (case side2 => exact HC0_1.out); (case side3 => repeat (first | exact (Kd.C_below HR1_1.out (by repeat (first | (with_reducible first | exact HB.out | apply pA | apply pN | apply pD | refine pS ?_ GE173.out | refine pS ?_ GE174.out) | exact HB.out))) | (with_reducible refine Kd.C_alloc ?_ _) | (with_reducible refine Kd.C_drewN ?_ _) | (with_reducible refine Kd.C_drew ?_))); (case side4 => exact HC1_1.out); rintro e w' ⟨rfl, ⟨nd, rfl⟩⟩; refine ⟨_, rfl, ?_⟩) | ((with_reducible refine gate_callee (f := 14) rfl ?_); refine goesL_ (some 21) rfl rfl Try.func14 (by kernel_rfl) rfl #[.slice A0_2 l0_2.length c0_2, .slice A1_2 l1_2.length c1_2] rfl (by (try simp only [List.map_toArray, List.map_cons, List.map_nil]); first | done | rfl | (simp only [List.length_drop, List.length_take]; rfl)) ?_; (with_reducible refine (laws_eqInt64S.calls k _ _ l0_2 _ _ l1_2 true _ ?side1 ?side2 ?side3 ?side4 A7.out).mono ?_); (case side1 => repeat (first | exact (Kd.C_below HR0_2.out (by repeat (first | (with_reducible first | exact HB.out | apply pA | apply pN | apply pD | refine pS ?_ GE173.out | refine pS ?_ GE174.out) | exact HB.out))) | (with_reducible refine Kd.C_alloc ?_ _) | (with_reducible refine Kd.C_drewN ?_ _) | (with_reducible refine Kd.C_drew ?_))); (case side2 => exact HC0_2.out); (case side3 => repeat (first | exact (Kd.C_below HR1_2.out (by repeat (first | (with_reducible first | exact HB.out | apply pA | apply pN | apply pD | refine pS ?_ GE173.out | refine pS ?_ GE174.out) | exact HB.out))) | (with_reducible refine Kd.C_alloc ?_ _) | (with_reducible refine Kd.C_drewN ?_ _) | (with_reducible refine Kd.C_drew ?_))); (case side4 => exact HC1_2.out); rintro e w' ⟨rfl, ⟨nd, rfl⟩⟩; refine ⟨_, rfl, ?_⟩) | ((with_reducible refine gate_callee (f := 40) rfl ?_); refine goesL_ (some 27) rfl rfl Try.func40 (by kernel_rfl) rfl #[.slice A0_3 l0_3.length c0_3, .slice A1_3 l1_3.length c1_3] rfl (by (try simp only [List.map_toArray, List.map_cons, List.map_nil]); first | done | rfl | (simp only [List.length_drop, List.length_take]; rfl)) ?_; (with_reducible refine (laws_eqBoolS.calls k _ _ l0_3 _ _ l1_3 false _ ?side1 ?side2 ?side3 ?side4 A9.out).mono ?_); (case side1 => repeat (first | exact (Kd.C_below HR0_3.out (by repeat (first | (with_reducible first | exact HB.out | apply pA | apply pN | apply pD | refine pS ?_ GE173.out | refine pS ?_ GE174.out) | exact HB.out))) | (with_reducible refine Kd.C_alloc ?_ _) | (with_reducible refine Kd.C_drewN ?_ _) | (with_reducible refine Kd.C_drew ?_))); (case side2 => exact HC0_3.out); (case side3 => repeat (first | exact (Kd.C_below HR1_3.out (by repeat (first | (with_reducible first | exact HB.out | apply pA | apply pN | apply pD | refine pS ?_ GE173.out | refine pS ?_ GE174.out) | exact HB.out))) | (with_reducible refine Kd.C_alloc ?_ _) | (with_reducible refine Kd.C_drewN ?_ _) | (with_reducible refine Kd.C_drew ?_))); (case side4 => exact HC1_3.out); rintro e w' ⟨rfl, ⟨nd, rfl⟩⟩; refine ⟨_, rfl, ?_⟩))
 go_ret
 exact ⟨by first | rfl | (simp [errW_none, errW_some] <;> rfl) | (simp [*, errW_none, errW_some] <;> rfl), by repeat (first | (with_reducible first | exact HB.out | apply pA | apply pN | apply pD | refine pS ?_ GE173.out | refine pS ?_ GE174.out) | exact HB.out)⟩
end Go.Proofs.Ytgfilbgjnloopaa.P
namespace Go.Proofs.Ytgfilbgjnloopaa.P
open Go.RowKit Go.Proofs.YtgfilbgjnloopaaW.PrintWords Go.Proofs.YtgfilbgjnloopaaW.PrintLast Go.Proofs.YtgfilbgjnloopaaW.PrintMore
attribute [local go_sem] max2_int min2_int max_two min_two max_three min_three max_four min_four
set_option linter.unusedVariables false
set_option linter.unusedSimpArgs false
def spec_l00In.f (a0 : Int) (a1 : Int) (a2 : Int) : Option (Bool) := if a0 ≥ a1 then (some (decide (a0 ≤ a2))) else (some false)
set_option maxHeartbeats 8000000 in
set_option maxRecDepth 100000 in
theorem spec_l00In.calls (a0 : Int) (a1 : Int) (a2 : Int) (r : Bool) (w : World) (h : spec_l00In.f a0 a1 a2 = some r) :
  Calls Try.prog 51 #[.int .i64 a0, .int .i64 a1, .int .i64 a2] w fun e w' => e = .returned (.bool r) ∧ Drawn0 w w' := by
 have H : (if a0 ≥ a1 then (some (decide (a0 ≤ a2))) else (some false)) = some r := h
 clear h
 by_cases c4 : a0 ≥ a1
 ·rw [if_pos c4] at H
  have c4b0 : decide (a1 ≤ a0) = true := decide_eq_true c4
  clear c4
  obtain rfl := Option.some.inj H
  go_enter Try.func51, Try.ntmps51
  go_wp2
  go_ret
  exact ⟨by first | rfl | (simp; done) | (simp [*]; done), by repeat (first | exact Drawn0.refl _ | apply Drawn0.step)⟩
 rw [if_neg c4] at H
 have c4b0 : decide (a1 ≤ a0) = false := decide_eq_false c4
 clear c4
 obtain rfl := Option.some.inj H
 go_enter Try.func51, Try.ntmps51
 go_wp2
 go_ret
 exact ⟨by first | rfl | (simp; done) | (simp [*]; done), by repeat (first | exact Drawn0.refl _ | apply Drawn0.step)⟩
end Go.Proofs.Ytgfilbgjnloopaa.P
namespace Go.Proofs.Ytgfilbgjnloopaa.P
open Go.RowKit Go.Proofs.YtgfilbgjnloopaaW.PrintWords Go.Proofs.YtgfilbgjnloopaaW.PrintLast Go.Proofs.YtgfilbgjnloopaaW.PrintMore
attribute [local go_sem] max2_int min2_int max_two min_two max_three min_three max_four min_four
set_option linter.unusedVariables false
set_option linter.unusedSimpArgs false
def spec_l02List.l0 : Nat → List Int → Int → Int → Option (Bool)
 | 0, _, _, _ => none
 | k + 1, x0, x2, x7 => if x7 < (x0.length : Int) then (if 0 ≤ x7 then ((spec_l00In.f (rd x0 x7) 0 (wrap64 (x2 - 1))).bind fun t109 => (if t109 = true then (spec_l02List.l0 k x0 x2 (wrap64 (x7 + 1))) else (some false))) else (none)) else (some true)
def spec_l02List.f (k : Nat) (l0 : List Int) (a1 : Int) (a2 : Int) : Option (Bool) := if (l0.length : Int) = a1 then (spec_l02List.l0 k l0 a2 0) else (some false)
set_option maxHeartbeats 8000000 in
set_option maxRecDepth 100000 in
theorem spec_l02List.calls (k : Nat) (A0 : Option Addr) (c0 : Nat) (l0 : List Int) (a1 : Int) (a2 : Int) (r : Bool) (w : World) (hr0 : Kd.C (Kd.int .i64) w A0 l0.length l0) (hc0 : l0.length ≤ c0) (h : spec_l02List.f k l0 a1 a2 = some r) :
  Calls Try.prog 52 #[.slice A0 l0.length c0, .int .i64 a1, .int .i64 a2] w fun e w' => e = .returned (.bool r) ∧ Drawn0 w w' := by
 have HR0 := AZ.mk hr0
 have HC0 := AZ.mk hc0
 clear hr0 hc0
 have H : (if (l0.length : Int) = a1 then (spec_l02List.l0 k l0 a2 0) else (some false)) = some r := h
 clear h
 by_cases c4 : (l0.length : Int) = a1
 rotate_left
 ·rw [if_neg c4] at H
  have c4b0 : ((l0.length : Int) == a1) = false := beq_eq_false_iff_ne.mpr c4
  have c4b1 : ((l0.length : Int) != a1) = true := bne_iff_ne.mpr c4
  obtain rfl := Option.some.inj H
  go_enter Try.func52, Try.ntmps52
  go_wp2
  go_ret
  exact ⟨by first | rfl | (simp; done) | (simp [*]; done), by repeat (first | exact Drawn0.refl _ | apply Drawn0.step)⟩
 rw [if_pos c4] at H
 have c4b0 : ((l0.length : Int) == a1) = true := beq_iff_eq.mpr c4
 have c4b1 : ((l0.length : Int) != a1) = false := bne_eq_false_iff_eq.mpr c4
 clear c4
 have H' := AZ.mk H
 clear H
 go_enter Try.func52, Try.ntmps52
 go_wp2
 go_loopg [7] k (fun kq v7 w' => ∃ (x7_1 : Int), v7 = .int .i64 x7_1 ∧ AZ (spec_l02List.l0 kq l0 a2 x7_1 = some r) ∧ AZ (kq ≤ k) ∧ Drawn0 w w')
 case atStart => exact ⟨(0), (by first | rfl | (simp; done) | (simp [*]; done)), H', ⟨Nat.le_refl _⟩, by repeat (first | exact Drawn0.refl _ | apply Drawn0.step)⟩
 case round =>
  clear H'
  try clear p2
  try clear c4
  try clear c4b0
  try clear c4b1
  obtain ⟨x7_1, rfl, HA, HK1, ⟨m1, rfl⟩⟩ := hrel
  cases gk with
  | zero => exact absurd HA.out (by simp [spec_l02List.l0])
  | succ k1 =>
   have H := HA.out
   clear HA
   simp only [spec_l02List.l0] at H
   by_cases c5 : x7_1 < (l0.length : Int)
   rotate_left
   ·rw [if_neg c5] at H
    have c5b0 : decide (x7_1 < (l0.length : Int)) = false := decide_eq_false c5
    clear c5
    obtain rfl := Option.some.inj H
    go_wp2
    go_ret
    exact ⟨by first | rfl | (simp; done) | (simp [*]; done), by repeat (first | exact Drawn0.refl _ | apply Drawn0.step)⟩
   rw [if_pos c5] at H
   have c5b0 : decide (x7_1 < (l0.length : Int)) = true := decide_eq_true c5
   clear c5
   by_cases c6 : 0 ≤ x7_1
   rotate_left
   ·rw [if_neg c6] at H
    exact absurd H (by simp)
   rw [if_pos c6] at H
   have c6b0 : decide (0 ≤ x7_1) = true := decide_eq_true c6
   clear c6
   replace H := Option.bind_eq_some_iff.mp H
   obtain ⟨t109, A70, H⟩ := H
   replace H : (if t109 = true then (spec_l02List.l0 k1 l0 a2 (wrap64 (x7_1 + 1))) else (some false)) = some r := H
   have A7 := AZ.mk A70
   clear A70
   by_cases c8 : t109 = true
   rotate_left
   ·replace c8 := Bool.eq_false_iff.mpr c8
    subst c8
    have H1 : (some false) = some r := by rw [if_neg (show ¬ (false = true) by decide)] at H; exact H
    clear H
    have H := H1
    clear H1
    obtain rfl := Option.some.inj H
    have p108 : 0 ≤ (x7_1 : Int) := oT (by first | (with_reducible assumption) | assumption)
    have q108 : x7_1 < (l0.length : Int) := oT (by first | (with_reducible assumption) | assumption)
    obtain ⟨ad108, e108, hx108_0⟩ := Kd.at_int HR0.out x7_1 p108 q108
    cases e108
    replace p108 := eq_true p108
    replace q108 := eq_true q108
    go_wp2_with (first | ((with_reducible refine gate_callee (f := 51) rfl ?_); refine goesL_ (some 24) rfl rfl Try.func51 (by kernel_rfl) rfl #[.int .i64 (rd l0 x7_1), .int .i64 0, .int .i64 (wrap64 (a2 - 1))] rfl (by (try simp only [List.map_toArray, List.map_cons, List.map_nil]); first | done | rfl | (simp only [List.length_drop, List.length_take]; rfl)) ?_; (with_reducible refine (spec_l00In.calls (rd l0 x7_1) 0 (wrap64 (a2 - 1)) false _ A7.out).mono ?_); rintro e w' ⟨rfl, ⟨nd, rfl⟩⟩; refine ⟨_, rfl, ?_⟩))
    go_ret
    exact ⟨by first | rfl | (simp; done) | (simp [*]; done), by repeat (first | exact Drawn0.refl _ | apply Drawn0.step)⟩
   subst c8
   have H1 : (spec_l02List.l0 k1 l0 a2 (wrap64 (x7_1 + 1))) = some r := by rw [if_pos rfl] at H; exact H
   clear H
   have H := H1
   clear H1
   have H' := AZ.mk H
   clear H
   have p108 : 0 ≤ (x7_1 : Int) := oT (by first | (with_reducible assumption) | assumption)
   have q108 : x7_1 < (l0.length : Int) := oT (by first | (with_reducible assumption) | assumption)
   obtain ⟨ad108, e108, hx108_0⟩ := Kd.at_int HR0.out x7_1 p108 q108
   cases e108
   replace p108 := eq_true p108
   replace q108 := eq_true q108
   go_wp2_with (first | ((with_reducible refine gate_callee (f := 51) rfl ?_); refine goesL_ (some 24) rfl rfl Try.func51 (by kernel_rfl) rfl #[.int .i64 (rd l0 x7_1), .int .i64 0, .int .i64 (wrap64 (a2 - 1))] rfl (by (try simp only [List.map_toArray, List.map_cons, List.map_nil]); first | done | rfl | (simp only [List.length_drop, List.length_take]; rfl)) ?_; (with_reducible refine (spec_l00In.calls (rd l0 x7_1) 0 (wrap64 (a2 - 1)) true _ A7.out).mono ?_); rintro e w' ⟨rfl, ⟨nd, rfl⟩⟩; refine ⟨_, rfl, ?_⟩))
   go_roundg k1
   case measure => have := HK1.out; omega
   case rel => exact ⟨(wrap64 (x7_1 + 1)), (by first | rfl | (simp; done) | (simp [*]; done)), H', ⟨by have := HK1.out; omega⟩, by repeat (first | exact Drawn0.refl _ | apply Drawn0.step)⟩
end Go.Proofs.Ytgfilbgjnloopaa.P
namespace Go.Proofs.Ytgfilbgjnloopaa.P
open Go.RowKit Go.Proofs.YtgfilbgjnloopaaW.PrintWords Go.Proofs.YtgfilbgjnloopaaW.PrintLast Go.Proofs.YtgfilbgjnloopaaW.PrintMore
attribute [local go_sem] max2_int min2_int max_two min_two max_three min_three max_four min_four
set_option linter.unusedVariables false
set_option linter.unusedSimpArgs false
mutual
def spec_l04Ok.j0 : Nat → Int → Bool → List (List Int) → List (List Int) → List Int → List Bool → Option (Bool)
 | 0, _, _, _, _, _, _ => none
 | k + 1, x3, x42, x1000, x1001, x1002, x1003 => if x42 = true then (some false) else (spec_l04Ok.l0 k x3 0 x1000 x1001 x1002 x1003)
def spec_l04Ok.l0 : Nat → Int → Int → List (List Int) → List (List Int) → List Int → List Bool → Option (Bool)
 | 0, _, _, _, _, _, _ => none
 | k + 1, x3, x4, x1000, x1001, x1002, x1003 => if x4 < x3 then (if 0 ≤ x4 then (if x4 < (x1000.length : Int) then ((spec_l02List.f k (rd_L1 x1000 x4) x3 x3).bind fun t113 => (if t113 = true then (spec_l04Ok.l0 k x3 (wrap64 (x4 + 1)) x1000 x1001 x1002 x1003) else (some false))) else (none)) else (none)) else (spec_l04Ok.l1 k x3 0 x1000 x1001 x1002 x1003)
def spec_l04Ok.l1 : Nat → Int → Int → List (List Int) → List (List Int) → List Int → List Bool → Option (Bool)
 | 0, _, _, _, _, _, _ => none
 | k + 1, x3, x5, x1000, x1001, x1002, x1003 => if x5 < 4 then (if 0 ≤ x5 then (if x5 < (x1001.length : Int) then ((spec_l02List.f k (rd_L1 x1001 x5) x3 x3).bind fun t115 => (if t115 = true then (spec_l04Ok.l1 k x3 (wrap64 (x5 + 1)) x1000 x1001 x1002 x1003) else (some false))) else (none)) else (none)) else (spec_l04Ok.l2 k x3 0 x1000 x1001 x1002 x1003)
def spec_l04Ok.l2 : Nat → Int → Int → List (List Int) → List (List Int) → List Int → List Bool → Option (Bool)
 | 0, _, _, _, _, _, _ => none
 | k + 1, x3, x6, x1000, x1001, x1002, x1003 => if x6 < x3 then (if 0 < (x1000.length : Int) then (if 0 ≤ x6 then (if x6 < ((rd_L1 x1000 0).length : Int) then (if (rd (rd_L1 x1000 0) x6) = x6 then (if x6 < (x1000.length : Int) then (if 0 < ((rd_L1 x1000 x6).length : Int) then (spec_l04Ok.j4 k x3 x6 ((rd (rd_L1 x1000 x6) 0) != x6) x1000 x1001 x1002 x1003) else (none)) else (none)) else (spec_l04Ok.j4 k x3 x6 true x1000 x1001 x1002 x1003)) else (none)) else (none)) else (none)) else (some true)
def spec_l04Ok.j4 : Nat → Int → Int → Bool → List (List Int) → List (List Int) → List Int → List Bool → Option (Bool)
 | 0, _, _, _, _, _, _, _ => none
 | k + 1, x3, x6, x102, x1000, x1001, x1002, x1003 => if x102 = true then (some false) else (spec_l04Ok.l3 k x3 x6 0 x1000 x1001 x1002 x1003)
def spec_l04Ok.l3 : Nat → Int → Int → Int → List (List Int) → List (List Int) → List Int → List Bool → Option (Bool)
 | 0, _, _, _, _, _, _, _ => none
 | k + 1, x3, x6, x7, x1000, x1001, x1002, x1003 => if x7 < x3 then (spec_l04Ok.l4 k x3 x6 x7 0 x1000 x1001 x1002 x1003) else (spec_l04Ok.l2 k x3 (wrap64 (x6 + 1)) x1000 x1001 x1002 x1003)
def spec_l04Ok.l4 : Nat → Int → Int → Int → Int → List (List Int) → List (List Int) → List Int → List Bool → Option (Bool)
 | 0, _, _, _, _, _, _, _, _ => none
 | k + 1, x3, x6, x7, x8, x1000, x1001, x1002, x1003 => if x8 < x3 then (if 0 ≤ x6 then (if x6 < (x1000.length : Int) then (if 0 ≤ x7 then (if x7 < ((rd_L1 x1000 x6).length : Int) then (if 0 ≤ (rd (rd_L1 x1000 x6) x7) then (if (rd (rd_L1 x1000 x6) x7) < (x1000.length : Int) then (if 0 ≤ x8 then (if x8 < ((rd_L1 x1000 (rd (rd_L1 x1000 x6) x7)).length : Int) then (if x7 < (x1000.length : Int) then (if x8 < ((rd_L1 x1000 x7).length : Int) then (if 0 ≤ (rd (rd_L1 x1000 x7) x8) then (if (rd (rd_L1 x1000 x7) x8) < ((rd_L1 x1000 x6).length : Int) then (if (rd (rd_L1 x1000 (rd (rd_L1 x1000 x6) x7)) x8) = (rd (rd_L1 x1000 x6) (rd (rd_L1 x1000 x7) x8)) then (spec_l04Ok.l4 k x3 x6 x7 (wrap64 (x8 + 1)) x1000 x1001 x1002 x1003) else (some false)) else (none)) else (none)) else (none)) else (none)) else (none)) else (none)) else (none)) else (none)) else (none)) else (none)) else (none)) else (none)) else (spec_l04Ok.l3 k x3 x6 (wrap64 (x7 + 1)) x1000 x1001 x1002 x1003)
end
def spec_l04Ok.f (k : Nat) (l0_0 : List (List Int)) (l0_1 : List (List Int)) (l0_2 : List Int) (l0_3 : List Bool) : Option (Bool) := (spec_l00In.f (l0_3.length : Int) 1 40).bind fun t110 => (if t110 = true then (if (l0_0.length : Int) = (l0_3.length : Int) then (if (l0_1.length : Int) = 4 then ((spec_l02List.f k l0_2 2 (l0_3.length : Int)).bind fun t111 => (spec_l04Ok.j0 k (l0_3.length : Int) (!t111) l0_0 l0_1 l0_2 l0_3)) else (spec_l04Ok.j0 k (l0_3.length : Int) true l0_0 l0_1 l0_2 l0_3)) else (spec_l04Ok.j0 k (l0_3.length : Int) true l0_0 l0_1 l0_2 l0_3)) else (spec_l04Ok.j0 k (l0_3.length : Int) true l0_0 l0_1 l0_2 l0_3))
set_option maxHeartbeats 8000000 in
set_option maxRecDepth 100000 in
theorem spec_l04Ok.calls (k : Nat) (g0_ : Nat) (A0_0 : Option Addr) (c0_0 : Nat) (l0_0 : List (List Int)) (A0_1 : Option Addr) (c0_1 : Nat) (l0_1 : List (List Int)) (A0_2 : Option Addr) (c0_2 : Nat) (l0_2 : List Int) (A0_3 : Option Addr) (c0_3 : Nat) (l0_3 : List Bool) (r : Bool) (w : World) (hr0_0 : Kd.C (Kd.slice 2 (Kd.int .i64)) w A0_0 l0_0.length l0_0) (hc0_0 : l0_0.length ≤ c0_0) (hr0_1 : Kd.C (Kd.slice 2 (Kd.int .i64)) w A0_1 l0_1.length l0_1) (hc0_1 : l0_1.length ≤ c0_1) (hr0_2 : Kd.C (Kd.int .i64) w A0_2 l0_2.length l0_2) (hc0_2 : l0_2.length ≤ c0_2) (hr0_3 : Kd.C Kd.bool w A0_3 l0_3.length l0_3) (hc0_3 : l0_3.length ≤ c0_3) (hbk0_0 : w.heap[g0_]? = some (.cells #[.slice A0_0 l0_0.length c0_0, .slice A0_1 l0_1.length c0_1, .slice A0_2 l0_2.length c0_2, .slice A0_3 l0_3.length c0_3] 29 (0, 0))) (h : spec_l04Ok.f k l0_0 l0_1 l0_2 l0_3 = some r) :
  Calls Try.prog 25 #[.pointer (some ⟨g0_, 0, none⟩)] w fun e w' => e = .returned (.bool r) ∧ Drawn0 w w' := by
 have HR0_0 := AZ.mk hr0_0
 have HC0_0 := AZ.mk hc0_0
 clear hr0_0 hc0_0
 have HR0_1 := AZ.mk hr0_1
 have HC0_1 := AZ.mk hc0_1
 clear hr0_1 hc0_1
 have HR0_2 := AZ.mk hr0_2
 have HC0_2 := AZ.mk hc0_2
 clear hr0_2 hc0_2
 have HR0_3 := AZ.mk hr0_3
 have HC0_3 := AZ.mk hc0_3
 clear hr0_3 hc0_3
 have BK0 := AZ.mk hbk0_0
 clear hbk0_0
 have H : ((spec_l00In.f (l0_3.length : Int) 1 40).bind fun t110 => (if t110 = true then (if (l0_0.length : Int) = (l0_3.length : Int) then (if (l0_1.length : Int) = 4 then ((spec_l02List.f k l0_2 2 (l0_3.length : Int)).bind fun t111 => (spec_l04Ok.j0 k (l0_3.length : Int) (!t111) l0_0 l0_1 l0_2 l0_3)) else (spec_l04Ok.j0 k (l0_3.length : Int) true l0_0 l0_1 l0_2 l0_3)) else (spec_l04Ok.j0 k (l0_3.length : Int) true l0_0 l0_1 l0_2 l0_3)) else (spec_l04Ok.j0 k (l0_3.length : Int) true l0_0 l0_1 l0_2 l0_3))) = some r := h
 clear h
 have HC2 := AZ.mk H
 clear H
 have hcz3_0 : w.cell? ⟨g0_, 0, none⟩ = some (.slice A0_0 l0_0.length c0_0) := (bc BK0.out 0).trans rfl
 have hcz3_1 : w.cell? ⟨g0_, 1, none⟩ = some (.slice A0_1 l0_1.length c0_1) := (bc BK0.out 1).trans rfl
 have hcz3_2 : w.cell? ⟨g0_, 2, none⟩ = some (.slice A0_2 l0_2.length c0_2) := (bc BK0.out 2).trans rfl
 have hcz3_3 : w.cell? ⟨g0_, 3, none⟩ = some (.slice A0_3 l0_3.length c0_3) := (bc BK0.out 3).trans rfl
 have hfz3_0 := bf BK0.out 0
 have hfz3_1 := bf BK0.out 1
 have hfz3_2 := bf BK0.out 2
 have hfz3_3 := bf BK0.out 3
 go_enter Try.func25, Try.ntmps25
 go_upto_region 2 with (fail)
 repeat (go_quiet (fail); go_upto_region 2 with (fail))
 go_cut [42] (fun v42 wc => ∃ (kq : Nat) (x42_1 : Bool), v42 = .bool x42_1 ∧ AZ (spec_l04Ok.j0 kq (l0_3.length : Int) x42_1 l0_0 l0_1 l0_2 l0_3 = some r) ∧ AZ (kq ≤ k) ∧ Drawn0 w wc)
 case first =>
  have H := HC2.out
  clear HC2
  replace H := Option.bind_eq_some_iff.mp H
  obtain ⟨t110, A40, H⟩ := H
  replace H : (if t110 = true then (if (l0_0.length : Int) = (l0_3.length : Int) then (if (l0_1.length : Int) = 4 then ((spec_l02List.f k l0_2 2 (l0_3.length : Int)).bind fun t111 => (spec_l04Ok.j0 k (l0_3.length : Int) (!t111) l0_0 l0_1 l0_2 l0_3)) else (spec_l04Ok.j0 k (l0_3.length : Int) true l0_0 l0_1 l0_2 l0_3)) else (spec_l04Ok.j0 k (l0_3.length : Int) true l0_0 l0_1 l0_2 l0_3)) else (spec_l04Ok.j0 k (l0_3.length : Int) true l0_0 l0_1 l0_2 l0_3)) = some r := H
  have A4 := AZ.mk A40
  clear A40
  by_cases c5 : t110 = true
  rotate_left
  ·replace c5 := Bool.eq_false_iff.mpr c5
   subst c5
   have H1 : (spec_l04Ok.j0 k (l0_3.length : Int) true l0_0 l0_1 l0_2 l0_3) = some r := by rw [if_neg (show ¬ (false = true) by decide)] at H; exact H
   clear H
   have H := H1
   clear H1
   have H' := AZ.mk H
   clear H
   go_wp2_with (first | (go_at_call 51; (with_reducible refine (spec_l00In.calls (l0_3.length : Int) 1 40 false _ A4.out).mono ?_); rintro e w' ⟨rfl, ⟨nd, rfl⟩⟩; (try first | exact ⟨rfl, _, World.drewN_drewN _ _ _⟩ | exact ⟨rfl, _, Eq.trans (World.drewN_drewN _ _ _) (congrArg (World.drewN _) (Nat.add_assoc _ _ _))⟩)))
   repeat (go_quiet (first | (go_at_call 51; (with_reducible refine (spec_l00In.calls (l0_3.length : Int) 1 40 false _ A4.out).mono ?_); rintro e w' ⟨rfl, ⟨nd, rfl⟩⟩; (try first | exact ⟨rfl, _, World.drewN_drewN _ _ _⟩ | exact ⟨rfl, _, Eq.trans (World.drewN_drewN _ _ _) (congrArg (World.drewN _) (Nat.add_assoc _ _ _))⟩))); try go_wp2_with (first | (go_at_call 51; (with_reducible refine (spec_l00In.calls (l0_3.length : Int) 1 40 false _ A4.out).mono ?_); rintro e w' ⟨rfl, ⟨nd, rfl⟩⟩; (try first | exact ⟨rfl, _, World.drewN_drewN _ _ _⟩ | exact ⟨rfl, _, Eq.trans (World.drewN_drewN _ _ _) (congrArg (World.drewN _) (Nat.add_assoc _ _ _))⟩))))
   go_meet
   case rel => exact ⟨_, (true), (by first | rfl | (simp; done) | (simp [*]; done)), H', ⟨by first | omega | exact Nat.le_refl _⟩, by repeat (first | exact Drawn0.refl _ | apply Drawn0.step)⟩
  subst c5
  have H1 : (if (l0_0.length : Int) = (l0_3.length : Int) then (if (l0_1.length : Int) = 4 then ((spec_l02List.f k l0_2 2 (l0_3.length : Int)).bind fun t111 => (spec_l04Ok.j0 k (l0_3.length : Int) (!t111) l0_0 l0_1 l0_2 l0_3)) else (spec_l04Ok.j0 k (l0_3.length : Int) true l0_0 l0_1 l0_2 l0_3)) else (spec_l04Ok.j0 k (l0_3.length : Int) true l0_0 l0_1 l0_2 l0_3)) = some r := by rw [if_pos rfl] at H; exact H
  clear H
  have H := H1
  clear H1
  by_cases c6 : (l0_0.length : Int) = (l0_3.length : Int)
  rotate_left
  ·rw [if_neg c6] at H
   have c6b0 : ((l0_0.length : Int) == (l0_3.length : Int)) = false := beq_eq_false_iff_ne.mpr c6
   have c6b1 : ((l0_0.length : Int) != (l0_3.length : Int)) = true := bne_iff_ne.mpr c6
   have c6b2 : (l0_0.length == l0_3.length) = false := by first | simpa using c6 | (simp at c6 ⊢; omega)
   (first | rw [c6b0] | rw [c6b1] | (simp only [i64_w, i32_w]; rw [c6b0]) | skip)
   have H' := AZ.mk H
   clear H
   go_wp2_with (first | (go_at_call 51; (with_reducible refine (spec_l00In.calls (l0_3.length : Int) 1 40 true _ A4.out).mono ?_); rintro e w' ⟨rfl, ⟨nd, rfl⟩⟩; (try first | exact ⟨rfl, _, World.drewN_drewN _ _ _⟩ | exact ⟨rfl, _, Eq.trans (World.drewN_drewN _ _ _) (congrArg (World.drewN _) (Nat.add_assoc _ _ _))⟩); have hcz11_0 : w.cell? ⟨g0_, 0, none⟩ = some (.slice A0_0 l0_0.length c0_0) := (bc BK0.out 0).trans rfl; have hcz11_1 : w.cell? ⟨g0_, 1, none⟩ = some (.slice A0_1 l0_1.length c0_1) := (bc BK0.out 1).trans rfl; have hcz11_2 : w.cell? ⟨g0_, 2, none⟩ = some (.slice A0_2 l0_2.length c0_2) := (bc BK0.out 2).trans rfl; have hcz11_3 : w.cell? ⟨g0_, 3, none⟩ = some (.slice A0_3 l0_3.length c0_3) := (bc BK0.out 3).trans rfl; have hfz11_0 := bf BK0.out 0; have hfz11_1 := bf BK0.out 1; have hfz11_2 := bf BK0.out 2; have hfz11_3 := bf BK0.out 3))
   repeat (go_quiet (first | (go_at_call 51; (with_reducible refine (spec_l00In.calls (l0_3.length : Int) 1 40 true _ A4.out).mono ?_); rintro e w' ⟨rfl, ⟨nd, rfl⟩⟩; (try first | exact ⟨rfl, _, World.drewN_drewN _ _ _⟩ | exact ⟨rfl, _, Eq.trans (World.drewN_drewN _ _ _) (congrArg (World.drewN _) (Nat.add_assoc _ _ _))⟩); have hcz11_0 : w.cell? ⟨g0_, 0, none⟩ = some (.slice A0_0 l0_0.length c0_0) := (bc BK0.out 0).trans rfl; have hcz11_1 : w.cell? ⟨g0_, 1, none⟩ = some (.slice A0_1 l0_1.length c0_1) := (bc BK0.out 1).trans rfl; have hcz11_2 : w.cell? ⟨g0_, 2, none⟩ = some (.slice A0_2 l0_2.length c0_2) := (bc BK0.out 2).trans rfl; have hcz11_3 : w.cell? ⟨g0_, 3, none⟩ = some (.slice A0_3 l0_3.length c0_3) := (bc BK0.out 3).trans rfl; have hfz11_0 := bf BK0.out 0; have hfz11_1 := bf BK0.out 1; have hfz11_2 := bf BK0.out 2; have hfz11_3 := bf BK0.out 3)); try go_wp2_with (first | (go_at_call 51; (with_reducible refine (spec_l00In.calls (l0_3.length : Int) 1 40 true _ A4.out).mono ?_); rintro e w' ⟨rfl, ⟨nd, rfl⟩⟩; (try first | exact ⟨rfl, _, World.drewN_drewN _ _ _⟩ | exact ⟨rfl, _, Eq.trans (World.drewN_drewN _ _ _) (congrArg (World.drewN _) (Nat.add_assoc _ _ _))⟩); have hcz11_0 : w.cell? ⟨g0_, 0, none⟩ = some (.slice A0_0 l0_0.length c0_0) := (bc BK0.out 0).trans rfl; have hcz11_1 : w.cell? ⟨g0_, 1, none⟩ = some (.slice A0_1 l0_1.length c0_1) := (bc BK0.out 1).trans rfl; have hcz11_2 : w.cell? ⟨g0_, 2, none⟩ = some (.slice A0_2 l0_2.length c0_2) := (bc BK0.out 2).trans rfl; have hcz11_3 : w.cell? ⟨g0_, 3, none⟩ = some (.slice A0_3 l0_3.length c0_3) := (bc BK0.out 3).trans rfl; have hfz11_0 := bf BK0.out 0; have hfz11_1 := bf BK0.out 1; have hfz11_2 := bf BK0.out 2; have hfz11_3 := bf BK0.out 3)))
   go_meet
   case rel => exact ⟨_, (true), (by first | rfl | (simp; done) | (simp [*]; done)), H', ⟨by first | omega | exact Nat.le_refl _⟩, by repeat (first | exact Drawn0.refl _ | apply Drawn0.step)⟩
  rw [if_pos c6] at H
  have c6b0 : ((l0_0.length : Int) == (l0_3.length : Int)) = true := beq_iff_eq.mpr c6
  have c6b1 : ((l0_0.length : Int) != (l0_3.length : Int)) = false := bne_eq_false_iff_eq.mpr c6
  have c6b2 : (l0_0.length == l0_3.length) = true := by first | simpa using c6 | (simp at c6 ⊢; omega)
  clear c6
  (first | rw [c6b0] | rw [c6b1] | (simp only [i64_w, i32_w]; rw [c6b0]) | skip)
  by_cases c7 : (l0_1.length : Int) = 4
  rotate_left
  ·rw [if_neg c7] at H
   have c7b0 : ((l0_1.length : Int) == 4) = false := beq_eq_false_iff_ne.mpr c7
   have c7b1 : ((l0_1.length : Int) != 4) = true := bne_iff_ne.mpr c7
   have H' := AZ.mk H
   clear H
   go_wp2_with (first | (go_at_call 51; (with_reducible refine (spec_l00In.calls (l0_3.length : Int) 1 40 true _ A4.out).mono ?_); rintro e w' ⟨rfl, ⟨nd, rfl⟩⟩; (try first | exact ⟨rfl, _, World.drewN_drewN _ _ _⟩ | exact ⟨rfl, _, Eq.trans (World.drewN_drewN _ _ _) (congrArg (World.drewN _) (Nat.add_assoc _ _ _))⟩); have hcz10_0 : w.cell? ⟨g0_, 0, none⟩ = some (.slice A0_0 l0_0.length c0_0) := (bc BK0.out 0).trans rfl; have hcz10_1 : w.cell? ⟨g0_, 1, none⟩ = some (.slice A0_1 l0_1.length c0_1) := (bc BK0.out 1).trans rfl; have hcz10_2 : w.cell? ⟨g0_, 2, none⟩ = some (.slice A0_2 l0_2.length c0_2) := (bc BK0.out 2).trans rfl; have hcz10_3 : w.cell? ⟨g0_, 3, none⟩ = some (.slice A0_3 l0_3.length c0_3) := (bc BK0.out 3).trans rfl; have hfz10_0 := bf BK0.out 0; have hfz10_1 := bf BK0.out 1; have hfz10_2 := bf BK0.out 2; have hfz10_3 := bf BK0.out 3))
   repeat (go_quiet (first | (go_at_call 51; (with_reducible refine (spec_l00In.calls (l0_3.length : Int) 1 40 true _ A4.out).mono ?_); rintro e w' ⟨rfl, ⟨nd, rfl⟩⟩; (try first | exact ⟨rfl, _, World.drewN_drewN _ _ _⟩ | exact ⟨rfl, _, Eq.trans (World.drewN_drewN _ _ _) (congrArg (World.drewN _) (Nat.add_assoc _ _ _))⟩); have hcz10_0 : w.cell? ⟨g0_, 0, none⟩ = some (.slice A0_0 l0_0.length c0_0) := (bc BK0.out 0).trans rfl; have hcz10_1 : w.cell? ⟨g0_, 1, none⟩ = some (.slice A0_1 l0_1.length c0_1) := (bc BK0.out 1).trans rfl; have hcz10_2 : w.cell? ⟨g0_, 2, none⟩ = some (.slice A0_2 l0_2.length c0_2) := (bc BK0.out 2).trans rfl; have hcz10_3 : w.cell? ⟨g0_, 3, none⟩ = some (.slice A0_3 l0_3.length c0_3) := (bc BK0.out 3).trans rfl; have hfz10_0 := bf BK0.out 0; have hfz10_1 := bf BK0.out 1; have hfz10_2 := bf BK0.out 2; have hfz10_3 := bf BK0.out 3)); try go_wp2_with (first | (go_at_call 51; (with_reducible refine (spec_l00In.calls (l0_3.length : Int) 1 40 true _ A4.out).mono ?_); rintro e w' ⟨rfl, ⟨nd, rfl⟩⟩; (try first | exact ⟨rfl, _, World.drewN_drewN _ _ _⟩ | exact ⟨rfl, _, Eq.trans (World.drewN_drewN _ _ _) (congrArg (World.drewN _) (Nat.add_assoc _ _ _))⟩); have hcz10_0 : w.cell? ⟨g0_, 0, none⟩ = some (.slice A0_0 l0_0.length c0_0) := (bc BK0.out 0).trans rfl; have hcz10_1 : w.cell? ⟨g0_, 1, none⟩ = some (.slice A0_1 l0_1.length c0_1) := (bc BK0.out 1).trans rfl; have hcz10_2 : w.cell? ⟨g0_, 2, none⟩ = some (.slice A0_2 l0_2.length c0_2) := (bc BK0.out 2).trans rfl; have hcz10_3 : w.cell? ⟨g0_, 3, none⟩ = some (.slice A0_3 l0_3.length c0_3) := (bc BK0.out 3).trans rfl; have hfz10_0 := bf BK0.out 0; have hfz10_1 := bf BK0.out 1; have hfz10_2 := bf BK0.out 2; have hfz10_3 := bf BK0.out 3)))
   go_meet
   case rel => exact ⟨_, (true), (by first | rfl | (simp; done) | (simp [*]; done)), H', ⟨by first | omega | exact Nat.le_refl _⟩, by repeat (first | exact Drawn0.refl _ | apply Drawn0.step)⟩
  rw [if_pos c7] at H
  have c7b0 : ((l0_1.length : Int) == 4) = true := beq_iff_eq.mpr c7
  have c7b1 : ((l0_1.length : Int) != 4) = false := bne_eq_false_iff_eq.mpr c7
  clear c7
  replace H := Option.bind_eq_some_iff.mp H
  obtain ⟨t111, A80, H⟩ := H
  replace H : (spec_l04Ok.j0 k (l0_3.length : Int) (!t111) l0_0 l0_1 l0_2 l0_3) = some r := H
  have A8 := AZ.mk A80
  clear A80
  have H' := AZ.mk H
  clear H
  go_wp2_with (first | (go_at_call 51; (with_reducible refine (spec_l00In.calls (l0_3.length : Int) 1 40 true _ A4.out).mono ?_); rintro e w' ⟨rfl, ⟨nd, rfl⟩⟩; (try first | exact ⟨rfl, _, World.drewN_drewN _ _ _⟩ | exact ⟨rfl, _, Eq.trans (World.drewN_drewN _ _ _) (congrArg (World.drewN _) (Nat.add_assoc _ _ _))⟩); have hcz9_0 : w.cell? ⟨g0_, 0, none⟩ = some (.slice A0_0 l0_0.length c0_0) := (bc BK0.out 0).trans rfl; have hcz9_1 : w.cell? ⟨g0_, 1, none⟩ = some (.slice A0_1 l0_1.length c0_1) := (bc BK0.out 1).trans rfl; have hcz9_2 : w.cell? ⟨g0_, 2, none⟩ = some (.slice A0_2 l0_2.length c0_2) := (bc BK0.out 2).trans rfl; have hcz9_3 : w.cell? ⟨g0_, 3, none⟩ = some (.slice A0_3 l0_3.length c0_3) := (bc BK0.out 3).trans rfl; have hfz9_0 := bf BK0.out 0; have hfz9_1 := bf BK0.out 1; have hfz9_2 := bf BK0.out 2; have hfz9_3 := bf BK0.out 3) | (go_at_call 52; (with_reducible refine (spec_l02List.calls k _ _ l0_2 2 (l0_3.length : Int) t111 _ ?side1 ?side2 A8.out).mono ?_); (case side1 => repeat (first | exact HR0_2.out | (with_reducible refine Kd.C_alloc ?_ _) | (with_reducible refine Kd.C_drewN ?_ _) | (with_reducible refine Kd.C_drew ?_))); (case side2 => exact HC0_2.out); rintro e w' ⟨rfl, ⟨nd, rfl⟩⟩; (try first | exact ⟨rfl, _, World.drewN_drewN _ _ _⟩ | exact ⟨rfl, _, Eq.trans (World.drewN_drewN _ _ _) (congrArg (World.drewN _) (Nat.add_assoc _ _ _))⟩)))
  repeat (go_quiet (first | (go_at_call 51; (with_reducible refine (spec_l00In.calls (l0_3.length : Int) 1 40 true _ A4.out).mono ?_); rintro e w' ⟨rfl, ⟨nd, rfl⟩⟩; (try first | exact ⟨rfl, _, World.drewN_drewN _ _ _⟩ | exact ⟨rfl, _, Eq.trans (World.drewN_drewN _ _ _) (congrArg (World.drewN _) (Nat.add_assoc _ _ _))⟩); have hcz9_0 : w.cell? ⟨g0_, 0, none⟩ = some (.slice A0_0 l0_0.length c0_0) := (bc BK0.out 0).trans rfl; have hcz9_1 : w.cell? ⟨g0_, 1, none⟩ = some (.slice A0_1 l0_1.length c0_1) := (bc BK0.out 1).trans rfl; have hcz9_2 : w.cell? ⟨g0_, 2, none⟩ = some (.slice A0_2 l0_2.length c0_2) := (bc BK0.out 2).trans rfl; have hcz9_3 : w.cell? ⟨g0_, 3, none⟩ = some (.slice A0_3 l0_3.length c0_3) := (bc BK0.out 3).trans rfl; have hfz9_0 := bf BK0.out 0; have hfz9_1 := bf BK0.out 1; have hfz9_2 := bf BK0.out 2; have hfz9_3 := bf BK0.out 3) | (go_at_call 52; (with_reducible refine (spec_l02List.calls k _ _ l0_2 2 (l0_3.length : Int) t111 _ ?side1 ?side2 A8.out).mono ?_); (case side1 => repeat (first | exact HR0_2.out | (with_reducible refine Kd.C_alloc ?_ _) | (with_reducible refine Kd.C_drewN ?_ _) | (with_reducible refine Kd.C_drew ?_))); (case side2 => exact HC0_2.out); rintro e w' ⟨rfl, ⟨nd, rfl⟩⟩; (try first | exact ⟨rfl, _, World.drewN_drewN _ _ _⟩ | exact ⟨rfl, _, Eq.trans (World.drewN_drewN _ _ _) (congrArg (World.drewN _) (Nat.add_assoc _ _ _))⟩))); try go_wp2_with (first | (go_at_call 51; (with_reducible refine (spec_l00In.calls (l0_3.length : Int) 1 40 true _ A4.out).mono ?_); rintro e w' ⟨rfl, ⟨nd, rfl⟩⟩; (try first | exact ⟨rfl, _, World.drewN_drewN _ _ _⟩ | exact ⟨rfl, _, Eq.trans (World.drewN_drewN _ _ _) (congrArg (World.drewN _) (Nat.add_assoc _ _ _))⟩); have hcz9_0 : w.cell? ⟨g0_, 0, none⟩ = some (.slice A0_0 l0_0.length c0_0) := (bc BK0.out 0).trans rfl; have hcz9_1 : w.cell? ⟨g0_, 1, none⟩ = some (.slice A0_1 l0_1.length c0_1) := (bc BK0.out 1).trans rfl; have hcz9_2 : w.cell? ⟨g0_, 2, none⟩ = some (.slice A0_2 l0_2.length c0_2) := (bc BK0.out 2).trans rfl; have hcz9_3 : w.cell? ⟨g0_, 3, none⟩ = some (.slice A0_3 l0_3.length c0_3) := (bc BK0.out 3).trans rfl; have hfz9_0 := bf BK0.out 0; have hfz9_1 := bf BK0.out 1; have hfz9_2 := bf BK0.out 2; have hfz9_3 := bf BK0.out 3) | (go_at_call 52; (with_reducible refine (spec_l02List.calls k _ _ l0_2 2 (l0_3.length : Int) t111 _ ?side1 ?side2 A8.out).mono ?_); (case side1 => repeat (first | exact HR0_2.out | (with_reducible refine Kd.C_alloc ?_ _) | (with_reducible refine Kd.C_drewN ?_ _) | (with_reducible refine Kd.C_drew ?_))); (case side2 => exact HC0_2.out); rintro e w' ⟨rfl, ⟨nd, rfl⟩⟩; (try first | exact ⟨rfl, _, World.drewN_drewN _ _ _⟩ | exact ⟨rfl, _, Eq.trans (World.drewN_drewN _ _ _) (congrArg (World.drewN _) (Nat.add_assoc _ _ _))⟩))))
  go_meet
  case rel => exact ⟨_, (!t111), (by first | rfl | (simp; done) | (simp [*]; done)), H', ⟨by first | omega | exact Nat.le_refl _⟩, by repeat (first | exact Drawn0.refl _ | apply Drawn0.step)⟩
 case rest =>
  clear HC2
  try clear c2
  try clear p2
  try clear c5
  try clear c6
  try clear c6b0
  try clear c6b1
  try clear c6b2
  try clear c7
  try clear c7b0
  try clear c7b1
  try clear hcz10_0
  try clear hcz10_1
  try clear hcz10_2
  try clear hcz10_3
  try clear hcz11_0
  try clear hcz11_1
  try clear hcz11_2
  try clear hcz11_3
  try clear hcz3_0
  try clear hcz3_1
  try clear hcz3_2
  try clear hcz3_3
  try clear hcz9_0
  try clear hcz9_1
  try clear hcz9_2
  try clear hcz9_3
  try clear hfz10_0
  try clear hfz10_1
  try clear hfz10_2
  try clear hfz10_3
  try clear hfz11_0
  try clear hfz11_1
  try clear hfz11_2
  try clear hfz11_3
  try clear hfz3_0
  try clear hfz3_1
  try clear hfz3_2
  try clear hfz3_3
  try clear hfz9_0
  try clear hfz9_1
  try clear hfz9_2
  try clear hfz9_3
  obtain ⟨kq, x42_1, rfl, HA, HJ1, ⟨mc1, rfl⟩⟩ := hcut
  cases kq with
  | zero => exact absurd HA.out (by simp [spec_l04Ok.j0])
  | succ kj1 =>
   have H := HA.out
   clear HA
   simp only [spec_l04Ok.j0] at H
   by_cases c12 : x42_1 = true
   ·subst c12
    have H1 : (some false) = some r := by rw [if_pos rfl] at H; exact H
    clear H
    have H := H1
    clear H1
    obtain rfl := Option.some.inj H
    go_wp2
    repeat (go_quiet (fail); try go_wp2)
    go_ret
    exact ⟨by first | rfl | (simp; done) | (simp [*]; done), by repeat (first | exact Drawn0.refl _ | apply Drawn0.step)⟩
   replace c12 := Bool.eq_false_iff.mpr c12
   subst c12
   have H1 : (spec_l04Ok.l0 kj1 (l0_3.length : Int) 0 l0_0 l0_1 l0_2 l0_3) = some r := by rw [if_neg (show ¬ (false = true) by decide)] at H; exact H
   clear H
   have H := H1
   clear H1
   have H' := AZ.mk H
   clear H
   go_wp2
   repeat (go_quiet (fail); try go_wp2)
   go_loopg [4] kj1 (fun kq v4 w' => ∃ (x4_2 : Int), v4 = .int .i64 x4_2 ∧ AZ (spec_l04Ok.l0 kq (l0_3.length : Int) x4_2 l0_0 l0_1 l0_2 l0_3 = some r) ∧ AZ (kq ≤ kj1) ∧ Drawn0 w w')
   case atStart => exact ⟨(0), (by first | rfl | (simp; done) | (simp [*]; done)), H', ⟨Nat.le_refl _⟩, by repeat (first | exact Drawn0.refl _ | apply Drawn0.step)⟩
   case round =>
    clear H'
    try clear c1
    try clear c2
    try clear p2
    try clear c5
    try clear c6
    try clear c6b0
    try clear c6b1
    try clear c6b2
    try clear c7
    try clear c7b0
    try clear c7b1
    try clear c12
    try clear hcz10_0
    try clear hcz10_1
    try clear hcz10_2
    try clear hcz10_3
    try clear hcz11_0
    try clear hcz11_1
    try clear hcz11_2
    try clear hcz11_3
    try clear hcz3_0
    try clear hcz3_1
    try clear hcz3_2
    try clear hcz3_3
    try clear hcz9_0
    try clear hcz9_1
    try clear hcz9_2
    try clear hcz9_3
    try clear hfz10_0
    try clear hfz10_1
    try clear hfz10_2
    try clear hfz10_3
    try clear hfz11_0
    try clear hfz11_1
    try clear hfz11_2
    try clear hfz11_3
    try clear hfz3_0
    try clear hfz3_1
    try clear hfz3_2
    try clear hfz3_3
    try clear hfz9_0
    try clear hfz9_1
    try clear hfz9_2
    try clear hfz9_3
    try clear p2
    obtain ⟨x4_2, rfl, HA, HK2, ⟨m2, rfl⟩⟩ := hrel
    cases gk with
    | zero => exact absurd HA.out (by simp [spec_l04Ok.l0])
    | succ k2 =>
     have H := HA.out
     clear HA
     simp only [spec_l04Ok.l0] at H
     by_cases c13 : x4_2 < (l0_3.length : Int)
     ·rw [if_pos c13] at H
      have c13b0 : decide (x4_2 < (l0_3.length : Int)) = true := decide_eq_true c13
      clear c13
      by_cases c14 : 0 ≤ x4_2
      rotate_left
      ·rw [if_neg c14] at H
       exact absurd H (by simp)
      rw [if_pos c14] at H
      have c14b0 : decide (0 ≤ x4_2) = true := decide_eq_true c14
      clear c14
      by_cases c15 : x4_2 < (l0_0.length : Int)
      rotate_left
      ·rw [if_neg c15] at H
       exact absurd H (by simp)
      rw [if_pos c15] at H
      have c15b0 : decide (x4_2 < (l0_0.length : Int)) = true := decide_eq_true c15
      clear c15
      replace H := Option.bind_eq_some_iff.mp H
      obtain ⟨t113, A160, H⟩ := H
      replace H : (if t113 = true then (spec_l04Ok.l0 k2 (l0_3.length : Int) (wrap64 (x4_2 + 1)) l0_0 l0_1 l0_2 l0_3) else (some false)) = some r := H
      have A16 := AZ.mk A160
      clear A160
      by_cases c17 : t113 = true
      rotate_left
      ·replace c17 := Bool.eq_false_iff.mpr c17
       subst c17
       have H1 : (some false) = some r := by rw [if_neg (show ¬ (false = true) by decide)] at H; exact H
       clear H
       have H := H1
       clear H1
       obtain rfl := Option.some.inj H
       have hcz19_0 : w.cell? ⟨g0_, 0, none⟩ = some (.slice A0_0 l0_0.length c0_0) := (bc BK0.out 0).trans rfl
       have hcz19_1 : w.cell? ⟨g0_, 1, none⟩ = some (.slice A0_1 l0_1.length c0_1) := (bc BK0.out 1).trans rfl
       have hcz19_2 : w.cell? ⟨g0_, 2, none⟩ = some (.slice A0_2 l0_2.length c0_2) := (bc BK0.out 2).trans rfl
       have hcz19_3 : w.cell? ⟨g0_, 3, none⟩ = some (.slice A0_3 l0_3.length c0_3) := (bc BK0.out 3).trans rfl
       have hfz19_0 := bf BK0.out 0
       have hfz19_1 := bf BK0.out 1
       have hfz19_2 := bf BK0.out 2
       have hfz19_3 := bf BK0.out 3
       have p112 : 0 ≤ (x4_2 : Int) := oT (by first | (with_reducible assumption) | assumption)
       have q112 : x4_2 < (l0_0.length : Int) := oT (by first | (with_reducible assumption) | assumption)
       obtain ⟨ad112, A112_0, c112_0, e112, hx112_0, hl112_0, hi112_0⟩ := at_L1 HR0_0.out x4_2 p112 q112
       cases e112
       have HR112_0 := AZ.mk hi112_0
       have HC112_0 := AZ.mk hl112_0
       clear hi112_0 hl112_0
       replace p112 := eq_true p112
       replace q112 := eq_true q112
       go_wp2_with (first | (go_at_call 52; (with_reducible refine (spec_l02List.calls k2 _ _ (rd_L1 l0_0 x4_2) (l0_3.length : Int) (l0_3.length : Int) false _ ?side1 ?side2 A16.out).mono ?_); (case side1 => repeat (first | exact HR112_0.out | (with_reducible refine Kd.C_alloc ?_ _) | (with_reducible refine Kd.C_drewN ?_ _) | (with_reducible refine Kd.C_drew ?_))); (case side2 => exact HC112_0.out); rintro e w' ⟨rfl, ⟨nd, rfl⟩⟩; (try first | exact ⟨rfl, _, World.drewN_drewN _ _ _⟩ | exact ⟨rfl, _, Eq.trans (World.drewN_drewN _ _ _) (congrArg (World.drewN _) (Nat.add_assoc _ _ _))⟩)))
       repeat (go_quiet (first | (go_at_call 52; (with_reducible refine (spec_l02List.calls k2 _ _ (rd_L1 l0_0 x4_2) (l0_3.length : Int) (l0_3.length : Int) false _ ?side1 ?side2 A16.out).mono ?_); (case side1 => repeat (first | exact HR112_0.out | (with_reducible refine Kd.C_alloc ?_ _) | (with_reducible refine Kd.C_drewN ?_ _) | (with_reducible refine Kd.C_drew ?_))); (case side2 => exact HC112_0.out); rintro e w' ⟨rfl, ⟨nd, rfl⟩⟩; (try first | exact ⟨rfl, _, World.drewN_drewN _ _ _⟩ | exact ⟨rfl, _, Eq.trans (World.drewN_drewN _ _ _) (congrArg (World.drewN _) (Nat.add_assoc _ _ _))⟩))); try go_wp2_with (first | (go_at_call 52; (with_reducible refine (spec_l02List.calls k2 _ _ (rd_L1 l0_0 x4_2) (l0_3.length : Int) (l0_3.length : Int) false _ ?side1 ?side2 A16.out).mono ?_); (case side1 => repeat (first | exact HR112_0.out | (with_reducible refine Kd.C_alloc ?_ _) | (with_reducible refine Kd.C_drewN ?_ _) | (with_reducible refine Kd.C_drew ?_))); (case side2 => exact HC112_0.out); rintro e w' ⟨rfl, ⟨nd, rfl⟩⟩; (try first | exact ⟨rfl, _, World.drewN_drewN _ _ _⟩ | exact ⟨rfl, _, Eq.trans (World.drewN_drewN _ _ _) (congrArg (World.drewN _) (Nat.add_assoc _ _ _))⟩))))
       go_ret
       exact ⟨by first | rfl | (simp; done) | (simp [*]; done), by repeat (first | exact Drawn0.refl _ | apply Drawn0.step)⟩
      subst c17
      have H1 : (spec_l04Ok.l0 k2 (l0_3.length : Int) (wrap64 (x4_2 + 1)) l0_0 l0_1 l0_2 l0_3) = some r := by rw [if_pos rfl] at H; exact H
      clear H
      have H := H1
      clear H1
      have H' := AZ.mk H
      clear H
      have hcz18_0 : w.cell? ⟨g0_, 0, none⟩ = some (.slice A0_0 l0_0.length c0_0) := (bc BK0.out 0).trans rfl
      have hcz18_1 : w.cell? ⟨g0_, 1, none⟩ = some (.slice A0_1 l0_1.length c0_1) := (bc BK0.out 1).trans rfl
      have hcz18_2 : w.cell? ⟨g0_, 2, none⟩ = some (.slice A0_2 l0_2.length c0_2) := (bc BK0.out 2).trans rfl
      have hcz18_3 : w.cell? ⟨g0_, 3, none⟩ = some (.slice A0_3 l0_3.length c0_3) := (bc BK0.out 3).trans rfl
      have hfz18_0 := bf BK0.out 0
      have hfz18_1 := bf BK0.out 1
      have hfz18_2 := bf BK0.out 2
      have hfz18_3 := bf BK0.out 3
      have p112 : 0 ≤ (x4_2 : Int) := oT (by first | (with_reducible assumption) | assumption)
      have q112 : x4_2 < (l0_0.length : Int) := oT (by first | (with_reducible assumption) | assumption)
      obtain ⟨ad112, A112_0, c112_0, e112, hx112_0, hl112_0, hi112_0⟩ := at_L1 HR0_0.out x4_2 p112 q112
      cases e112
      have HR112_0 := AZ.mk hi112_0
      have HC112_0 := AZ.mk hl112_0
      clear hi112_0 hl112_0
      replace p112 := eq_true p112
      replace q112 := eq_true q112
      go_wp2_with (first | (go_at_call 52; (with_reducible refine (spec_l02List.calls k2 _ _ (rd_L1 l0_0 x4_2) (l0_3.length : Int) (l0_3.length : Int) true _ ?side1 ?side2 A16.out).mono ?_); (case side1 => repeat (first | exact HR112_0.out | (with_reducible refine Kd.C_alloc ?_ _) | (with_reducible refine Kd.C_drewN ?_ _) | (with_reducible refine Kd.C_drew ?_))); (case side2 => exact HC112_0.out); rintro e w' ⟨rfl, ⟨nd, rfl⟩⟩; (try first | exact ⟨rfl, _, World.drewN_drewN _ _ _⟩ | exact ⟨rfl, _, Eq.trans (World.drewN_drewN _ _ _) (congrArg (World.drewN _) (Nat.add_assoc _ _ _))⟩)))
      repeat (go_quiet (first | (go_at_call 52; (with_reducible refine (spec_l02List.calls k2 _ _ (rd_L1 l0_0 x4_2) (l0_3.length : Int) (l0_3.length : Int) true _ ?side1 ?side2 A16.out).mono ?_); (case side1 => repeat (first | exact HR112_0.out | (with_reducible refine Kd.C_alloc ?_ _) | (with_reducible refine Kd.C_drewN ?_ _) | (with_reducible refine Kd.C_drew ?_))); (case side2 => exact HC112_0.out); rintro e w' ⟨rfl, ⟨nd, rfl⟩⟩; (try first | exact ⟨rfl, _, World.drewN_drewN _ _ _⟩ | exact ⟨rfl, _, Eq.trans (World.drewN_drewN _ _ _) (congrArg (World.drewN _) (Nat.add_assoc _ _ _))⟩))); try go_wp2_with (first | (go_at_call 52; (with_reducible refine (spec_l02List.calls k2 _ _ (rd_L1 l0_0 x4_2) (l0_3.length : Int) (l0_3.length : Int) true _ ?side1 ?side2 A16.out).mono ?_); (case side1 => repeat (first | exact HR112_0.out | (with_reducible refine Kd.C_alloc ?_ _) | (with_reducible refine Kd.C_drewN ?_ _) | (with_reducible refine Kd.C_drew ?_))); (case side2 => exact HC112_0.out); rintro e w' ⟨rfl, ⟨nd, rfl⟩⟩; (try first | exact ⟨rfl, _, World.drewN_drewN _ _ _⟩ | exact ⟨rfl, _, Eq.trans (World.drewN_drewN _ _ _) (congrArg (World.drewN _) (Nat.add_assoc _ _ _))⟩))))
      go_roundg k2
      case measure => have := HJ1.out; have := HK2.out; omega
      case rel => exact ⟨(wrap64 (x4_2 + 1)), (by first | rfl | (simp; done) | (simp [*]; done)), H', ⟨by have := HJ1.out; have := HK2.out; omega⟩, by repeat (first | exact Drawn0.refl _ | apply Drawn0.step)⟩
     rw [if_neg c13] at H
     have c13b0 : decide (x4_2 < (l0_3.length : Int)) = false := decide_eq_false c13
     clear c13
     have H' := AZ.mk H
     clear H
     go_wp2
     repeat (go_quiet (fail); try go_wp2)
     go_loopg [5] k2 (fun kq v5 w' => ∃ (x5_3 : Int), v5 = .int .i64 x5_3 ∧ AZ (spec_l04Ok.l1 kq (l0_3.length : Int) x5_3 l0_0 l0_1 l0_2 l0_3 = some r) ∧ AZ (kq ≤ k2) ∧ Drawn0 w w')
     case atStart => exact ⟨(0), (by first | rfl | (simp; done) | (simp [*]; done)), H', ⟨Nat.le_refl _⟩, by repeat (first | exact Drawn0.refl _ | apply Drawn0.step)⟩
     case round =>
      clear H'
      try clear c1
      try clear p1
      try clear q1
      try clear hx1
      try clear c2
      try clear p2
      try clear c5
      try clear c6
      try clear c6b0
      try clear c6b1
      try clear c6b2
      try clear p6
      try clear c7
      try clear c7b0
      try clear c7b1
      try clear c11
      try clear p11
      try clear q11
      try clear hx11
      try clear c12
      try clear c13
      try clear c13b0
      try clear c14
      try clear c14b0
      try clear c15
      try clear c15b0
      try clear c17
      try clear hcz10_0
      try clear hcz10_1
      try clear hcz10_2
      try clear hcz10_3
      try clear hcz11_0
      try clear hcz11_1
      try clear hcz11_2
      try clear hcz11_3
      try clear hcz18_0
      try clear hcz18_1
      try clear hcz18_2
      try clear hcz18_3
      try clear hcz19_0
      try clear hcz19_1
      try clear hcz19_2
      try clear hcz19_3
      try clear hcz3_0
      try clear hcz3_1
      try clear hcz3_2
      try clear hcz3_3
      try clear hcz9_0
      try clear hcz9_1
      try clear hcz9_2
      try clear hcz9_3
      try clear hfz10_0
      try clear hfz10_1
      try clear hfz10_2
      try clear hfz10_3
      try clear hfz11_0
      try clear hfz11_1
      try clear hfz11_2
      try clear hfz11_3
      try clear hfz18_0
      try clear hfz18_1
      try clear hfz18_2
      try clear hfz18_3
      try clear hfz19_0
      try clear hfz19_1
      try clear hfz19_2
      try clear hfz19_3
      try clear hfz3_0
      try clear hfz3_1
      try clear hfz3_2
      try clear hfz3_3
      try clear hfz9_0
      try clear hfz9_1
      try clear hfz9_2
      try clear hfz9_3
      try clear hx112_0
      try clear p112
      try clear p2
      try clear q112
      obtain ⟨x5_3, rfl, HA, HK3, ⟨m3, rfl⟩⟩ := hrel
      cases gk with
      | zero => exact absurd HA.out (by simp [spec_l04Ok.l1])
      | succ k3 =>
       have H := HA.out
       clear HA
       simp only [spec_l04Ok.l1] at H
       by_cases c20 : x5_3 < 4
       ·rw [if_pos c20] at H
        have c20b0 : decide (x5_3 < 4) = true := decide_eq_true c20
        clear c20
        by_cases c21 : 0 ≤ x5_3
        rotate_left
        ·rw [if_neg c21] at H
         exact absurd H (by simp)
        rw [if_pos c21] at H
        have c21b0 : decide (0 ≤ x5_3) = true := decide_eq_true c21
        clear c21
        by_cases c22 : x5_3 < (l0_1.length : Int)
        rotate_left
        ·rw [if_neg c22] at H
         exact absurd H (by simp)
        rw [if_pos c22] at H
        have c22b0 : decide (x5_3 < (l0_1.length : Int)) = true := decide_eq_true c22
        clear c22
        replace H := Option.bind_eq_some_iff.mp H
        obtain ⟨t115, A230, H⟩ := H
        replace H : (if t115 = true then (spec_l04Ok.l1 k3 (l0_3.length : Int) (wrap64 (x5_3 + 1)) l0_0 l0_1 l0_2 l0_3) else (some false)) = some r := H
        have A23 := AZ.mk A230
        clear A230
        by_cases c24 : t115 = true
        rotate_left
        ·replace c24 := Bool.eq_false_iff.mpr c24
         subst c24
         have H1 : (some false) = some r := by rw [if_neg (show ¬ (false = true) by decide)] at H; exact H
         clear H
         have H := H1
         clear H1
         obtain rfl := Option.some.inj H
         have hcz26_0 : w.cell? ⟨g0_, 0, none⟩ = some (.slice A0_0 l0_0.length c0_0) := (bc BK0.out 0).trans rfl
         have hcz26_1 : w.cell? ⟨g0_, 1, none⟩ = some (.slice A0_1 l0_1.length c0_1) := (bc BK0.out 1).trans rfl
         have hcz26_2 : w.cell? ⟨g0_, 2, none⟩ = some (.slice A0_2 l0_2.length c0_2) := (bc BK0.out 2).trans rfl
         have hcz26_3 : w.cell? ⟨g0_, 3, none⟩ = some (.slice A0_3 l0_3.length c0_3) := (bc BK0.out 3).trans rfl
         have hfz26_0 := bf BK0.out 0
         have hfz26_1 := bf BK0.out 1
         have hfz26_2 := bf BK0.out 2
         have hfz26_3 := bf BK0.out 3
         have p114 : 0 ≤ (x5_3 : Int) := oT (by first | (with_reducible assumption) | assumption)
         have q114 : x5_3 < (l0_1.length : Int) := oT (by first | (with_reducible assumption) | assumption)
         obtain ⟨ad114, A114_0, c114_0, e114, hx114_0, hl114_0, hi114_0⟩ := at_L1 HR0_1.out x5_3 p114 q114
         cases e114
         have HR114_0 := AZ.mk hi114_0
         have HC114_0 := AZ.mk hl114_0
         clear hi114_0 hl114_0
         replace p114 := eq_true p114
         replace q114 := eq_true q114
         go_wp2_with (first | (go_at_call 52; (with_reducible refine (spec_l02List.calls k3 _ _ (rd_L1 l0_1 x5_3) (l0_3.length : Int) (l0_3.length : Int) false _ ?side1 ?side2 A23.out).mono ?_); (case side1 => repeat (first | exact HR114_0.out | (with_reducible refine Kd.C_alloc ?_ _) | (with_reducible refine Kd.C_drewN ?_ _) | (with_reducible refine Kd.C_drew ?_))); (case side2 => exact HC114_0.out); rintro e w' ⟨rfl, ⟨nd, rfl⟩⟩; (try first | exact ⟨rfl, _, World.drewN_drewN _ _ _⟩ | exact ⟨rfl, _, Eq.trans (World.drewN_drewN _ _ _) (congrArg (World.drewN _) (Nat.add_assoc _ _ _))⟩)))
         repeat (go_quiet (first | (go_at_call 52; (with_reducible refine (spec_l02List.calls k3 _ _ (rd_L1 l0_1 x5_3) (l0_3.length : Int) (l0_3.length : Int) false _ ?side1 ?side2 A23.out).mono ?_); (case side1 => repeat (first | exact HR114_0.out | (with_reducible refine Kd.C_alloc ?_ _) | (with_reducible refine Kd.C_drewN ?_ _) | (with_reducible refine Kd.C_drew ?_))); (case side2 => exact HC114_0.out); rintro e w' ⟨rfl, ⟨nd, rfl⟩⟩; (try first | exact ⟨rfl, _, World.drewN_drewN _ _ _⟩ | exact ⟨rfl, _, Eq.trans (World.drewN_drewN _ _ _) (congrArg (World.drewN _) (Nat.add_assoc _ _ _))⟩))); try go_wp2_with (first | (go_at_call 52; (with_reducible refine (spec_l02List.calls k3 _ _ (rd_L1 l0_1 x5_3) (l0_3.length : Int) (l0_3.length : Int) false _ ?side1 ?side2 A23.out).mono ?_); (case side1 => repeat (first | exact HR114_0.out | (with_reducible refine Kd.C_alloc ?_ _) | (with_reducible refine Kd.C_drewN ?_ _) | (with_reducible refine Kd.C_drew ?_))); (case side2 => exact HC114_0.out); rintro e w' ⟨rfl, ⟨nd, rfl⟩⟩; (try first | exact ⟨rfl, _, World.drewN_drewN _ _ _⟩ | exact ⟨rfl, _, Eq.trans (World.drewN_drewN _ _ _) (congrArg (World.drewN _) (Nat.add_assoc _ _ _))⟩))))
         go_ret
         exact ⟨by first | rfl | (simp; done) | (simp [*]; done), by repeat (first | exact Drawn0.refl _ | apply Drawn0.step)⟩
        subst c24
        have H1 : (spec_l04Ok.l1 k3 (l0_3.length : Int) (wrap64 (x5_3 + 1)) l0_0 l0_1 l0_2 l0_3) = some r := by rw [if_pos rfl] at H; exact H
        clear H
        have H := H1
        clear H1
        have H' := AZ.mk H
        clear H
        have hcz25_0 : w.cell? ⟨g0_, 0, none⟩ = some (.slice A0_0 l0_0.length c0_0) := (bc BK0.out 0).trans rfl
        have hcz25_1 : w.cell? ⟨g0_, 1, none⟩ = some (.slice A0_1 l0_1.length c0_1) := (bc BK0.out 1).trans rfl
        have hcz25_2 : w.cell? ⟨g0_, 2, none⟩ = some (.slice A0_2 l0_2.length c0_2) := (bc BK0.out 2).trans rfl
        have hcz25_3 : w.cell? ⟨g0_, 3, none⟩ = some (.slice A0_3 l0_3.length c0_3) := (bc BK0.out 3).trans rfl
        have hfz25_0 := bf BK0.out 0
        have hfz25_1 := bf BK0.out 1
        have hfz25_2 := bf BK0.out 2
        have hfz25_3 := bf BK0.out 3
        have p114 : 0 ≤ (x5_3 : Int) := oT (by first | (with_reducible assumption) | assumption)
        have q114 : x5_3 < (l0_1.length : Int) := oT (by first | (with_reducible assumption) | assumption)
        obtain ⟨ad114, A114_0, c114_0, e114, hx114_0, hl114_0, hi114_0⟩ := at_L1 HR0_1.out x5_3 p114 q114
        cases e114
        have HR114_0 := AZ.mk hi114_0
        have HC114_0 := AZ.mk hl114_0
        clear hi114_0 hl114_0
        replace p114 := eq_true p114
        replace q114 := eq_true q114
        go_wp2_with (first | (go_at_call 52; (with_reducible refine (spec_l02List.calls k3 _ _ (rd_L1 l0_1 x5_3) (l0_3.length : Int) (l0_3.length : Int) true _ ?side1 ?side2 A23.out).mono ?_); (case side1 => repeat (first | exact HR114_0.out | (with_reducible refine Kd.C_alloc ?_ _) | (with_reducible refine Kd.C_drewN ?_ _) | (with_reducible refine Kd.C_drew ?_))); (case side2 => exact HC114_0.out); rintro e w' ⟨rfl, ⟨nd, rfl⟩⟩; (try first | exact ⟨rfl, _, World.drewN_drewN _ _ _⟩ | exact ⟨rfl, _, Eq.trans (World.drewN_drewN _ _ _) (congrArg (World.drewN _) (Nat.add_assoc _ _ _))⟩)))
        repeat (go_quiet (first | (go_at_call 52; (with_reducible refine (spec_l02List.calls k3 _ _ (rd_L1 l0_1 x5_3) (l0_3.length : Int) (l0_3.length : Int) true _ ?side1 ?side2 A23.out).mono ?_); (case side1 => repeat (first | exact HR114_0.out | (with_reducible refine Kd.C_alloc ?_ _) | (with_reducible refine Kd.C_drewN ?_ _) | (with_reducible refine Kd.C_drew ?_))); (case side2 => exact HC114_0.out); rintro e w' ⟨rfl, ⟨nd, rfl⟩⟩; (try first | exact ⟨rfl, _, World.drewN_drewN _ _ _⟩ | exact ⟨rfl, _, Eq.trans (World.drewN_drewN _ _ _) (congrArg (World.drewN _) (Nat.add_assoc _ _ _))⟩))); try go_wp2_with (first | (go_at_call 52; (with_reducible refine (spec_l02List.calls k3 _ _ (rd_L1 l0_1 x5_3) (l0_3.length : Int) (l0_3.length : Int) true _ ?side1 ?side2 A23.out).mono ?_); (case side1 => repeat (first | exact HR114_0.out | (with_reducible refine Kd.C_alloc ?_ _) | (with_reducible refine Kd.C_drewN ?_ _) | (with_reducible refine Kd.C_drew ?_))); (case side2 => exact HC114_0.out); rintro e w' ⟨rfl, ⟨nd, rfl⟩⟩; (try first | exact ⟨rfl, _, World.drewN_drewN _ _ _⟩ | exact ⟨rfl, _, Eq.trans (World.drewN_drewN _ _ _) (congrArg (World.drewN _) (Nat.add_assoc _ _ _))⟩))))
        go_roundg k3
        case measure => have := HJ1.out; have := HK2.out; have := HK3.out; omega
        case rel => exact ⟨(wrap64 (x5_3 + 1)), (by first | rfl | (simp; done) | (simp [*]; done)), H', ⟨by have := HJ1.out; have := HK2.out; have := HK3.out; omega⟩, by repeat (first | exact Drawn0.refl _ | apply Drawn0.step)⟩
       rw [if_neg c20] at H
       have c20b0 : decide (x5_3 < 4) = false := decide_eq_false c20
       clear c20
       have H' := AZ.mk H
       clear H
       go_wp2
       repeat (go_quiet (fail); try go_wp2)
       go_loopg [6] k3 (fun kq v6 w' => ∃ (x6_4 : Int), v6 = .int .i64 x6_4 ∧ AZ (spec_l04Ok.l2 kq (l0_3.length : Int) x6_4 l0_0 l0_1 l0_2 l0_3 = some r) ∧ AZ (kq ≤ k3) ∧ Drawn0 w w')
       case atStart => exact ⟨(0), (by first | rfl | (simp; done) | (simp [*]; done)), H', ⟨Nat.le_refl _⟩, by repeat (first | exact Drawn0.refl _ | apply Drawn0.step)⟩
       case round =>
        clear H'
        try clear c1
        try clear p1
        try clear q1
        try clear hx1
        try clear c2
        try clear p2
        try clear c5
        try clear c6
        try clear c6b0
        try clear c6b1
        try clear c6b2
        try clear p6
        try clear c7
        try clear c7b0
        try clear c7b1
        try clear c11
        try clear p11
        try clear q11
        try clear hx11
        try clear c12
        try clear c13
        try clear c13b0
        try clear c14
        try clear c14b0
        try clear c15
        try clear c15b0
        try clear c17
        try clear c20
        try clear c20b0
        try clear c21
        try clear c21b0
        try clear c22
        try clear c22b0
        try clear c24
        try clear c25
        try clear hcz10_0
        try clear hcz10_1
        try clear hcz10_2
        try clear hcz10_3
        try clear hcz11_0
        try clear hcz11_1
        try clear hcz11_2
        try clear hcz11_3
        try clear hcz18_0
        try clear hcz18_1
        try clear hcz18_2
        try clear hcz18_3
        try clear hcz19_0
        try clear hcz19_1
        try clear hcz19_2
        try clear hcz19_3
        try clear hcz25_0
        try clear hcz25_1
        try clear hcz25_2
        try clear hcz25_3
        try clear hcz26_0
        try clear hcz26_1
        try clear hcz26_2
        try clear hcz26_3
        try clear hcz3_0
        try clear hcz3_1
        try clear hcz3_2
        try clear hcz3_3
        try clear hcz9_0
        try clear hcz9_1
        try clear hcz9_2
        try clear hcz9_3
        try clear hfz10_0
        try clear hfz10_1
        try clear hfz10_2
        try clear hfz10_3
        try clear hfz11_0
        try clear hfz11_1
        try clear hfz11_2
        try clear hfz11_3
        try clear hfz18_0
        try clear hfz18_1
        try clear hfz18_2
        try clear hfz18_3
        try clear hfz19_0
        try clear hfz19_1
        try clear hfz19_2
        try clear hfz19_3
        try clear hfz25_0
        try clear hfz25_1
        try clear hfz25_2
        try clear hfz25_3
        try clear hfz26_0
        try clear hfz26_1
        try clear hfz26_2
        try clear hfz26_3
        try clear hfz3_0
        try clear hfz3_1
        try clear hfz3_2
        try clear hfz3_3
        try clear hfz9_0
        try clear hfz9_1
        try clear hfz9_2
        try clear hfz9_3
        try clear hx112_0
        try clear hx114_0
        try clear p1
        try clear p11
        try clear p112
        try clear p114
        try clear p2
        try clear p6
        try clear q1
        try clear q11
        try clear q112
        try clear q114
        obtain ⟨x6_4, rfl, HA, HK4, ⟨m4, rfl⟩⟩ := hrel
        cases gk with
        | zero => exact absurd HA.out (by simp [spec_l04Ok.l2])
        | succ k4 =>
         have H := HA.out
         clear HA
         simp only [spec_l04Ok.l2] at H
         by_cases c27 : x6_4 < (l0_3.length : Int)
         rotate_left
         ·rw [if_neg c27] at H
          have c27b0 : decide (x6_4 < (l0_3.length : Int)) = false := decide_eq_false c27
          clear c27
          obtain rfl := Option.some.inj H
          go_wp2
          repeat (go_quiet (fail); try go_wp2)
          go_ret
          exact ⟨by first | rfl | (simp; done) | (simp [*]; done), by repeat (first | exact Drawn0.refl _ | apply Drawn0.step)⟩
         rw [if_pos c27] at H
         have c27b0 : decide (x6_4 < (l0_3.length : Int)) = true := decide_eq_true c27
         clear c27
         have HC28 := AZ.mk H
         clear H
         go_upto_region 17 with (fail)
         repeat (go_quiet (fail); go_upto_region 17 with (fail))
         go_cut [102] (fun v102 wc => ∃ (kq : Nat) (x102_27 : Bool), v102 = .bool x102_27 ∧ AZ (spec_l04Ok.j4 kq (l0_3.length : Int) x6_4 x102_27 l0_0 l0_1 l0_2 l0_3 = some r) ∧ AZ (kq ≤ k4) ∧ Drawn0 w wc)
         case first =>
          have H := HC28.out
          clear HC28
          by_cases c29 : 0 < (l0_0.length : Int)
          rotate_left
          ·rw [if_neg c29] at H
           exact absurd H (by simp)
          rw [if_pos c29] at H
          have c29b0 : decide (0 < (l0_0.length : Int)) = true := decide_eq_true c29
          have c29b1 : decide (0 < l0_0.length) = true := decide_eq_true (by omega)
          clear c29
          (first | rw [c29b0] | rw [c29b1] | (simp only [i64_w, i32_w]; rw [c29b0]) | skip)
          by_cases c30 : 0 ≤ x6_4
          rotate_left
          ·rw [if_neg c30] at H
           exact absurd H (by simp)
          rw [if_pos c30] at H
          have c30b0 : decide (0 ≤ x6_4) = true := decide_eq_true c30
          clear c30
          by_cases c31 : x6_4 < ((rd_L1 l0_0 0).length : Int)
          rotate_left
          ·rw [if_neg c31] at H
           exact absurd H (by simp)
          rw [if_pos c31] at H
          have c31b0 : decide (x6_4 < ((rd_L1 l0_0 0).length : Int)) = true := decide_eq_true c31
          clear c31
          by_cases c32 : (rd (rd_L1 l0_0 0) x6_4) = x6_4
          rotate_left
          ·rw [if_neg c32] at H
           have c32b0 : ((rd (rd_L1 l0_0 0) x6_4) == x6_4) = false := beq_eq_false_iff_ne.mpr c32
           have c32b1 : ((rd (rd_L1 l0_0 0) x6_4) != x6_4) = true := bne_iff_ne.mpr c32
           have H' := AZ.mk H
           clear H
           have hcz36_0 : w.cell? ⟨g0_, 0, none⟩ = some (.slice A0_0 l0_0.length c0_0) := (bc BK0.out 0).trans rfl
           have hcz36_1 : w.cell? ⟨g0_, 1, none⟩ = some (.slice A0_1 l0_1.length c0_1) := (bc BK0.out 1).trans rfl
           have hcz36_2 : w.cell? ⟨g0_, 2, none⟩ = some (.slice A0_2 l0_2.length c0_2) := (bc BK0.out 2).trans rfl
           have hcz36_3 : w.cell? ⟨g0_, 3, none⟩ = some (.slice A0_3 l0_3.length c0_3) := (bc BK0.out 3).trans rfl
           have hfz36_0 := bf BK0.out 0
           have hfz36_1 := bf BK0.out 1
           have hfz36_2 := bf BK0.out 2
           have hfz36_3 := bf BK0.out 3
           have p116 : 0 ≤ (0 : Int) := (by omega)
           have q116 : 0 < (l0_0.length : Int) := oT (by first | (with_reducible assumption) | assumption)
           obtain ⟨ad116, A116_0, c116_0, e116, hx116_0, hl116_0, hi116_0⟩ := at_L1 HR0_0.out 0 p116 q116
           cases e116
           have qi116 : (0 < l0_0.length) = True := eq_true (by omega)
           (try rw [show ((0 : Int)).toNat = 0 from rfl] at hx116_0)
           (try rw [Addr.add_zero'] at hx116_0)
           have HR116_0 := AZ.mk hi116_0
           have HC116_0 := AZ.mk hl116_0
           clear hi116_0 hl116_0
           replace p116 := eq_true p116
           replace q116 := eq_true q116
           have p117 : 0 ≤ (x6_4 : Int) := oT (by first | (with_reducible assumption) | assumption)
           have q117 : x6_4 < ((rd_L1 l0_0 0).length : Int) := oT (by first | (with_reducible assumption) | assumption)
           obtain ⟨ad117, e117, hx117_0⟩ := Kd.at_int HR116_0.out x6_4 p117 q117
           cases e117
           replace p117 := eq_true p117
           replace q117 := eq_true q117
           go_wp2
           repeat (go_quiet (fail); try go_wp2)
           go_meet
           case rel => exact ⟨_, (true), (by first | rfl | (simp; done) | (simp [*]; done)), H', ⟨by have := HJ1.out; have := HK2.out; have := HK3.out; have := HK4.out; first | omega | exact Nat.le_refl _⟩, by repeat (first | exact Drawn0.refl _ | apply Drawn0.step)⟩
          rw [if_pos c32] at H
          have c32b0 : ((rd (rd_L1 l0_0 0) x6_4) == x6_4) = true := beq_iff_eq.mpr c32
          have c32b1 : ((rd (rd_L1 l0_0 0) x6_4) != x6_4) = false := bne_eq_false_iff_eq.mpr c32
          clear c32
          by_cases c33 : x6_4 < (l0_0.length : Int)
          rotate_left
          ·rw [if_neg c33] at H
           exact absurd H (by simp)
          rw [if_pos c33] at H
          have c33b0 : decide (x6_4 < (l0_0.length : Int)) = true := decide_eq_true c33
          clear c33
          by_cases c34 : 0 < ((rd_L1 l0_0 x6_4).length : Int)
          rotate_left
          ·rw [if_neg c34] at H
           exact absurd H (by simp)
          rw [if_pos c34] at H
          have c34b0 : decide (0 < ((rd_L1 l0_0 x6_4).length : Int)) = true := decide_eq_true c34
          have c34b1 : decide (0 < (rd_L1 l0_0 x6_4).length) = true := decide_eq_true (by omega)
          clear c34
          have H' := AZ.mk H
          clear H
          have hcz35_0 : w.cell? ⟨g0_, 0, none⟩ = some (.slice A0_0 l0_0.length c0_0) := (bc BK0.out 0).trans rfl
          have hcz35_1 : w.cell? ⟨g0_, 1, none⟩ = some (.slice A0_1 l0_1.length c0_1) := (bc BK0.out 1).trans rfl
          have hcz35_2 : w.cell? ⟨g0_, 2, none⟩ = some (.slice A0_2 l0_2.length c0_2) := (bc BK0.out 2).trans rfl
          have hcz35_3 : w.cell? ⟨g0_, 3, none⟩ = some (.slice A0_3 l0_3.length c0_3) := (bc BK0.out 3).trans rfl
          have hfz35_0 := bf BK0.out 0
          have hfz35_1 := bf BK0.out 1
          have hfz35_2 := bf BK0.out 2
          have hfz35_3 := bf BK0.out 3
          have p116 : 0 ≤ (0 : Int) := (by omega)
          have q116 : 0 < (l0_0.length : Int) := oT (by first | (with_reducible assumption) | assumption)
          obtain ⟨ad116, A116_0, c116_0, e116, hx116_0, hl116_0, hi116_0⟩ := at_L1 HR0_0.out 0 p116 q116
          cases e116
          have qi116 : (0 < l0_0.length) = True := eq_true (by omega)
          (try rw [show ((0 : Int)).toNat = 0 from rfl] at hx116_0)
          (try rw [Addr.add_zero'] at hx116_0)
          have HR116_0 := AZ.mk hi116_0
          have HC116_0 := AZ.mk hl116_0
          clear hi116_0 hl116_0
          replace p116 := eq_true p116
          replace q116 := eq_true q116
          have p117 : 0 ≤ (x6_4 : Int) := oT (by first | (with_reducible assumption) | assumption)
          have q117 : x6_4 < ((rd_L1 l0_0 0).length : Int) := oT (by first | (with_reducible assumption) | assumption)
          obtain ⟨ad117, e117, hx117_0⟩ := Kd.at_int HR116_0.out x6_4 p117 q117
          cases e117
          replace p117 := eq_true p117
          replace q117 := eq_true q117
          have p118 : 0 ≤ (x6_4 : Int) := oT (by first | (with_reducible assumption) | assumption)
          have q118 : x6_4 < (l0_0.length : Int) := oT (by first | (with_reducible assumption) | assumption)
          obtain ⟨ad118, A118_0, c118_0, e118, hx118_0, hl118_0, hi118_0⟩ := at_L1 HR0_0.out x6_4 p118 q118
          obtain rfl : ad116 = ad118 := (by injection e118)
          have HR118_0 := AZ.mk hi118_0
          have HC118_0 := AZ.mk hl118_0
          clear hi118_0 hl118_0
          replace p118 := eq_true p118
          replace q118 := eq_true q118
          have p119 : 0 ≤ (0 : Int) := (by omega)
          have q119 : 0 < ((rd_L1 l0_0 x6_4).length : Int) := oT (by first | (with_reducible assumption) | assumption)
          obtain ⟨ad119, e119, hx119_0⟩ := Kd.at_int HR118_0.out 0 p119 q119
          cases e119
          have qi119 : (0 < (rd_L1 l0_0 x6_4).length) = True := eq_true (by omega)
          (try rw [show ((0 : Int)).toNat = 0 from rfl] at hx119_0)
          (try rw [Addr.add_zero'] at hx119_0)
          replace p119 := eq_true p119
          replace q119 := eq_true q119
          go_wp2
          repeat (go_quiet (fail); try go_wp2)
          go_meet
          case rel => exact ⟨_, (((rd (rd_L1 l0_0 x6_4) 0) != x6_4)), (by first | rfl | (simp; done) | (simp [*]; done)), H', ⟨by have := HJ1.out; have := HK2.out; have := HK3.out; have := HK4.out; first | omega | exact Nat.le_refl _⟩, by repeat (first | exact Drawn0.refl _ | apply Drawn0.step)⟩
         case rest =>
          clear HC28
          try clear c1
          try clear p1
          try clear q1
          try clear hx1
          try clear qi1
          try clear c2
          try clear p2
          try clear c3
          try clear c5
          try clear c6
          try clear c6b0
          try clear c6b1
          try clear c6b2
          try clear p6
          try clear c7
          try clear c7b0
          try clear c7b1
          try clear c11
          try clear p11
          try clear q11
          try clear hx11
          try clear qi11
          try clear c12
          try clear c13
          try clear c13b0
          try clear c14
          try clear c14b0
          try clear c15
          try clear c15b0
          try clear c17
          try clear c20
          try clear c20b0
          try clear c21
          try clear c21b0
          try clear c22
          try clear c22b0
          try clear c24
          try clear c25
          try clear c27
          try clear c27b0
          try clear c29
          try clear c29b0
          try clear c29b1
          try clear c30
          try clear c30b0
          try clear c31
          try clear c31b0
          try clear c32
          try clear c32b0
          try clear c32b1
          try clear c33
          try clear c33b0
          try clear c34
          try clear c34b0
          try clear c34b1
          try clear hcz10_0
          try clear hcz10_1
          try clear hcz10_2
          try clear hcz10_3
          try clear hcz11_0
          try clear hcz11_1
          try clear hcz11_2
          try clear hcz11_3
          try clear hcz18_0
          try clear hcz18_1
          try clear hcz18_2
          try clear hcz18_3
          try clear hcz19_0
          try clear hcz19_1
          try clear hcz19_2
          try clear hcz19_3
          try clear hcz25_0
          try clear hcz25_1
          try clear hcz25_2
          try clear hcz25_3
          try clear hcz26_0
          try clear hcz26_1
          try clear hcz26_2
          try clear hcz26_3
          try clear hcz35_0
          try clear hcz35_1
          try clear hcz35_2
          try clear hcz35_3
          try clear hcz36_0
          try clear hcz36_1
          try clear hcz36_2
          try clear hcz36_3
          try clear hcz3_0
          try clear hcz3_1
          try clear hcz3_2
          try clear hcz3_3
          try clear hcz9_0
          try clear hcz9_1
          try clear hcz9_2
          try clear hcz9_3
          try clear hfz10_0
          try clear hfz10_1
          try clear hfz10_2
          try clear hfz10_3
          try clear hfz11_0
          try clear hfz11_1
          try clear hfz11_2
          try clear hfz11_3
          try clear hfz18_0
          try clear hfz18_1
          try clear hfz18_2
          try clear hfz18_3
          try clear hfz19_0
          try clear hfz19_1
          try clear hfz19_2
          try clear hfz19_3
          try clear hfz25_0
          try clear hfz25_1
          try clear hfz25_2
          try clear hfz25_3
          try clear hfz26_0
          try clear hfz26_1
          try clear hfz26_2
          try clear hfz26_3
          try clear hfz35_0
          try clear hfz35_1
          try clear hfz35_2
          try clear hfz35_3
          try clear hfz36_0
          try clear hfz36_1
          try clear hfz36_2
          try clear hfz36_3
          try clear hfz3_0
          try clear hfz3_1
          try clear hfz3_2
          try clear hfz3_3
          try clear hfz9_0
          try clear hfz9_1
          try clear hfz9_2
          try clear hfz9_3
          try clear hx112_0
          try clear hx114_0
          try clear hx116_0
          try clear hx117_0
          try clear hx118_0
          try clear hx119_0
          try clear p1
          try clear p11
          try clear p112
          try clear p114
          try clear p116
          try clear p117
          try clear p118
          try clear p119
          try clear p2
          try clear p6
          try clear q1
          try clear q11
          try clear q112
          try clear q114
          try clear q116
          try clear q117
          try clear q118
          try clear q119
          obtain ⟨kq, x102_27, rfl, HA, HJ27, ⟨mc27, rfl⟩⟩ := hcut
          cases kq with
          | zero => exact absurd HA.out (by simp [spec_l04Ok.j4])
          | succ kj27 =>
           have H := HA.out
           clear HA
           simp only [spec_l04Ok.j4] at H
           by_cases c37 : x102_27 = true
           ·subst c37
            have H1 : (some false) = some r := by rw [if_pos rfl] at H; exact H
            clear H
            have H := H1
            clear H1
            obtain rfl := Option.some.inj H
            go_wp2
            repeat (go_quiet (fail); try go_wp2)
            go_ret
            exact ⟨by first | rfl | (simp; done) | (simp [*]; done), by repeat (first | exact Drawn0.refl _ | apply Drawn0.step)⟩
           replace c37 := Bool.eq_false_iff.mpr c37
           subst c37
           have H1 : (spec_l04Ok.l3 kj27 (l0_3.length : Int) x6_4 0 l0_0 l0_1 l0_2 l0_3) = some r := by rw [if_neg (show ¬ (false = true) by decide)] at H; exact H
           clear H
           have H := H1
           clear H1
           have H' := AZ.mk H
           clear H
           go_wp2
           repeat (go_quiet (fail); try go_wp2)
           go_loopg [7] kj27 (fun kq v7 w' => ∃ (x7_6 : Int), v7 = .int .i64 x7_6 ∧ AZ (spec_l04Ok.l3 kq (l0_3.length : Int) x6_4 x7_6 l0_0 l0_1 l0_2 l0_3 = some r) ∧ AZ (kq ≤ kj27) ∧ Drawn0 w w')
           case atStart => exact ⟨(0), (by first | rfl | (simp; done) | (simp [*]; done)), H', ⟨Nat.le_refl _⟩, by repeat (first | exact Drawn0.refl _ | apply Drawn0.step)⟩
           case round =>
            clear H'
            try clear c1
            try clear p1
            try clear q1
            try clear hx1
            try clear qi1
            try clear c2
            try clear p2
            try clear c3
            try clear c5
            try clear c6
            try clear c6b0
            try clear c6b1
            try clear c6b2
            try clear p6
            try clear c7
            try clear c7b0
            try clear c7b1
            try clear c11
            try clear p11
            try clear q11
            try clear hx11
            try clear qi11
            try clear c12
            try clear c13
            try clear c13b0
            try clear c14
            try clear c14b0
            try clear c15
            try clear c15b0
            try clear c17
            try clear c20
            try clear c20b0
            try clear c21
            try clear c21b0
            try clear c22
            try clear c22b0
            try clear c24
            try clear c25
            try clear c27
            try clear c27b0
            try clear c29
            try clear c29b0
            try clear c29b1
            try clear c30
            try clear c30b0
            try clear c31
            try clear c31b0
            try clear c32
            try clear c32b0
            try clear c32b1
            try clear c33
            try clear c33b0
            try clear c34
            try clear c34b0
            try clear c34b1
            try clear c37
            try clear hcz10_0
            try clear hcz10_1
            try clear hcz10_2
            try clear hcz10_3
            try clear hcz11_0
            try clear hcz11_1
            try clear hcz11_2
            try clear hcz11_3
            try clear hcz18_0
            try clear hcz18_1
            try clear hcz18_2
            try clear hcz18_3
            try clear hcz19_0
            try clear hcz19_1
            try clear hcz19_2
            try clear hcz19_3
            try clear hcz25_0
            try clear hcz25_1
            try clear hcz25_2
            try clear hcz25_3
            try clear hcz26_0
            try clear hcz26_1
            try clear hcz26_2
            try clear hcz26_3
            try clear hcz35_0
            try clear hcz35_1
            try clear hcz35_2
            try clear hcz35_3
            try clear hcz36_0
            try clear hcz36_1
            try clear hcz36_2
            try clear hcz36_3
            try clear hcz3_0
            try clear hcz3_1
            try clear hcz3_2
            try clear hcz3_3
            try clear hcz9_0
            try clear hcz9_1
            try clear hcz9_2
            try clear hcz9_3
            try clear hfz10_0
            try clear hfz10_1
            try clear hfz10_2
            try clear hfz10_3
            try clear hfz11_0
            try clear hfz11_1
            try clear hfz11_2
            try clear hfz11_3
            try clear hfz18_0
            try clear hfz18_1
            try clear hfz18_2
            try clear hfz18_3
            try clear hfz19_0
            try clear hfz19_1
            try clear hfz19_2
            try clear hfz19_3
            try clear hfz25_0
            try clear hfz25_1
            try clear hfz25_2
            try clear hfz25_3
            try clear hfz26_0
            try clear hfz26_1
            try clear hfz26_2
            try clear hfz26_3
            try clear hfz35_0
            try clear hfz35_1
            try clear hfz35_2
            try clear hfz35_3
            try clear hfz36_0
            try clear hfz36_1
            try clear hfz36_2
            try clear hfz36_3
            try clear hfz3_0
            try clear hfz3_1
            try clear hfz3_2
            try clear hfz3_3
            try clear hfz9_0
            try clear hfz9_1
            try clear hfz9_2
            try clear hfz9_3
            try clear hx112_0
            try clear hx114_0
            try clear hx116_0
            try clear hx117_0
            try clear hx118_0
            try clear hx119_0
            try clear p1
            try clear p11
            try clear p112
            try clear p114
            try clear p116
            try clear p117
            try clear p118
            try clear p119
            try clear p2
            try clear p6
            try clear q1
            try clear q11
            try clear q112
            try clear q114
            try clear q116
            try clear q117
            try clear q118
            try clear q119
            obtain ⟨x7_6, rfl, HA, HK6, ⟨m6, rfl⟩⟩ := hrel
            cases gk with
            | zero => exact absurd HA.out (by simp [spec_l04Ok.l3])
            | succ k6 =>
             have H := HA.out
             clear HA
             simp only [spec_l04Ok.l3] at H
             by_cases c38 : x7_6 < (l0_3.length : Int)
             rotate_left
             ·rw [if_neg c38] at H
              have c38b0 : decide (x7_6 < (l0_3.length : Int)) = false := decide_eq_false c38
              clear c38
              have H' := AZ.mk H
              clear H
              go_wp2
              repeat (go_quiet (fail); try go_wp2)
              go_roundg k6
              case measure => have := HJ1.out; have := HK2.out; have := HK3.out; have := HK4.out; have := HJ27.out; have := HK6.out; omega
              case rel => exact ⟨(wrap64 (x6_4 + 1)), (by first | rfl | (simp; done) | (simp [*]; done)), H', ⟨by have := HJ1.out; have := HK2.out; have := HK3.out; have := HK4.out; have := HJ27.out; have := HK6.out; omega⟩, by repeat (first | exact Drawn0.refl _ | apply Drawn0.step)⟩
             rw [if_pos c38] at H
             have c38b0 : decide (x7_6 < (l0_3.length : Int)) = true := decide_eq_true c38
             clear c38
             have H' := AZ.mk H
             clear H
             go_wp2
             repeat (go_quiet (fail); try go_wp2)
             go_loopg [8] k6 (fun kq v8 w' => ∃ (x8_7 : Int), v8 = .int .i64 x8_7 ∧ AZ (spec_l04Ok.l4 kq (l0_3.length : Int) x6_4 x7_6 x8_7 l0_0 l0_1 l0_2 l0_3 = some r) ∧ AZ (kq ≤ k6) ∧ Drawn0 w w')
             case atStart => exact ⟨(0), (by first | rfl | (simp; done) | (simp [*]; done)), H', ⟨Nat.le_refl _⟩, by repeat (first | exact Drawn0.refl _ | apply Drawn0.step)⟩
             case round =>
              clear H'
              try clear c1
              try clear p1
              try clear q1
              try clear hx1
              try clear qi1
              try clear c2
              try clear p2
              try clear c3
              try clear c5
              try clear c6
              try clear c6b0
              try clear c6b1
              try clear c6b2
              try clear p6
              try clear c7
              try clear c7b0
              try clear c7b1
              try clear c11
              try clear p11
              try clear q11
              try clear hx11
              try clear qi11
              try clear c12
              try clear c13
              try clear c13b0
              try clear c14
              try clear c14b0
              try clear c15
              try clear c15b0
              try clear c17
              try clear c20
              try clear c20b0
              try clear c21
              try clear c21b0
              try clear c22
              try clear c22b0
              try clear c24
              try clear c25
              try clear c27
              try clear c27b0
              try clear c29
              try clear c29b0
              try clear c29b1
              try clear c30
              try clear c30b0
              try clear c31
              try clear c31b0
              try clear c32
              try clear c32b0
              try clear c32b1
              try clear c33
              try clear c33b0
              try clear c34
              try clear c34b0
              try clear c34b1
              try clear c37
              try clear c38
              try clear c38b0
              try clear hcz10_0
              try clear hcz10_1
              try clear hcz10_2
              try clear hcz10_3
              try clear hcz11_0
              try clear hcz11_1
              try clear hcz11_2
              try clear hcz11_3
              try clear hcz18_0
              try clear hcz18_1
              try clear hcz18_2
              try clear hcz18_3
              try clear hcz19_0
              try clear hcz19_1
              try clear hcz19_2
              try clear hcz19_3
              try clear hcz25_0
              try clear hcz25_1
              try clear hcz25_2
              try clear hcz25_3
              try clear hcz26_0
              try clear hcz26_1
              try clear hcz26_2
              try clear hcz26_3
              try clear hcz35_0
              try clear hcz35_1
              try clear hcz35_2
              try clear hcz35_3
              try clear hcz36_0
              try clear hcz36_1
              try clear hcz36_2
              try clear hcz36_3
              try clear hcz3_0
              try clear hcz3_1
              try clear hcz3_2
              try clear hcz3_3
              try clear hcz9_0
              try clear hcz9_1
              try clear hcz9_2
              try clear hcz9_3
              try clear hfz10_0
              try clear hfz10_1
              try clear hfz10_2
              try clear hfz10_3
              try clear hfz11_0
              try clear hfz11_1
              try clear hfz11_2
              try clear hfz11_3
              try clear hfz18_0
              try clear hfz18_1
              try clear hfz18_2
              try clear hfz18_3
              try clear hfz19_0
              try clear hfz19_1
              try clear hfz19_2
              try clear hfz19_3
              try clear hfz25_0
              try clear hfz25_1
              try clear hfz25_2
              try clear hfz25_3
              try clear hfz26_0
              try clear hfz26_1
              try clear hfz26_2
              try clear hfz26_3
              try clear hfz35_0
              try clear hfz35_1
              try clear hfz35_2
              try clear hfz35_3
              try clear hfz36_0
              try clear hfz36_1
              try clear hfz36_2
              try clear hfz36_3
              try clear hfz3_0
              try clear hfz3_1
              try clear hfz3_2
              try clear hfz3_3
              try clear hfz9_0
              try clear hfz9_1
              try clear hfz9_2
              try clear hfz9_3
              try clear hx112_0
              try clear hx114_0
              try clear hx116_0
              try clear hx117_0
              try clear hx118_0
              try clear hx119_0
              try clear p1
              try clear p11
              try clear p112
              try clear p114
              try clear p116
              try clear p117
              try clear p118
              try clear p119
              try clear p2
              try clear p6
              try clear q1
              try clear q11
              try clear q112
              try clear q114
              try clear q116
              try clear q117
              try clear q118
              try clear q119
              obtain ⟨x8_7, rfl, HA, HK7, ⟨m7, rfl⟩⟩ := hrel
              cases gk with
              | zero => exact absurd HA.out (by simp [spec_l04Ok.l4])
              | succ k7 =>
               have H := HA.out
               clear HA
               simp only [spec_l04Ok.l4] at H
               by_cases c39 : x8_7 < (l0_3.length : Int)
               rotate_left
               ·rw [if_neg c39] at H
                have c39b0 : decide (x8_7 < (l0_3.length : Int)) = false := decide_eq_false c39
                clear c39
                have H' := AZ.mk H
                clear H
                go_wp2
                repeat (go_quiet (fail); try go_wp2)
                go_roundg k7
                case measure => have := HJ1.out; have := HK2.out; have := HK3.out; have := HK4.out; have := HJ27.out; have := HK6.out; have := HK7.out; omega
                case rel => exact ⟨(wrap64 (x7_6 + 1)), (by first | rfl | (simp; done) | (simp [*]; done)), H', ⟨by have := HJ1.out; have := HK2.out; have := HK3.out; have := HK4.out; have := HJ27.out; have := HK6.out; have := HK7.out; omega⟩, by repeat (first | exact Drawn0.refl _ | apply Drawn0.step)⟩
               rw [if_pos c39] at H
               have c39b0 : decide (x8_7 < (l0_3.length : Int)) = true := decide_eq_true c39
               clear c39
               by_cases c40 : 0 ≤ x6_4
               rotate_left
               ·rw [if_neg c40] at H
                exact absurd H (by simp)
               rw [if_pos c40] at H
               have c40b0 : decide (0 ≤ x6_4) = true := decide_eq_true c40
               clear c40
               by_cases c41 : x6_4 < (l0_0.length : Int)
               rotate_left
               ·rw [if_neg c41] at H
                exact absurd H (by simp)
               rw [if_pos c41] at H
               have c41b0 : decide (x6_4 < (l0_0.length : Int)) = true := decide_eq_true c41
               clear c41
               by_cases c42 : 0 ≤ x7_6
               rotate_left
               ·rw [if_neg c42] at H
                exact absurd H (by simp)
               rw [if_pos c42] at H
               have c42b0 : decide (0 ≤ x7_6) = true := decide_eq_true c42
               clear c42
               by_cases c43 : x7_6 < ((rd_L1 l0_0 x6_4).length : Int)
               rotate_left
               ·rw [if_neg c43] at H
                exact absurd H (by simp)
               rw [if_pos c43] at H
               have c43b0 : decide (x7_6 < ((rd_L1 l0_0 x6_4).length : Int)) = true := decide_eq_true c43
               clear c43
               by_cases c44 : 0 ≤ (rd (rd_L1 l0_0 x6_4) x7_6)
               rotate_left
               ·rw [if_neg c44] at H
                exact absurd H (by simp)
               rw [if_pos c44] at H
               have c44b0 : decide (0 ≤ (rd (rd_L1 l0_0 x6_4) x7_6)) = true := decide_eq_true c44
               clear c44
               by_cases c45 : (rd (rd_L1 l0_0 x6_4) x7_6) < (l0_0.length : Int)
               rotate_left
               ·rw [if_neg c45] at H
                exact absurd H (by simp)
               rw [if_pos c45] at H
               have c45b0 : decide ((rd (rd_L1 l0_0 x6_4) x7_6) < (l0_0.length : Int)) = true := decide_eq_true c45
               clear c45
               by_cases c46 : 0 ≤ x8_7
               rotate_left
               ·rw [if_neg c46] at H
                exact absurd H (by simp)
               rw [if_pos c46] at H
               have c46b0 : decide (0 ≤ x8_7) = true := decide_eq_true c46
               clear c46
               by_cases c47 : x8_7 < ((rd_L1 l0_0 (rd (rd_L1 l0_0 x6_4) x7_6)).length : Int)
               rotate_left
               ·rw [if_neg c47] at H
                exact absurd H (by simp)
               rw [if_pos c47] at H
               have c47b0 : decide (x8_7 < ((rd_L1 l0_0 (rd (rd_L1 l0_0 x6_4) x7_6)).length : Int)) = true := decide_eq_true c47
               clear c47
               by_cases c48 : x7_6 < (l0_0.length : Int)
               rotate_left
               ·rw [if_neg c48] at H
                exact absurd H (by simp)
               rw [if_pos c48] at H
               have c48b0 : decide (x7_6 < (l0_0.length : Int)) = true := decide_eq_true c48
               clear c48
               by_cases c49 : x8_7 < ((rd_L1 l0_0 x7_6).length : Int)
               rotate_left
               ·rw [if_neg c49] at H
                exact absurd H (by simp)
               rw [if_pos c49] at H
               have c49b0 : decide (x8_7 < ((rd_L1 l0_0 x7_6).length : Int)) = true := decide_eq_true c49
               clear c49
               by_cases c50 : 0 ≤ (rd (rd_L1 l0_0 x7_6) x8_7)
               rotate_left
               ·rw [if_neg c50] at H
                exact absurd H (by simp)
               rw [if_pos c50] at H
               have c50b0 : decide (0 ≤ (rd (rd_L1 l0_0 x7_6) x8_7)) = true := decide_eq_true c50
               clear c50
               by_cases c51 : (rd (rd_L1 l0_0 x7_6) x8_7) < ((rd_L1 l0_0 x6_4).length : Int)
               rotate_left
               ·rw [if_neg c51] at H
                exact absurd H (by simp)
               rw [if_pos c51] at H
               have c51b0 : decide ((rd (rd_L1 l0_0 x7_6) x8_7) < ((rd_L1 l0_0 x6_4).length : Int)) = true := decide_eq_true c51
               clear c51
               by_cases c52 : (rd (rd_L1 l0_0 (rd (rd_L1 l0_0 x6_4) x7_6)) x8_7) = (rd (rd_L1 l0_0 x6_4) (rd (rd_L1 l0_0 x7_6) x8_7))
               rotate_left
               ·rw [if_neg c52] at H
                have c52b0 : ((rd (rd_L1 l0_0 (rd (rd_L1 l0_0 x6_4) x7_6)) x8_7) == (rd (rd_L1 l0_0 x6_4) (rd (rd_L1 l0_0 x7_6) x8_7))) = false := beq_eq_false_iff_ne.mpr c52
                have c52b1 : ((rd (rd_L1 l0_0 (rd (rd_L1 l0_0 x6_4) x7_6)) x8_7) != (rd (rd_L1 l0_0 x6_4) (rd (rd_L1 l0_0 x7_6) x8_7))) = true := bne_iff_ne.mpr c52
                obtain rfl := Option.some.inj H
                have hcz54_0 : w.cell? ⟨g0_, 0, none⟩ = some (.slice A0_0 l0_0.length c0_0) := (bc BK0.out 0).trans rfl
                have hcz54_1 : w.cell? ⟨g0_, 1, none⟩ = some (.slice A0_1 l0_1.length c0_1) := (bc BK0.out 1).trans rfl
                have hcz54_2 : w.cell? ⟨g0_, 2, none⟩ = some (.slice A0_2 l0_2.length c0_2) := (bc BK0.out 2).trans rfl
                have hcz54_3 : w.cell? ⟨g0_, 3, none⟩ = some (.slice A0_3 l0_3.length c0_3) := (bc BK0.out 3).trans rfl
                have hfz54_0 := bf BK0.out 0
                have hfz54_1 := bf BK0.out 1
                have hfz54_2 := bf BK0.out 2
                have hfz54_3 := bf BK0.out 3
                have p120 : 0 ≤ (x6_4 : Int) := oT (by first | (with_reducible assumption) | assumption)
                have q120 : x6_4 < (l0_0.length : Int) := oT (by first | (with_reducible assumption) | assumption)
                obtain ⟨ad120, A120_0, c120_0, e120, hx120_0, hl120_0, hi120_0⟩ := at_L1 HR0_0.out x6_4 p120 q120
                cases e120
                have HR120_0 := AZ.mk hi120_0
                have HC120_0 := AZ.mk hl120_0
                clear hi120_0 hl120_0
                replace p120 := eq_true p120
                replace q120 := eq_true q120
                have p121 : 0 ≤ (x7_6 : Int) := oT (by first | (with_reducible assumption) | assumption)
                have q121 : x7_6 < ((rd_L1 l0_0 x6_4).length : Int) := oT (by first | (with_reducible assumption) | assumption)
                obtain ⟨ad121, e121, hx121_0⟩ := Kd.at_int HR120_0.out x7_6 p121 q121
                cases e121
                replace p121 := eq_true p121
                replace q121 := eq_true q121
                have p122 : 0 ≤ ((rd (rd_L1 l0_0 x6_4) x7_6) : Int) := oT (by first | (with_reducible assumption) | assumption)
                have q122 : (rd (rd_L1 l0_0 x6_4) x7_6) < (l0_0.length : Int) := oT (by first | (with_reducible assumption) | assumption)
                obtain ⟨ad122, A122_0, c122_0, e122, hx122_0, hl122_0, hi122_0⟩ := at_L1 HR0_0.out (rd (rd_L1 l0_0 x6_4) x7_6) p122 q122
                obtain rfl : ad120 = ad122 := (by injection e122)
                have HR122_0 := AZ.mk hi122_0
                have HC122_0 := AZ.mk hl122_0
                clear hi122_0 hl122_0
                replace p122 := eq_true p122
                replace q122 := eq_true q122
                have p123 : 0 ≤ (x8_7 : Int) := oT (by first | (with_reducible assumption) | assumption)
                have q123 : x8_7 < ((rd_L1 l0_0 (rd (rd_L1 l0_0 x6_4) x7_6)).length : Int) := oT (by first | (with_reducible assumption) | assumption)
                obtain ⟨ad123, e123, hx123_0⟩ := Kd.at_int HR122_0.out x8_7 p123 q123
                cases e123
                replace p123 := eq_true p123
                replace q123 := eq_true q123
                have p124 : 0 ≤ (x6_4 : Int) := oT (by first | (with_reducible assumption) | assumption)
                have q124 : x6_4 < (l0_0.length : Int) := oT (by first | (with_reducible assumption) | assumption)
                obtain ⟨ad124, A124_0, c124_0, e124, hx124_0, hl124_0, hi124_0⟩ := at_L1 HR0_0.out x6_4 p124 q124
                obtain rfl : ad120 = ad124 := (by injection e124)
                have HR124_0 := AZ.mk hi124_0
                have HC124_0 := AZ.mk hl124_0
                clear hi124_0 hl124_0
                replace p124 := eq_true p124
                replace q124 := eq_true q124
                have ea_ := Option.some.inj (hx120_0.symm.trans hx124_0)
                injection ea_ with ea_ en_ ec_
                subst ea_
                subst ec_
                clear en_
                have p125 : 0 ≤ (x7_6 : Int) := oT (by first | (with_reducible assumption) | assumption)
                have q125 : x7_6 < (l0_0.length : Int) := oT (by first | (with_reducible assumption) | assumption)
                obtain ⟨ad125, A125_0, c125_0, e125, hx125_0, hl125_0, hi125_0⟩ := at_L1 HR0_0.out x7_6 p125 q125
                obtain rfl : ad120 = ad125 := (by injection e125)
                have HR125_0 := AZ.mk hi125_0
                have HC125_0 := AZ.mk hl125_0
                clear hi125_0 hl125_0
                replace p125 := eq_true p125
                replace q125 := eq_true q125
                have p126 : 0 ≤ (x8_7 : Int) := oT (by first | (with_reducible assumption) | assumption)
                have q126 : x8_7 < ((rd_L1 l0_0 x7_6).length : Int) := oT (by first | (with_reducible assumption) | assumption)
                obtain ⟨ad126, e126, hx126_0⟩ := Kd.at_int HR125_0.out x8_7 p126 q126
                cases e126
                replace p126 := eq_true p126
                replace q126 := eq_true q126
                have p127 : 0 ≤ ((rd (rd_L1 l0_0 x7_6) x8_7) : Int) := oT (by first | (with_reducible assumption) | assumption)
                have q127 : (rd (rd_L1 l0_0 x7_6) x8_7) < ((rd_L1 l0_0 x6_4).length : Int) := oT (by first | (with_reducible assumption) | assumption)
                obtain ⟨ad127, e127, hx127_0⟩ := Kd.at_int HR124_0.out (rd (rd_L1 l0_0 x7_6) x8_7) p127 q127
                obtain rfl : ad121 = ad127 := (by injection e127)
                replace p127 := eq_true p127
                replace q127 := eq_true q127
                go_wp2
                repeat (go_quiet (fail); try go_wp2)
                go_ret
                exact ⟨by first | rfl | (simp; done) | (simp [*]; done), by repeat (first | exact Drawn0.refl _ | apply Drawn0.step)⟩
               rw [if_pos c52] at H
               have c52b0 : ((rd (rd_L1 l0_0 (rd (rd_L1 l0_0 x6_4) x7_6)) x8_7) == (rd (rd_L1 l0_0 x6_4) (rd (rd_L1 l0_0 x7_6) x8_7))) = true := beq_iff_eq.mpr c52
               have c52b1 : ((rd (rd_L1 l0_0 (rd (rd_L1 l0_0 x6_4) x7_6)) x8_7) != (rd (rd_L1 l0_0 x6_4) (rd (rd_L1 l0_0 x7_6) x8_7))) = false := bne_eq_false_iff_eq.mpr c52
               clear c52
               have H' := AZ.mk H
               clear H
               have hcz53_0 : w.cell? ⟨g0_, 0, none⟩ = some (.slice A0_0 l0_0.length c0_0) := (bc BK0.out 0).trans rfl
               have hcz53_1 : w.cell? ⟨g0_, 1, none⟩ = some (.slice A0_1 l0_1.length c0_1) := (bc BK0.out 1).trans rfl
               have hcz53_2 : w.cell? ⟨g0_, 2, none⟩ = some (.slice A0_2 l0_2.length c0_2) := (bc BK0.out 2).trans rfl
               have hcz53_3 : w.cell? ⟨g0_, 3, none⟩ = some (.slice A0_3 l0_3.length c0_3) := (bc BK0.out 3).trans rfl
               have hfz53_0 := bf BK0.out 0
               have hfz53_1 := bf BK0.out 1
               have hfz53_2 := bf BK0.out 2
               have hfz53_3 := bf BK0.out 3
               have p120 : 0 ≤ (x6_4 : Int) := oT (by first | (with_reducible assumption) | assumption)
               have q120 : x6_4 < (l0_0.length : Int) := oT (by first | (with_reducible assumption) | assumption)
               obtain ⟨ad120, A120_0, c120_0, e120, hx120_0, hl120_0, hi120_0⟩ := at_L1 HR0_0.out x6_4 p120 q120
               cases e120
               have HR120_0 := AZ.mk hi120_0
               have HC120_0 := AZ.mk hl120_0
               clear hi120_0 hl120_0
               replace p120 := eq_true p120
               replace q120 := eq_true q120
               have p121 : 0 ≤ (x7_6 : Int) := oT (by first | (with_reducible assumption) | assumption)
               have q121 : x7_6 < ((rd_L1 l0_0 x6_4).length : Int) := oT (by first | (with_reducible assumption) | assumption)
               obtain ⟨ad121, e121, hx121_0⟩ := Kd.at_int HR120_0.out x7_6 p121 q121
               cases e121
               replace p121 := eq_true p121
               replace q121 := eq_true q121
               have p122 : 0 ≤ ((rd (rd_L1 l0_0 x6_4) x7_6) : Int) := oT (by first | (with_reducible assumption) | assumption)
               have q122 : (rd (rd_L1 l0_0 x6_4) x7_6) < (l0_0.length : Int) := oT (by first | (with_reducible assumption) | assumption)
               obtain ⟨ad122, A122_0, c122_0, e122, hx122_0, hl122_0, hi122_0⟩ := at_L1 HR0_0.out (rd (rd_L1 l0_0 x6_4) x7_6) p122 q122
               obtain rfl : ad120 = ad122 := (by injection e122)
               have HR122_0 := AZ.mk hi122_0
               have HC122_0 := AZ.mk hl122_0
               clear hi122_0 hl122_0
               replace p122 := eq_true p122
               replace q122 := eq_true q122
               have p123 : 0 ≤ (x8_7 : Int) := oT (by first | (with_reducible assumption) | assumption)
               have q123 : x8_7 < ((rd_L1 l0_0 (rd (rd_L1 l0_0 x6_4) x7_6)).length : Int) := oT (by first | (with_reducible assumption) | assumption)
               obtain ⟨ad123, e123, hx123_0⟩ := Kd.at_int HR122_0.out x8_7 p123 q123
               cases e123
               replace p123 := eq_true p123
               replace q123 := eq_true q123
               have p124 : 0 ≤ (x6_4 : Int) := oT (by first | (with_reducible assumption) | assumption)
               have q124 : x6_4 < (l0_0.length : Int) := oT (by first | (with_reducible assumption) | assumption)
               obtain ⟨ad124, A124_0, c124_0, e124, hx124_0, hl124_0, hi124_0⟩ := at_L1 HR0_0.out x6_4 p124 q124
               obtain rfl : ad120 = ad124 := (by injection e124)
               have HR124_0 := AZ.mk hi124_0
               have HC124_0 := AZ.mk hl124_0
               clear hi124_0 hl124_0
               replace p124 := eq_true p124
               replace q124 := eq_true q124
               have ea_ := Option.some.inj (hx120_0.symm.trans hx124_0)
               injection ea_ with ea_ en_ ec_
               subst ea_
               subst ec_
               clear en_
               have p125 : 0 ≤ (x7_6 : Int) := oT (by first | (with_reducible assumption) | assumption)
               have q125 : x7_6 < (l0_0.length : Int) := oT (by first | (with_reducible assumption) | assumption)
               obtain ⟨ad125, A125_0, c125_0, e125, hx125_0, hl125_0, hi125_0⟩ := at_L1 HR0_0.out x7_6 p125 q125
               obtain rfl : ad120 = ad125 := (by injection e125)
               have HR125_0 := AZ.mk hi125_0
               have HC125_0 := AZ.mk hl125_0
               clear hi125_0 hl125_0
               replace p125 := eq_true p125
               replace q125 := eq_true q125
               have p126 : 0 ≤ (x8_7 : Int) := oT (by first | (with_reducible assumption) | assumption)
               have q126 : x8_7 < ((rd_L1 l0_0 x7_6).length : Int) := oT (by first | (with_reducible assumption) | assumption)
               obtain ⟨ad126, e126, hx126_0⟩ := Kd.at_int HR125_0.out x8_7 p126 q126
               cases e126
               replace p126 := eq_true p126
               replace q126 := eq_true q126
               have p127 : 0 ≤ ((rd (rd_L1 l0_0 x7_6) x8_7) : Int) := oT (by first | (with_reducible assumption) | assumption)
               have q127 : (rd (rd_L1 l0_0 x7_6) x8_7) < ((rd_L1 l0_0 x6_4).length : Int) := oT (by first | (with_reducible assumption) | assumption)
               obtain ⟨ad127, e127, hx127_0⟩ := Kd.at_int HR124_0.out (rd (rd_L1 l0_0 x7_6) x8_7) p127 q127
               obtain rfl : ad121 = ad127 := (by injection e127)
               replace p127 := eq_true p127
               replace q127 := eq_true q127
               go_wp2
               repeat (go_quiet (fail); try go_wp2)
               go_roundg k7
               case measure => have := HJ1.out; have := HK2.out; have := HK3.out; have := HK4.out; have := HJ27.out; have := HK6.out; have := HK7.out; omega
               case rel => exact ⟨(wrap64 (x8_7 + 1)), (by first | rfl | (simp; done) | (simp [*]; done)), H', ⟨by have := HJ1.out; have := HK2.out; have := HK3.out; have := HK4.out; have := HJ27.out; have := HK6.out; have := HK7.out; omega⟩, by repeat (first | exact Drawn0.refl _ | apply Drawn0.step)⟩
end Go.Proofs.Ytgfilbgjnloopaa.P
namespace Go.Proofs.Ytgfilbgjnloopaa.P
open Go.RowKit Go.Proofs.YtgfilbgjnloopaaW.PrintWords Go.Proofs.YtgfilbgjnloopaaW.PrintLast Go.Proofs.YtgfilbgjnloopaaW.PrintMore
attribute [local go_sem] max2_int min2_int max_two min_two max_three min_three max_four min_four
set_option linter.unusedVariables false
set_option linter.unusedSimpArgs false
def spec_l01Symbol.l0 : Nat → Int → Int → Option (Int)
 | 0, _, _ => none
 | k + 1, x0, x3 => if x3 < 6 then (if 0 ≤ x3 then (if (bt (⟨#[40, 91, 41, 93, 97, 98]⟩ : ByteArray) x3) = x0 then (some x3) else (spec_l01Symbol.l0 k x0 (wrap64 (x3 + 1)))) else (none)) else (some (-1))
def spec_l01Symbol.f (k : Nat) (a0 : Int) : Option (Int) := spec_l01Symbol.l0 k a0 0
set_option maxHeartbeats 8000000 in
set_option maxRecDepth 100000 in
theorem spec_l01Symbol.calls (k : Nat) (a0 : Int) (r : Int) (w : World) (h : spec_l01Symbol.f k a0 = some r) :
  Calls Try.prog 73 #[.int .u8 a0] w fun e w' => e = .returned (.int .i64 r) ∧ Drawn0 w w' := by
 have H : (spec_l01Symbol.l0 k a0 0) = some r := h
 clear h
 have H' := AZ.mk H
 clear H
 go_enter Try.func73, Try.ntmps73
 go_wp2
 go_loopg [3] k (fun kq v3 w' => ∃ (x3_1 : Int), v3 = .int .i64 x3_1 ∧ AZ (spec_l01Symbol.l0 kq a0 x3_1 = some r) ∧ AZ (kq ≤ k) ∧ Drawn0 w w')
 case atStart => exact ⟨(0), (by first | rfl | (simp; done) | (simp [*]; done)), H', ⟨Nat.le_refl _⟩, by repeat (first | exact Drawn0.refl _ | apply Drawn0.step)⟩
 case round =>
  clear H'
  obtain ⟨x3_1, rfl, HA, HK1, ⟨m1, rfl⟩⟩ := hrel
  cases gk with
  | zero => exact absurd HA.out (by simp [spec_l01Symbol.l0])
  | succ k1 =>
   have H := HA.out
   clear HA
   simp only [spec_l01Symbol.l0] at H
   by_cases c2 : x3_1 < 6
   rotate_left
   ·rw [if_neg c2] at H
    have c2b0 : decide (x3_1 < 6) = false := decide_eq_false c2
    clear c2
    obtain rfl := Option.some.inj H
    go_wp2
    go_ret
    exact ⟨by first | rfl | (simp; done) | (simp [*]; done), by repeat (first | exact Drawn0.refl _ | apply Drawn0.step)⟩
   rw [if_pos c2] at H
   have c2b0 : decide (x3_1 < 6) = true := decide_eq_true c2
   clear c2
   by_cases c3 : 0 ≤ x3_1
   rotate_left
   ·rw [if_neg c3] at H
    exact absurd H (by simp)
   rw [if_pos c3] at H
   have c3b0 : decide (0 ≤ x3_1) = true := decide_eq_true c3
   clear c3
   by_cases c5 : (bt (⟨#[40, 91, 41, 93, 97, 98]⟩ : ByteArray) x3_1) = a0
   ·rw [if_pos c5] at H
    have c5b0 : ((bt (⟨#[40, 91, 41, 93, 97, 98]⟩ : ByteArray) x3_1) == a0) = true := beq_iff_eq.mpr c5
    have c5b1 : ((bt (⟨#[40, 91, 41, 93, 97, 98]⟩ : ByteArray) x3_1) != a0) = false := bne_eq_false_iff_eq.mpr c5
    clear c5
    obtain rfl := Option.some.inj H
    have p4 : 0 ≤ (x3_1 : Int) := oT (by first | (with_reducible assumption) | assumption)
    have q4 : x3_1 < (6 : Int) := oT (by first | (with_reducible assumption) | assumption)
    have hx4 := bt_at (⟨#[40, 91, 41, 93, 97, 98]⟩ : ByteArray) x3_1
    replace p4 := eq_true p4
    replace q4 := eq_true q4
    go_wp2
    go_ret
    exact ⟨by first | rfl | (simp; done) | (simp [*]; done), by repeat (first | exact Drawn0.refl _ | apply Drawn0.step)⟩
   rw [if_neg c5] at H
   have c5b0 : ((bt (⟨#[40, 91, 41, 93, 97, 98]⟩ : ByteArray) x3_1) == a0) = false := beq_eq_false_iff_ne.mpr c5
   have c5b1 : ((bt (⟨#[40, 91, 41, 93, 97, 98]⟩ : ByteArray) x3_1) != a0) = true := bne_iff_ne.mpr c5
   have H' := AZ.mk H
   clear H
   have p4 : 0 ≤ (x3_1 : Int) := oT (by first | (with_reducible assumption) | assumption)
   have q4 : x3_1 < (6 : Int) := oT (by first | (with_reducible assumption) | assumption)
   have hx4 := bt_at (⟨#[40, 91, 41, 93, 97, 98]⟩ : ByteArray) x3_1
   replace p4 := eq_true p4
   replace q4 := eq_true q4
   go_wp2
   go_roundg k1
   case measure => have := HK1.out; omega
   case rel => exact ⟨(wrap64 (x3_1 + 1)), (by first | rfl | (simp; done) | (simp [*]; done)), H', ⟨by have := HK1.out; omega⟩, by repeat (first | exact Drawn0.refl _ | apply Drawn0.step)⟩
end Go.Proofs.Ytgfilbgjnloopaa.P
namespace Go.Proofs.Ytgfilbgjnloopaa.P
open Go.RowKit Go.Proofs.YtgfilbgjnloopaaW.PrintWords Go.Proofs.YtgfilbgjnloopaaW.PrintLast Go.Proofs.YtgfilbgjnloopaaW.PrintMore
attribute [local go_sem] max2_int min2_int max_two min_two max_three min_three max_four min_four
set_option linter.unusedVariables false
set_option linter.unusedSimpArgs false
def spec_l01Ok.l0 : Nat → ByteArray → Int → Option (Bool)
 | 0, _, _ => none
 | k + 1, x0, x3 => if x3 < (x0.size : Int) then (if 0 ≤ x3 then ((spec_l01Symbol.f k (bt x0 x3)).bind fun t358 => (if t358 < 0 then (some false) else (spec_l01Ok.l0 k x0 (wrap64 (x3 + 1))))) else (none)) else (some (decide ((x0.size : Int) ≤ 60)))
def spec_l01Ok.f (k : Nat) (a0 : ByteArray) : Option (Bool) := spec_l01Ok.l0 k a0 0
set_option maxHeartbeats 8000000 in
set_option maxRecDepth 100000 in
theorem spec_l01Ok.calls (k : Nat) (a0 : ByteArray) (r : Bool) (w : World) (h : spec_l01Ok.f k a0 = some r) :
  Calls Try.prog 62 #[.string a0] w fun e w' => e = .returned (.bool r) ∧ Drawn0 w w' := by
 have H : (spec_l01Ok.l0 k a0 0) = some r := h
 clear h
 have H' := AZ.mk H
 clear H
 go_enter Try.func62, Try.ntmps62
 go_wp2
 go_loopg [3] k (fun kq v3 w' => ∃ (x3_1 : Int), v3 = .int .i64 x3_1 ∧ AZ (spec_l01Ok.l0 kq a0 x3_1 = some r) ∧ AZ (kq ≤ k) ∧ Drawn0 w w')
 case atStart => exact ⟨(0), (by first | rfl | (simp; done) | (simp [*]; done)), H', ⟨Nat.le_refl _⟩, by repeat (first | exact Drawn0.refl _ | apply Drawn0.step)⟩
 case round =>
  clear H'
  obtain ⟨x3_1, rfl, HA, HK1, ⟨m1, rfl⟩⟩ := hrel
  cases gk with
  | zero => exact absurd HA.out (by simp [spec_l01Ok.l0])
  | succ k1 =>
   have H := HA.out
   clear HA
   simp only [spec_l01Ok.l0] at H
   by_cases c2 : x3_1 < (a0.size : Int)
   rotate_left
   ·rw [if_neg c2] at H
    have c2b0 : decide (x3_1 < (a0.size : Int)) = false := decide_eq_false c2
    clear c2
    obtain rfl := Option.some.inj H
    go_wp2
    go_ret
    exact ⟨by first | rfl | (simp; done) | (simp [*]; done), by repeat (first | exact Drawn0.refl _ | apply Drawn0.step)⟩
   rw [if_pos c2] at H
   have c2b0 : decide (x3_1 < (a0.size : Int)) = true := decide_eq_true c2
   clear c2
   by_cases c3 : 0 ≤ x3_1
   rotate_left
   ·rw [if_neg c3] at H
    exact absurd H (by simp)
   rw [if_pos c3] at H
   have c3b0 : decide (0 ≤ x3_1) = true := decide_eq_true c3
   clear c3
   replace H := Option.bind_eq_some_iff.mp H
   obtain ⟨t358, A50, H⟩ := H
   replace H : (if t358 < 0 then (some false) else (spec_l01Ok.l0 k1 a0 (wrap64 (x3_1 + 1)))) = some r := H
   have A5 := AZ.mk A50
   clear A50
   by_cases c6 : t358 < 0
   ·rw [if_pos c6] at H
    have c6b0 : decide (t358 < 0) = true := decide_eq_true c6
    clear c6
    obtain rfl := Option.some.inj H
    have p4 : 0 ≤ (x3_1 : Int) := oT (by first | (with_reducible assumption) | assumption)
    have q4 : x3_1 < (a0.size : Int) := oT (by first | (with_reducible assumption) | assumption)
    have hx4 := bt_at a0 x3_1
    replace p4 := eq_true p4
    replace q4 := eq_true q4
    go_wp2_with (first | ((with_reducible refine gate_callee (f := 73) rfl ?_); refine goesL_ (some 13) rfl rfl Try.func73 (by kernel_rfl) rfl #[.int .u8 (bt a0 x3_1)] rfl (by (try simp only [List.map_toArray, List.map_cons, List.map_nil]); first | done | rfl | (simp only [List.length_drop, List.length_take]; rfl)) ?_; (with_reducible refine (spec_l01Symbol.calls k1 (bt a0 x3_1) t358 _ A5.out).mono ?_); rintro e w' ⟨rfl, ⟨nd, rfl⟩⟩; refine ⟨_, rfl, ?_⟩))
    go_ret
    exact ⟨by first | rfl | (simp; done) | (simp [*]; done), by repeat (first | exact Drawn0.refl _ | apply Drawn0.step)⟩
   rw [if_neg c6] at H
   have c6b0 : decide (t358 < 0) = false := decide_eq_false c6
   clear c6
   have H' := AZ.mk H
   clear H
   have p4 : 0 ≤ (x3_1 : Int) := oT (by first | (with_reducible assumption) | assumption)
   have q4 : x3_1 < (a0.size : Int) := oT (by first | (with_reducible assumption) | assumption)
   have hx4 := bt_at a0 x3_1
   replace p4 := eq_true p4
   replace q4 := eq_true q4
   go_wp2_with (first | ((with_reducible refine gate_callee (f := 73) rfl ?_); refine goesL_ (some 13) rfl rfl Try.func73 (by kernel_rfl) rfl #[.int .u8 (bt a0 x3_1)] rfl (by (try simp only [List.map_toArray, List.map_cons, List.map_nil]); first | done | rfl | (simp only [List.length_drop, List.length_take]; rfl)) ?_; (with_reducible refine (spec_l01Symbol.calls k1 (bt a0 x3_1) t358 _ A5.out).mono ?_); rintro e w' ⟨rfl, ⟨nd, rfl⟩⟩; refine ⟨_, rfl, ?_⟩))
   go_roundg k1
   case measure => have := HK1.out; omega
   case rel => exact ⟨(wrap64 (x3_1 + 1)), (by first | rfl | (simp; done) | (simp [*]; done)), H', ⟨by have := HK1.out; omega⟩, by repeat (first | exact Drawn0.refl _ | apply Drawn0.step)⟩
end Go.Proofs.Ytgfilbgjnloopaa.P
namespace Go.Proofs.Ytgfilbgjnloopaa.P
open Go.RowKit Go.Proofs.YtgfilbgjnloopaaW.PrintWords Go.Proofs.YtgfilbgjnloopaaW.PrintLast Go.Proofs.YtgfilbgjnloopaaW.PrintMore
attribute [local go_sem] max2_int min2_int max_two min_two max_three min_three max_four min_four
set_option linter.unusedVariables false
set_option linter.unusedSimpArgs false
def spec_l01Call.f (a0 : Int) : Option (Bool) := if a0 = 40 then (some true) else (some (a0 == 91))
set_option maxHeartbeats 8000000 in
set_option maxRecDepth 100000 in
theorem spec_l01Call.calls (a0 : Int) (r : Bool) (w : World) (h : spec_l01Call.f a0 = some r) :
  Calls Try.prog 76 #[.int .u8 a0] w fun e w' => e = .returned (.bool r) ∧ Drawn0 w w' := by
 have H : (if a0 = 40 then (some true) else (some (a0 == 91))) = some r := h
 clear h
 by_cases c2 : a0 = 40
 rotate_left
 ·rw [if_neg c2] at H
  have c2b0 : (a0 == 40) = false := beq_eq_false_iff_ne.mpr c2
  have c2b1 : (a0 != 40) = true := bne_iff_ne.mpr c2
  obtain rfl := Option.some.inj H
  go_enter Try.func76, Try.ntmps76
  go_wp2
  go_ret
  exact ⟨by first | rfl | (simp; done) | (simp [*]; done), by repeat (first | exact Drawn0.refl _ | apply Drawn0.step)⟩
 rw [if_pos c2] at H
 have c2b0 : (a0 == 40) = true := beq_iff_eq.mpr c2
 have c2b1 : (a0 != 40) = false := bne_eq_false_iff_eq.mpr c2
 clear c2
 obtain rfl := Option.some.inj H
 go_enter Try.func76, Try.ntmps76
 go_wp2
 go_ret
 exact ⟨by first | rfl | (simp; done) | (simp [*]; done), by repeat (first | exact Drawn0.refl _ | apply Drawn0.step)⟩
end Go.Proofs.Ytgfilbgjnloopaa.P
namespace Go.Proofs.Ytgfilbgjnloopaa.P
open Go.RowKit Go.Proofs.YtgfilbgjnloopaaW.PrintWords Go.Proofs.YtgfilbgjnloopaaW.PrintLast Go.Proofs.YtgfilbgjnloopaaW.PrintMore
attribute [local go_sem] max2_int min2_int max_two min_two max_three min_three max_four min_four
set_option linter.unusedVariables false
set_option linter.unusedSimpArgs false
def spec_l01Return.f (a0 : Int) : Option (Bool) := if a0 = 41 then (some true) else (some (a0 == 93))
set_option maxHeartbeats 8000000 in
set_option maxRecDepth 100000 in
theorem spec_l01Return.calls (a0 : Int) (r : Bool) (w : World) (h : spec_l01Return.f a0 = some r) :
  Calls Try.prog 82 #[.int .u8 a0] w fun e w' => e = .returned (.bool r) ∧ Drawn0 w w' := by
 have H : (if a0 = 41 then (some true) else (some (a0 == 93))) = some r := h
 clear h
 by_cases c2 : a0 = 41
 rotate_left
 ·rw [if_neg c2] at H
  have c2b0 : (a0 == 41) = false := beq_eq_false_iff_ne.mpr c2
  have c2b1 : (a0 != 41) = true := bne_iff_ne.mpr c2
  obtain rfl := Option.some.inj H
  go_enter Try.func82, Try.ntmps82
  go_wp2
  go_ret
  exact ⟨by first | rfl | (simp; done) | (simp [*]; done), by repeat (first | exact Drawn0.refl _ | apply Drawn0.step)⟩
 rw [if_pos c2] at H
 have c2b0 : (a0 == 41) = true := beq_iff_eq.mpr c2
 have c2b1 : (a0 != 41) = false := bne_eq_false_iff_eq.mpr c2
 clear c2
 obtain rfl := Option.some.inj H
 go_enter Try.func82, Try.ntmps82
 go_wp2
 go_ret
 exact ⟨by first | rfl | (simp; done) | (simp [*]; done), by repeat (first | exact Drawn0.refl _ | apply Drawn0.step)⟩
end Go.Proofs.Ytgfilbgjnloopaa.P
