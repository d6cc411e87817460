/- Texts that this law leans on, several in one; written by programs of these sessions (print, wip/deep, gather.py). -/
import Derived.Test.YtepkfigcnnfoaaaOe0
import Derived.Laws.Tables
import Derived.Deep.WholeRow
set_option linter.unusedVariables false
set_option linter.unusedSimpArgs false
set_option linter.unusedSectionVars false
set_option maxHeartbeats 8000000
set_option maxRecDepth 100000
namespace Go.Proofs.Ytepkfigcnnfoaaa.P
open Go.RowKit Go.Proofs.YtepkfigcnnfoaaaW.PrintWords Go.Proofs.YtepkfigcnnfoaaaW.PrintLast Go.Proofs.YtepkfigcnnfoaaaW.PrintMore
attribute [local go_sem] Zn Zp Zw Zx Zj Zk Zq Zr
def laws_toPushS.l0 : Nat → List (S101) → List (S47) → Int → Option ((List (S47)))
 | 0, _, _, _ => none
 | k + 1, x0, x3, x4 => if x4 < (x0.length : Int) then (if 0 ≤ x4 then ((laws_toPush.f ((rd_T101 x0 x4).f0) ((rd_T101 x0 x4).f1)).bind fun bt421 => (if x4 < (x3.length : Int) then (laws_toPushS.l0 k x0 (x3.set (x4 : Int).toNat (⟨bt421.1, bt421.2⟩ : S47)) (wrap64 (x4 + 1))) else (none))) else (none)) else (some x3)
def laws_toPushS.f (k : Nat) (l0 : List (S101)) : Option ((List (S47))) := if 0 ≤ (l0.length : Int) then (if ((l0.length : Int) : Int).toNat ≤ 17592186044416 then (laws_toPushS.l0 k l0 (List.replicate ((l0.length : Int) : Int).toNat z47) 0) else (none)) else (none)
theorem laws_toPushS.calls (k : Nat) (A0 : Option Addr) (c0 : Nat) (l0 : List (S101)) (r : List (S47)) (w : World) (hr0 : Kd.C k101 w A0 l0.length l0) (hc0 : l0.length ≤ c0) (h : laws_toPushS.f k l0 = some r) :
  Calls Try.prog 95 #[.slice A0 l0.length c0] w fun e w' => ∃ v0_ : Value, e = .returned (v0_) ∧ Kd.R k47 47 w' w.heap.size (fun _ => True) v0_ r ∧ Below w.heap.size w w' := by
 have hu101 := Try.underlying101
 have hu47 := Try.underlying47
 have HR0 := AZ.mk hr0
 have HC0 := AZ.mk hc0
 clear hr0 hc0
 have HB := AZ.mk (Below.refl w.heap.size w)
 have H : (if 0 ≤ (l0.length : Int) then (if ((l0.length : Int) : Int).toNat ≤ 17592186044416 then (laws_toPushS.l0 k l0 (List.replicate ((l0.length : Int) : Int).toNat z47) 0) else (none)) else (none)) = some r := h
 clear h
 by_cases c2 : 0 ≤ (l0.length : Int)
 rotate_left
 ·rw [if_neg c2] at H
  exact absurd H (by simp)
 rw [if_pos c2] at H
 have c2b0 := eq_true c2
 have c2b1 : decide (0 ≤ (l0.length : Int)) = true := dT c2
 clear c2
 by_cases c3 : ((l0.length : Int) : Int).toNat ≤ 17592186044416
 rotate_left
 ·rw [if_neg c3] at H
  exact absurd H (by simp)
 rw [if_pos c3] at H
 have c3b0 := eq_true c3
 have c3b1 : decide (((l0.length : Int) : Int).toNat ≤ 17592186044416) = true := dT c3
 clear c3
 obtain ⟨y417, hy417⟩ : ∃ y_ : List (S47), y_ = (List.replicate ((l0.length : Int) : Int).toNat z47) := ⟨_, rfl⟩
 replace H : (laws_toPushS.l0 k l0 y417 0) = some r := by first | (rw [hy417]; with_reducible exact H) | (have H2_ := (Option.bind_some _ _).symm.trans H; rw [hy417]; with_reducible exact H2_) | (have H2_ := (Option.bind_some _ _).symm.trans H; with_reducible exact H2_) | with_reducible exact H | (rw [hy417]; exact H) | exact H
 have Ny417 := AZ.mk hy417
 clear hy417
 have H' := AZ.mk H
 clear H
 go_enter Try.func95, Try.ntmps95
 go_wp2_with (first | ((with_reducible refine Zc (N := 7) rfl ?_); refine Kd.R_make k47 _ 47 rfl (N := 7) rfl 48 _ _ rfl (l0.length : Int) rfl rfl Try.underlying48 (.agg #[(.int .i64 0), (.int .i64 0)]) 16 info47 rfl (by decide) (by omega) z47 (ok := fun _ => True) (okp := fun _ => True) (k47_mkM _ _ _ z47 ) (fun _ hk => hk) trivial (oT (by first | (with_reducible assumption) | assumption)) (Nat.le_trans (Nat.mul_le_mul_right _ (oT (by first | (with_reducible assumption) | assumption) : (l0.length : Int).toNat ≤ 17592186044416)) (by omega)) (Below.refl _ _) (Nat.le_refl _) ?_; intro v418 w4 ho5 hb hg_ hnew_; clear hg_ hnew_; (first | rw [← Ny417.out] at ho5 | (simp only [Int.reduceToNat] at ho5; rw [← Ny417.out] at ho5)); have n0_ := AZ.mk (Kd.R_lower ho5 (pZ (by repeat (first | (with_reducible first | exact HB.out | apply pA | apply pN | apply pD) | exact HB.out)))); have n1_ := AZ.mk (pT (by repeat (first | (with_reducible first | exact HB.out | apply pA | apply pN | apply pD) | exact HB.out)) hb); clear HB; have HO419 := n0_; have HB := n1_; clear n0_ n1_; clear hb ho5))
 go_loopg [4] k (fun kq v4 w' => ∃ (x3_1 : List (S47)) (x4_1 : Int), v4 = .int .i64 x4_1 ∧ AZ (laws_toPushS.l0 kq l0 x3_1 x4_1 = some r) ∧ AZ (kq ≤ k) ∧ AZ (Kd.R k47 47 w' w.heap.size (fun _ => True) v418 x3_1) ∧ AZ (Below w.heap.size w w'))
 case atStart => exact ⟨(y417), (0), (by first | rfl | (simp; done) | (simp [*]; done)), H', ⟨Nat.le_refl _⟩, ⟨by (with_reducible repeat (first | apply Kd.R_alloc | apply Kd.R_drewN | apply Kd.R_drew)); exact HO419.out⟩, ⟨by repeat (first | (with_reducible first | exact HB.out | apply pA | apply pN | apply pD) | exact HB.out)⟩⟩
 case round =>
  clear H'
  try clear c2
  try clear c2b0
  try clear c2b1
  try clear p2
  try clear c3
  try clear c3b0
  try clear c3b1
  obtain ⟨x3_1, x4_1, rfl, HA, HK1, HO_3, HB⟩ := hrel
  cases gk with
  | zero => exact absurd HA.out (by simp [laws_toPushS.l0])
  | succ k1 =>
   have H := HA.out
   clear HA
   simp only [laws_toPushS.l0] at H
   by_cases c6 : x4_1 < (l0.length : Int)
   rotate_left
   ·rw [if_neg c6] at H
    have c6b0 : decide (x4_1 < (l0.length : Int)) = false := dF c6
    clear c6
    obtain rfl := oJ H
    go_wp2
    go_ret
    exact ⟨_, by first | rfl | (simp [Ze, Zf] <;> rfl) | (simp [*, Ze, Zf] <;> rfl), by (with_reducible repeat (first | apply Kd.R_alloc | apply Kd.R_drewN | apply Kd.R_drew)); exact HO_3.out, by repeat (first | (with_reducible first | exact HB.out | apply pA | apply pN | apply pD) | exact HB.out)⟩
   rw [if_pos c6] at H
   have c6b0 : decide (x4_1 < (l0.length : Int)) = true := dT c6
   clear c6
   by_cases c7 : 0 ≤ x4_1
   rotate_left
   ·rw [if_neg c7] at H
    exact absurd H (by simp)
   rw [if_pos c7] at H
   have c7b0 : decide (0 ≤ x4_1) = true := dT c7
   clear c7
   replace H := Option.bind_eq_some_iff.mp H
   obtain ⟨⟨t421, t422⟩, A80, H⟩ := H
   replace H : (if x4_1 < (x3_1.length : Int) then (laws_toPushS.l0 k1 l0 (x3_1.set (x4_1 : Int).toNat (⟨t421, t422⟩ : S47)) (wrap64 (x4_1 + 1))) else (none)) = some r := H
   have A8 := AZ.mk A80
   clear A80
   by_cases c9 : x4_1 < (x3_1.length : Int)
   rotate_left
   ·rw [if_neg c9] at H
    exact absurd H (by simp)
   rw [if_pos c9] at H
   have c9b0 : decide (x4_1 < (x3_1.length : Int)) = true := dT c9
   clear c9
   obtain ⟨y423, hy423⟩ : ∃ y_ : List (S47), y_ = (x3_1.set (x4_1 : Int).toNat (⟨t421, t422⟩ : S47)) := ⟨_, rfl⟩
   replace H : (laws_toPushS.l0 k1 l0 y423 (wrap64 (x4_1 + 1))) = some r := by first | (rw [hy423]; with_reducible exact H) | (have H2_ := (Option.bind_some _ _).symm.trans H; rw [hy423]; with_reducible exact H2_) | (have H2_ := (Option.bind_some _ _).symm.trans H; with_reducible exact H2_) | with_reducible exact H | (rw [hy423]; exact H) | exact H
   have Ny423 := AZ.mk hy423
   clear hy423
   have H' := AZ.mk H
   clear H
   have p420 : 0 ≤ (x4_1 : Int) := oT (by first | (with_reducible assumption) | assumption)
   have q420 : x4_1 < (l0.length : Int) := oT (by first | (with_reducible assumption) | assumption)
   obtain ⟨ad420, e420, hx420_0, hx420_1⟩ := at_T101 HR0.out x4_1 p420 q420
   cases e420
   replace hx420_0 := (HB.out.cell (World.block_lt_of_cell? w _ hx420_0)).trans hx420_0
   replace hx420_1 := (HB.out.cell (World.block_lt_of_cell? w _ hx420_1)).trans hx420_1
   replace p420 := eq_true p420
   replace q420 := eq_true q420
   go_wp2_with (first | ((with_reducible refine gate_callee (f := 116) rfl ?_); refine Zi (some 20) rfl rfl Try.func116 (by kernel_rfl) rfl #[.agg #[.int .i64 ((rd_T101 l0 x4_1).f0), .int .i64 ((rd_T101 l0 x4_1).f1)]] rfl (by (try simp only [mA, mB, mC]); first | done | rfl | (simp only [lD, lT]; rfl)) ?_; (with_reducible refine (laws_toPush.calls ((rd_T101 l0 x4_1).f0) ((rd_T101 l0 x4_1).f1) t421 t422 _ A8.out).mono ?_); rintro e w11 ⟨rfl, hb⟩; refine ⟨_, rfl, ?_⟩; have n0_ := AZ.mk (Kd.R_below (by (with_reducible repeat (first | apply Kd.R_alloc | apply Kd.R_drewN | apply Kd.R_drew)); exact HO_3.out) hb); have n1_ := AZ.mk (pT (by repeat (first | (with_reducible first | exact HB.out | apply pA | apply pN | apply pD) | exact HB.out)) hb); clear HO_3; clear HB; have HO_3 := n0_; have HB := n1_; clear n0_ n1_; (try clear hb); (try clear hb2); (try clear hk); (try clear hi); have p10 : 0 ≤ (x4_1 : Int) := oT (by first | (with_reducible assumption) | assumption); have q10 : (x4_1 : Int) < ((x3_1.length : Int) : Int) := oT (by first | (with_reducible assumption) | assumption); obtain ⟨go10, co10, eo10, gb10, gl10, cl10, HG10⟩ := Kd.R_form HO_3.out (by omega); (first | cases eo10 | (injection eo10 with ea_ en_ ec_; (first | subst ea_ | (injection ea_ with ea_; subst ea_)); subst ec_; clear en_)); have GB10 := AZ.mk gb10; have GG10 := AZ.mk HG10; clear gb10 gl10 HG10; obtain ⟨ce10, hcl10, hM10, hcc10, hfr10⟩ := Kd.R_elem HO_3.out z47 (x4_1 : Int) p10 q10; obtain rfl := k47_openM hM10; have hx10_0 : w11.cell? ⟨go10, (x4_1 : Int).toNat * 2, none⟩ = some (.int .i64 ((Zb x3_1 x4_1).f0)) := hcc10 0 _ rfl; have hx10_1 : w11.cell? ⟨go10, (x4_1 : Int).toNat * 2 + 1, none⟩ = some (.int .i64 ((Zb x3_1 x4_1).f1)) := hcc10 1 _ rfl; have hf10_0 : w11.frozen? ⟨go10, (x4_1 : Int).toNat * 2, none⟩ = false := hfr10 0; have hf10_1 : w11.frozen? ⟨go10, (x4_1 : Int).toNat * 2 + 1, none⟩ = false := hfr10 1; clear hcl10 hcc10 hfr10; (try clear hM10); replace p10 := eq_true p10; replace q10 := eq_true q10; have HX12 := AZ.mk (show Kd.R k47 47 w11 w.heap.size (fun _ => True) (.slice (some ⟨go10, 0, none⟩) x3_1.length co10) x3_1 from (by (with_reducible repeat (first | apply Kd.R_alloc | apply Kd.R_drewN | apply Kd.R_drew)); exact HO_3.out)); obtain ⟨ce12, hcl12, hM12, hcc12, hfr12⟩ := Kd.R_elem HX12.out z47 (x4_1 : Int) (oT (by first | (with_reducible assumption) | assumption)) (by have h_ : (x4_1 : Int) < ((x3_1.length : Int) : Int) := oT (by first | (with_reducible assumption) | assumption); first | exact h_ | (have e_ := (Kd.R_reads' HO_3.out).1; omega) | simpa using h_); obtain rfl := k47_openM hM12; have HP12 := Kd.R_seg HX12.out (x4_1 : Int) (oT (by first | (with_reducible assumption) | assumption)) (by have h_ : (x4_1 : Int) < ((x3_1.length : Int) : Int) := oT (by first | (with_reducible assumption) | assumption); first | exact h_ | (have e_ := (Kd.R_reads' HO_3.out).1; omega) | simpa using h_) (seg := [.int .i64 t421, .int .i64 t422]) (j := 0) hcl12 hcc12 (show 2 ≤ 2 from by decide) (x' := (⟨t421, t422⟩ : S47)) (k47_mkM _ _ _ (⟨t421, t422⟩ : S47) ) (fun _ hk => hk); have hx12_0 := hcc12 0 _ rfl; (try simp only [show (k47).sz = 2 from rfl, Nat.mul_one, Nat.add_zero] at hx12_0); have hf12_0 := hfr12 0; (try simp only [show (k47).sz = 2 from rfl, Nat.mul_one, Nat.add_zero] at hf12_0); have hx12_1 := hcc12 1 _ rfl; (try simp only [show (k47).sz = 2 from rfl, Nat.mul_one, Nat.add_zero] at hx12_1); have hf12_1 := hfr12 1; (try simp only [show (k47).sz = 2 from rfl, Nat.mul_one, Nat.add_zero] at hf12_1); clear hcl12 hcc12 hfr12; (try clear hM12)) | ((with_reducible refine Yk (t := 47) (p := 21) rfl ?_); refine Yg (t := 47) (p := 21) (v := ?vo_w13) (w1 := ((w11.setCell ⟨go10, (x4_1 : Int).toNat * 2, none⟩ (.int .i64 t421)).setCell ⟨go10, (x4_1 : Int).toNat * 2 + 1, none⟩ (.int .i64 t422))) ?hg ?ho ?hn ?hr ?_; (case ho => rfl); (case hg => rfl); (case hn => rfl); (case hr => first | (go_simp; done) | (go_simp; rfl)); intro w13 hw; have hg : w11.grownBy w13 (some go10) := (by rw [hw]; exact HP12.2); have hp_ : Kd.R k47 47 w13 w.heap.size (fun _ => True) (.slice (some ⟨go10, 0, none⟩) x3_1.length co10) y423 := (by rw [hw, Ny423.out]; exact HP12.1); clear HP12; have n0_ := AZ.mk (hp_); have n1_ := AZ.mk ((by rw [hw]; exact pS (pS (HB.out) GB10.out) GB10.out : Below w.heap.size w w13)); clear HO_3; clear HB; have HO_3 := n0_; have HB := n1_; clear n0_ n1_; clear hg hw hp_))
   go_roundg k1
   case measure => have := HK1.out; omega
   case rel => exact ⟨(y423), (wrap64 (x4_1 + 1)), (by first | rfl | (simp; done) | (simp [*]; done)), H', ⟨by have := HK1.out; omega⟩, ⟨by (with_reducible repeat (first | apply Kd.R_alloc | apply Kd.R_drewN | apply Kd.R_drew)); exact HO_3.out⟩, ⟨by repeat (first | (with_reducible first | exact HB.out | apply pA | apply pN | apply pD) | exact HB.out)⟩⟩
end Go.Proofs.Ytepkfigcnnfoaaa.P
namespace Go.Proofs.Ytepkfigcnnfoaaa.P
open Go.RowKit Go.Proofs.YtepkfigcnnfoaaaW.PrintWords Go.Proofs.YtepkfigcnnfoaaaW.PrintLast Go.Proofs.YtepkfigcnnfoaaaW.PrintMore
attribute [local go_sem] Zn Zp Zw Zx Zj Zk Zq Zr
def laws_toPushSS.l0 : Nat → List (List (S101)) → List (List (S47)) → Int → Option ((List (List (S47))))
 | 0, _, _, _ => none
 | k + 1, x0, x3, x4 => if x4 < (x0.length : Int) then (if 0 ≤ x4 then ((laws_toPushS.f k (rd_L9 x0 x4)).bind fun t428 => (if x4 < (x3.length : Int) then (laws_toPushSS.l0 k x0 (x3.set (x4 : Int).toNat t428) (wrap64 (x4 + 1))) else (none))) else (none)) else (some x3)
def laws_toPushSS.f (k : Nat) (l0 : List (List (S101))) : Option ((List (List (S47)))) := if 0 ≤ (l0.length : Int) then (if ((l0.length : Int) : Int).toNat ≤ 11728124029610 then (laws_toPushSS.l0 k l0 (List.replicate ((l0.length : Int) : Int).toNat []) 0) else (none)) else (none)
theorem laws_toPushSS.calls (k : Nat) (A0 : Option Addr) (c0 : Nat) (l0 : List (List (S101))) (r : List (List (S47))) (w : World) (hr0 : Kd.C (Kd.slice 101 k101) w A0 l0.length l0) (hc0 : l0.length ≤ c0) (h : laws_toPushSS.f k l0 = some r) :
  Calls Try.prog 73 #[.slice A0 l0.length c0] w fun e w' => ∃ v0_ : Value, e = .returned (v0_) ∧ Kd.S (Kd.slice 47 k47) 48 w' w.heap.size (fun _ => True) v0_ r ∧ Below w.heap.size w w' := by
 have HR0 := AZ.mk hr0
 have HC0 := AZ.mk hc0
 clear hr0 hc0
 have HB := AZ.mk (Below.refl w.heap.size w)
 have H : (if 0 ≤ (l0.length : Int) then (if ((l0.length : Int) : Int).toNat ≤ 11728124029610 then (laws_toPushSS.l0 k l0 (List.replicate ((l0.length : Int) : Int).toNat []) 0) else (none)) else (none)) = some r := h
 clear h
 by_cases c2 : 0 ≤ (l0.length : Int)
 rotate_left
 ·rw [if_neg c2] at H
  exact absurd H (by simp)
 rw [if_pos c2] at H
 have c2b0 := eq_true c2
 have c2b1 : decide (0 ≤ (l0.length : Int)) = true := dT c2
 clear c2
 by_cases c3 : ((l0.length : Int) : Int).toNat ≤ 11728124029610
 rotate_left
 ·rw [if_neg c3] at H
  exact absurd H (by simp)
 rw [if_pos c3] at H
 have c3b0 := eq_true c3
 have c3b1 : decide (((l0.length : Int) : Int).toNat ≤ 11728124029610) = true := dT c3
 clear c3
 obtain ⟨y424, hy424⟩ : ∃ y_ : List (List (S47)), y_ = (List.replicate ((l0.length : Int) : Int).toNat []) := ⟨_, rfl⟩
 replace H : (laws_toPushSS.l0 k l0 y424 0) = some r := by first | (rw [hy424]; with_reducible exact H) | (have H2_ := (Option.bind_some _ _).symm.trans H; rw [hy424]; with_reducible exact H2_) | (have H2_ := (Option.bind_some _ _).symm.trans H; with_reducible exact H2_) | with_reducible exact H | (rw [hy424]; exact H) | exact H
 have Ny424 := AZ.mk hy424
 clear hy424
 have H' := AZ.mk H
 clear H
 go_enter Try.func73, Try.ntmps73
 go_wp2_with (first | ((with_reducible refine Zc (N := 7) rfl ?_); refine Kd.S_make (Kd.slice 47 k47) _ 48 rfl (N := 7) rfl 23 _ _ rfl (l0.length : Int) rfl rfl Try.underlying23 (.slice none 0 0) 24 info48 rfl (by decide) (by omega) [] (ok := fun _ => True) (okp := fun _ => True) ⟨_, rfl, Kd.R_nil _ _ _ _ _⟩ (fun _ hk => hk) trivial (oT (by first | (with_reducible assumption) | assumption)) (Nat.le_trans (Nat.mul_le_mul_right _ (oT (by first | (with_reducible assumption) | assumption) : (l0.length : Int).toNat ≤ 11728124029610)) (by omega)) (Below.refl _ _) (Nat.le_refl _) ?_; intro v425 w4 ho5 hb hg_ hnew_; clear hg_ hnew_; (first | rw [← Ny424.out] at ho5 | (simp only [Int.reduceToNat] at ho5; rw [← Ny424.out] at ho5)); have n0_ := AZ.mk (Kd.S_lower ho5 (pZ (by repeat (first | (with_reducible first | exact HB.out | apply pA | apply pN | apply pD) | exact HB.out)))); have n1_ := AZ.mk (pT (by repeat (first | (with_reducible first | exact HB.out | apply pA | apply pN | apply pD) | exact HB.out)) hb); clear HB; have HO426 := n0_; have HB := n1_; clear n0_ n1_; clear hb ho5))
 go_loopg [4] k (fun kq v4 w' => ∃ (x3_1 : List (List (S47))) (x4_1 : Int), v4 = .int .i64 x4_1 ∧ AZ (laws_toPushSS.l0 kq l0 x3_1 x4_1 = some r) ∧ AZ (kq ≤ k) ∧ AZ (Kd.S (Kd.slice 47 k47) 48 w' w.heap.size (fun _ => True) v425 x3_1) ∧ AZ (Below w.heap.size w w'))
 case atStart => exact ⟨(y424), (0), (by first | rfl | (simp; done) | (simp [*]; done)), H', ⟨Nat.le_refl _⟩, ⟨by (with_reducible repeat (first | apply Kd.S_alloc | apply Kd.S_drewN | apply Kd.S_drew)); exact HO426.out⟩, ⟨by repeat (first | (with_reducible first | exact HB.out | apply pA | apply pN | apply pD) | exact HB.out)⟩⟩
 case round =>
  clear H'
  try clear c2
  try clear c2b0
  try clear c2b1
  try clear p2
  try clear c3
  try clear c3b0
  try clear c3b1
  obtain ⟨x3_1, x4_1, rfl, HA, HK1, HO_3, HB⟩ := hrel
  cases gk with
  | zero => exact absurd HA.out (by simp [laws_toPushSS.l0])
  | succ k1 =>
   have H := HA.out
   clear HA
   simp only [laws_toPushSS.l0] at H
   by_cases c6 : x4_1 < (l0.length : Int)
   rotate_left
   ·rw [if_neg c6] at H
    have c6b0 : decide (x4_1 < (l0.length : Int)) = false := dF c6
    clear c6
    obtain rfl := oJ H
    go_wp2
    go_ret
    exact ⟨_, by first | rfl | (simp [Ze, Zf] <;> rfl) | (simp [*, Ze, Zf] <;> rfl), by (with_reducible repeat (first | apply Kd.S_alloc | apply Kd.S_drewN | apply Kd.S_drew)); exact HO_3.out, by repeat (first | (with_reducible first | exact HB.out | apply pA | apply pN | apply pD) | exact HB.out)⟩
   rw [if_pos c6] at H
   have c6b0 : decide (x4_1 < (l0.length : Int)) = true := dT c6
   clear c6
   by_cases c7 : 0 ≤ x4_1
   rotate_left
   ·rw [if_neg c7] at H
    exact absurd H (by simp)
   rw [if_pos c7] at H
   have c7b0 : decide (0 ≤ x4_1) = true := dT c7
   clear c7
   replace H := Option.bind_eq_some_iff.mp H
   obtain ⟨t428, A80, H⟩ := H
   replace H : (if x4_1 < (x3_1.length : Int) then (laws_toPushSS.l0 k1 l0 (x3_1.set (x4_1 : Int).toNat t428) (wrap64 (x4_1 + 1))) else (none)) = some r := H
   have A8 := AZ.mk A80
   clear A80
   by_cases c9 : x4_1 < (x3_1.length : Int)
   rotate_left
   ·rw [if_neg c9] at H
    exact absurd H (by simp)
   rw [if_pos c9] at H
   have c9b0 : decide (x4_1 < (x3_1.length : Int)) = true := dT c9
   clear c9
   obtain ⟨y431, hy431⟩ : ∃ y_ : List (List (S47)), y_ = (x3_1.set (x4_1 : Int).toNat t428) := ⟨_, rfl⟩
   replace H : (laws_toPushSS.l0 k1 l0 y431 (wrap64 (x4_1 + 1))) = some r := by first | (rw [hy431]; with_reducible exact H) | (have H2_ := (Option.bind_some _ _).symm.trans H; rw [hy431]; with_reducible exact H2_) | (have H2_ := (Option.bind_some _ _).symm.trans H; with_reducible exact H2_) | with_reducible exact H | (rw [hy431]; exact H) | exact H
   have Ny431 := AZ.mk hy431
   clear hy431
   have H' := AZ.mk H
   clear H
   have p427 : 0 ≤ (x4_1 : Int) := oT (by first | (with_reducible assumption) | assumption)
   have q427 : x4_1 < (l0.length : Int) := oT (by first | (with_reducible assumption) | assumption)
   obtain ⟨ad427, A427_0, c427_0, e427, hx427_0, hl427_0, hi427_0⟩ := at_L9 HR0.out x4_1 p427 q427
   cases e427
   replace hx427_0 := (HB.out.cell (World.block_lt_of_cell? w _ hx427_0)).trans hx427_0
   have HR427_0 := AZ.mk hi427_0
   have HC427_0 := AZ.mk hl427_0
   clear hi427_0 hl427_0
   replace p427 := eq_true p427
   replace q427 := eq_true q427
   go_wp2_with (first | ((with_reducible refine gate_callee (f := 95) rfl ?_); refine Zi (some 20) rfl rfl Try.func95 (by kernel_rfl) rfl #[.slice A427_0 (rd_L9 l0 x4_1).length c427_0] rfl (by (try simp only [mA, mB, mC]); first | done | rfl | (simp only [lD, lT]; rfl)) ?_; (with_reducible refine (laws_toPushS.calls k1 _ _ (rd_L9 l0 x4_1) t428 _ ?side1 ?side2 A8.out).mono ?_); (case side1 => repeat (first | exact (Kd.C_below HR427_0.out HB.out) | (with_reducible refine Kd.C_alloc ?_ _) | (with_reducible refine Kd.C_drewN ?_ _) | (with_reducible refine Kd.C_drew ?_))); (case side2 => exact HC427_0.out); rintro e w11 ⟨v429, rfl, ho0, hb⟩; refine ⟨_, rfl, ?_⟩; have n0_ := AZ.mk (Kd.S_elder' (by (with_reducible repeat (first | apply Kd.S_alloc | apply Kd.S_drewN | apply Kd.S_drew)); exact HO_3.out) (Kd.R_base ho0) hb); have n1_ := AZ.mk (Kd.R_lower ho0 (pZ (by repeat (first | (with_reducible first | exact HB.out | apply pA | apply pN | apply pD) | exact HB.out)))); have n2_ := AZ.mk (pT (by repeat (first | (with_reducible first | exact HB.out | apply pA | apply pN | apply pD) | exact HB.out)) hb); clear HO_3; clear HB; have HO_3 := n0_; have HO430 := n1_; have HB := n2_; clear n0_ n1_ n2_; (try clear hb); (try clear hb2); (try clear hk); (try clear hi); (try clear ho0); have p10 : 0 ≤ (x4_1 : Int) := oT (by first | (with_reducible assumption) | assumption); have q10 : (x4_1 : Int) < ((x3_1.length : Int) : Int) := oT (by first | (with_reducible assumption) | assumption); obtain ⟨go10, co10, eo10, gb10, gl10, cl10, HG10⟩ := Kd.S_form HO_3.out (by omega); (first | cases eo10 | (injection eo10 with ea_ en_ ec_; (first | subst ea_ | (injection ea_ with ea_; subst ea_)); subst ec_; clear en_)); have GB10 := AZ.mk gb10; have GG10 := AZ.mk HG10; clear gb10 gl10 HG10; obtain ⟨_, ce10, hcl10, hM10, hcc10, hfr10, _, _⟩ := Kd.S_elem HO_3.out [] (x4_1 : Int) p10 q10; obtain ⟨ve10_0, rfl, ge10_0⟩ := hM10; have hx10_0 := hcc10 0 _ rfl; have hf10_0 := hfr10 0; (try simp only [show ((Kd.slice 47 k47)).sz = 1 from rfl, Nat.mul_one, Nat.add_zero] at hx10_0); (try simp only [show ((Kd.slice 47 k47)).sz = 1 from rfl, Nat.mul_one, Nat.add_zero] at hf10_0); clear hcl10 hcc10 hfr10; (try clear hM10); replace p10 := eq_true p10; replace q10 := eq_true q10; obtain ⟨Ao14, co14, eo14⟩ := Kd.R_slice HO430.out; subst eo14; have n_ := AZ.mk (Kd.S_mono (ok' := (fun k_ => some k_ ≠ (.slice Ao14 t428.length co14 : Value).ownBlock)) HO_3.out (fun k_ hk => hk.2)); clear HO_3; have HO_3 := n_; clear n_; have HX12 := AZ.mk (show Kd.S (Kd.slice 47 k47) 48 w11 w.heap.size (fun k_ => ((fun _ => True)) k_ ∧ ¬ ((fun k_ => some k_ = (.slice Ao14 t428.length co14 : Value).ownBlock)) k_) (.slice (some ⟨go10, 0, none⟩) x3_1.length co10) x3_1 from (by (with_reducible repeat (first | apply Kd.S_alloc | apply Kd.S_drewN | apply Kd.S_drew)); exact Kd.S_mono HO_3.out (fun k_ hk => ⟨trivial, fun e_ => hk e_⟩))); obtain ⟨oki12, ce12, hcl12, hM12, hcc12, hfr12, hoki12, hH12⟩ := Kd.S_elem HX12.out [] (x4_1 : Int) (oT (by first | (with_reducible assumption) | assumption)) (by have h_ : (x4_1 : Int) < ((x3_1.length : Int) : Int) := oT (by first | (with_reducible assumption) | assumption); first | exact h_ | (have e_ := (Kd.S_reads' HO_3.out).1; omega) | simpa using h_); obtain ⟨ve12_0, rfl, ge12_0⟩ := hM12; have HP12 := Kd.S_seg hH12 (oT (by first | (with_reducible assumption) | assumption)) (by have h_ : (x4_1 : Int) < ((x3_1.length : Int) : Int) := oT (by first | (with_reducible assumption) | assumption); first | exact h_ | (have e_ := (Kd.S_reads' HO_3.out).1; omega) | simpa using h_) (seg := [.slice Ao14 t428.length co14]) (j := 0) (show 1 ≤ 1 from by decide) (x' := t428) (Kd.M_row (Kd.R_mono (Kd.R_tight rfl (Kd.R_mono (ok' := fun k_ => ((fun _ => True)) k_ ∧ k_ ≠ go10) (Kd.R_apart' (HO430.out) (Kd.S_typed HO_3.out) (by decide)) (fun k_ hk => ⟨trivial, fun e_ => (hk.2) (by rw [e_]; rfl)⟩))) (fun _ h_ => Or.inr (h_)))) (fun _ hk => hk) (fun k_ hk_ => ((Kd.R_mono (ok' := fun k_ => ((fun _ => True)) k_ ∧ k_ ≠ go10) (Kd.R_apart' (HO430.out) (Kd.S_typed HO_3.out) (by decide)) (fun k_ hk => ⟨trivial, fun e_ => (hk.2) (by rw [e_]; rfl)⟩))).1 k_ hk_.symm); have hx12_0 := hcc12 0 _ rfl; (try simp only [show ((Kd.slice 47 k47)).sz = 1 from rfl, Nat.mul_one, Nat.add_zero] at hx12_0); have hf12_0 := hfr12 0; (try simp only [show ((Kd.slice 47 k47)).sz = 1 from rfl, Nat.mul_one, Nat.add_zero] at hf12_0); clear hcl12 hcc12 hfr12; (try clear hM12); clear hoki12 hH12; (try simp only [show ((Kd.slice 47 k47)).sz = 1 from rfl, Nat.mul_one, Nat.add_zero] at HP12)) | ((with_reducible refine Yk (t := 48) (p := 21) rfl ?_); refine Yg (t := 48) (p := 21) (v := ?vo_w13) (w1 := (w11.setCell ⟨go10, (x4_1 : Int).toNat, none⟩ (.slice Ao14 t428.length co14))) ?hg ?ho ?hn ?hr ?_; (case ho => rfl); (case hg => rfl); (case hn => rfl); (case hr => first | (go_simp; done) | (go_simp; rfl)); intro w13 hw; have hg : w11.grownBy w13 (some go10) := (by rw [hw]; exact HP12.2); have hp_ : Kd.S (Kd.slice 47 k47) 48 w13 w.heap.size (fun _ => True) (.slice (some ⟨go10, 0, none⟩) x3_1.length co10) y431 := (by rw [hw, Ny431.out]; exact HP12.1); clear HP12; have n0_ := AZ.mk (hp_); have n1_ := AZ.mk ((by rw [hw]; exact pS (HB.out) GB10.out : Below w.heap.size w w13)); clear HO_3; clear HB; clear HO430; have HO_3 := n0_; have HB := n1_; clear n0_ n1_; clear hg hw hp_))
   go_roundg k1
   case measure => have := HK1.out; omega
   case rel => exact ⟨(y431), (wrap64 (x4_1 + 1)), (by first | rfl | (simp; done) | (simp [*]; done)), H', ⟨by have := HK1.out; omega⟩, ⟨by (with_reducible repeat (first | apply Kd.S_alloc | apply Kd.S_drewN | apply Kd.S_drew)); exact HO_3.out⟩, ⟨by repeat (first | (with_reducible first | exact HB.out | apply pA | apply pN | apply pD) | exact HB.out)⟩⟩
attribute [local go_sem] Zn Zp Zw Zx Zj Zk Zq Zr
def laws_markPushS.l0 : Nat → List (S47) → Int → Int → Option (Int × (List (S47)))
 | 0, _, _, _ => none
 | k + 1, x0, x1, x5 => if x5 < (x0.length : Int) then (if 0 ≤ x5 then ((some (x0.set (x5 : Int).toNat (⟨x1, (Zb x0 x5).f1⟩ : S47) : List (S47))).bind fun y170 => (laws_markPushS.l0 k (y170.set (x5 : Int).toNat (⟨(Zb y170 x5).f0, wrap64 (x1 + 1)⟩ : S47)) (wrap64 ((wrap64 (x1 + 1)) + 1)) (wrap64 (x5 + 1)))) else (none)) else (some (x1, x0))
def laws_markPushS.f (k : Nat) (l0 : List (S47)) (a1 : Int) : Option (Int × (List (S47))) := laws_markPushS.l0 k l0 a1 0
theorem laws_markPushS.calls (k : Nat) (P0_ : Nat → Prop) (u9000_ : Value) (l0 : List (S47)) (a1 : Int) (r1 : Int) (r2 : List (S47)) (w0 w : World) (hB : Below w0.heap.size w0 w) (ho0 : Kd.R k47 47 w w0.heap.size P0_ u9000_ l0) (h : laws_markPushS.f k l0 a1 = some (r1, r2)) :
  Calls Try.prog 86 #[u9000_, .int .i64 a1] w fun e w' => e = .returned (.int .i64 r1) ∧ Kd.R k47 47 w' w0.heap.size (fun k_ => (P0_ k_ ∨ w.heap.size ≤ k_)) u9000_ r2 ∧ Below w0.heap.size w0 w' ∧ Kept w w' (fun k_ => P0_ k_) := by
 have HO0 := AZ.mk (show Kd.R k47 47 w w0.heap.size (fun k_ => (P0_ k_ ∨ w.heap.size ≤ k_)) u9000_ l0 from Kd.R_mono ho0 (fun k_ hk => (.inl hk)))
 have HK := AZ.mk (Kept.refl w (fun k_ => P0_ k_))
 have HW0 := AZ.mk hB.size
 have HB := AZ.mk hB
 clear hB
 have H : (laws_markPushS.l0 k l0 a1 0) = some (r1, r2) := h
 clear h
 have H' := AZ.mk H
 clear H
 go_enter Try.func86, Try.ntmps86
 go_wp2
 go_loopg [1, 5] k (fun kq v1 v5 w' => ∃ (x0_1 : List (S47)) (x1_1 : Int) (x5_1 : Int), v1 = .int .i64 x1_1 ∧ v5 = .int .i64 x5_1 ∧ AZ (laws_markPushS.l0 kq x0_1 x1_1 x5_1 = some (r1, r2)) ∧ AZ (kq ≤ k) ∧ AZ (Kd.R k47 47 w' w0.heap.size (fun k_ => (P0_ k_ ∨ w.heap.size ≤ k_)) u9000_ x0_1) ∧ AZ (Kept w w' (fun k_ => P0_ k_)) ∧ AZ (Below w0.heap.size w0 w'))
 case atStart => exact ⟨(l0), (a1), (0), (by first | rfl | (simp; done) | (simp [*]; done)), (by first | rfl | (simp; done) | (simp [*]; done)), H', ⟨Nat.le_refl _⟩, ⟨by (with_reducible repeat (first | apply Kd.R_alloc | apply Kd.R_drewN | apply Kd.R_drew)); exact HO0.out⟩, ⟨by repeat (first | (with_reducible first | exact HK.out | apply Kept.alloc | apply Kept.drewN | apply Kept.drew) | exact HK.out)⟩, ⟨by repeat (first | (with_reducible first | exact HB.out | apply pA | apply pN | apply pD) | exact HB.out)⟩⟩
 case round =>
  clear H'
  try clear p2
  obtain ⟨x0_1, x1_1, x5_1, rfl, rfl, HA, HK1, HO_0, HK, HB⟩ := hrel
  cases gk with
  | zero => exact absurd HA.out (by simp [laws_markPushS.l0])
  | succ k1 =>
   have H := HA.out
   clear HA
   simp only [laws_markPushS.l0] at H
   by_cases c3 : x5_1 < (x0_1.length : Int)
   rotate_left
   ·rw [if_neg c3] at H
    have c3b0 : decide (x5_1 < (x0_1.length : Int)) = false := dF c3
    clear c3
    simp only [Option.some.injEq, Prod.mk.injEq] at H
    obtain ⟨rfl, rfl⟩ := H
    obtain ⟨Ao12, co12, eo12⟩ := Kd.R_slice HO_0.out
    subst eo12
    go_wp2
    go_ret
    exact ⟨by first | rfl | (simp [Ze, Zf] <;> rfl) | (simp [*, Ze, Zf] <;> rfl), by (with_reducible repeat (first | apply Kd.R_alloc | apply Kd.R_drewN | apply Kd.R_drew)); exact HO_0.out, by repeat (first | (with_reducible first | exact HB.out | apply pA | apply pN | apply pD) | exact HB.out), by repeat (first | (with_reducible first | exact HK.out | apply Kept.alloc | apply Kept.drewN | apply Kept.drew) | exact HK.out)⟩
   rw [if_pos c3] at H
   have c3b0 : decide (x5_1 < (x0_1.length : Int)) = true := dT c3
   clear c3
   by_cases c4 : 0 ≤ x5_1
   rotate_left
   ·rw [if_neg c4] at H
    exact absurd H (by simp)
   rw [if_pos c4] at H
   have c4b0 : decide (0 ≤ x5_1) = true := dT c4
   clear c4
   obtain ⟨y170, hy170⟩ : ∃ y_ : List (S47), y_ = (x0_1.set (x5_1 : Int).toNat (⟨x1_1, (Zb x0_1 x5_1).f1⟩ : S47)) := ⟨_, rfl⟩
   replace H : (laws_markPushS.l0 k1 (y170.set (x5_1 : Int).toNat (⟨(Zb y170 x5_1).f0, wrap64 (x1_1 + 1)⟩ : S47)) (wrap64 ((wrap64 (x1_1 + 1)) + 1)) (wrap64 (x5_1 + 1))) = some (r1, r2) := by first | (rw [hy170]; with_reducible exact H) | (have H2_ := (Option.bind_some _ _).symm.trans H; rw [hy170]; with_reducible exact H2_) | (have H2_ := (Option.bind_some _ _).symm.trans H; with_reducible exact H2_) | with_reducible exact H | (rw [hy170]; exact H) | exact H
   have Ny170 := AZ.mk hy170
   clear hy170
   obtain ⟨y171, hy171⟩ : ∃ y_ : List (S47), y_ = (y170.set (x5_1 : Int).toNat (⟨(Zb y170 x5_1).f0, wrap64 (x1_1 + 1)⟩ : S47)) := ⟨_, rfl⟩
   replace H : (laws_markPushS.l0 k1 y171 (wrap64 ((wrap64 (x1_1 + 1)) + 1)) (wrap64 (x5_1 + 1))) = some (r1, r2) := by first | (rw [hy171]; with_reducible exact H) | (have H2_ := (Option.bind_some _ _).symm.trans H; rw [hy171]; with_reducible exact H2_) | (have H2_ := (Option.bind_some _ _).symm.trans H; with_reducible exact H2_) | with_reducible exact H | (rw [hy171]; exact H) | exact H
   have Ny171 := AZ.mk hy171
   clear hy171
   have H' := AZ.mk H
   clear H
   obtain ⟨Ao7, co7, eo7⟩ := Kd.R_slice HO_0.out
   subst eo7
   have p5 : 0 ≤ (x5_1 : Int) := oT (by first | (with_reducible assumption) | assumption)
   have q5 : (x5_1 : Int) < ((x0_1.length : Int) : Int) := oT (by first | (with_reducible assumption) | assumption)
   obtain ⟨go5, co5, eo5, gb5, gl5, cl5, HG5⟩ := Kd.R_form HO_0.out (by omega)
   (first | cases eo5 | (injection eo5 with ea_ en_ ec_; (first | subst ea_ | (injection ea_ with ea_; subst ea_)); subst ec_; clear en_))
   have GB5 := AZ.mk gb5
   have GG5 := AZ.mk HG5
   clear gb5 gl5 HG5
   have HMgo5 := AZ.mk (show (P0_ go5 ∨ w.heap.size ≤ go5) from (HO_0.out.1 _ rfl))
   obtain ⟨ce5, hcl5, hM5, hcc5, hfr5⟩ := Kd.R_elem HO_0.out z47 (x5_1 : Int) p5 q5
   obtain rfl := k47_openM hM5
   have hx5_0 : wr.cell? ⟨go5, (x5_1 : Int).toNat * 2, none⟩ = some (.int .i64 ((Zb x0_1 x5_1).f0)) := hcc5 0 _ rfl
   have hx5_1 : wr.cell? ⟨go5, (x5_1 : Int).toNat * 2 + 1, none⟩ = some (.int .i64 ((Zb x0_1 x5_1).f1)) := hcc5 1 _ rfl
   have hf5_0 : wr.frozen? ⟨go5, (x5_1 : Int).toNat * 2, none⟩ = false := hfr5 0
   have hf5_1 : wr.frozen? ⟨go5, (x5_1 : Int).toNat * 2 + 1, none⟩ = false := hfr5 1
   clear hcl5 hcc5 hfr5; (try clear hM5)
   replace p5 := eq_true p5
   replace q5 := eq_true q5
   have HX8 := AZ.mk (show Kd.R k47 47 wr w0.heap.size (fun k_ => (P0_ k_ ∨ w.heap.size ≤ k_)) (.slice (some ⟨go5, 0, none⟩) x0_1.length co7) x0_1 from (by (with_reducible repeat (first | apply Kd.R_alloc | apply Kd.R_drewN | apply Kd.R_drew)); exact HO_0.out))
   obtain ⟨ce8, hcl8, hM8, hcc8, hfr8⟩ := Kd.R_elem HX8.out z47 (x5_1 : Int) (oT (by first | (with_reducible assumption) | assumption)) (by have h_ : (x5_1 : Int) < ((x0_1.length : Int) : Int) := oT (by first | (with_reducible assumption) | assumption); first | exact h_ | (have e_ := (Kd.R_reads' HO_0.out).1; omega) | simpa using h_)
   obtain rfl := k47_openM hM8
   have HP8 := Kd.R_seg HX8.out (x5_1 : Int) (oT (by first | (with_reducible assumption) | assumption)) (by have h_ : (x5_1 : Int) < ((x0_1.length : Int) : Int) := oT (by first | (with_reducible assumption) | assumption); first | exact h_ | (have e_ := (Kd.R_reads' HO_0.out).1; omega) | simpa using h_) (seg := [.int .i64 x1_1]) (j := 0) hcl8 hcc8 (show 1 ≤ 2 from by decide) (x' := (⟨x1_1, (Zb x0_1 x5_1).f1⟩ : S47)) (k47_mkM _ _ _ (⟨x1_1, (Zb x0_1 x5_1).f1⟩ : S47) ) (fun _ hk => hk)
   have hx8_0 := hcc8 0 _ rfl
   (try simp only [show (k47).sz = 2 from rfl, Nat.mul_one, Nat.add_zero] at hx8_0)
   have hf8_0 := hfr8 0
   (try simp only [show (k47).sz = 2 from rfl, Nat.mul_one, Nat.add_zero] at hf8_0)
   clear hcl8 hcc8 hfr8; (try clear hM8)
   go_wp2_with (first | ((with_reducible refine Yk (t := 2) (p := 16) rfl ?_); refine Yg (t := 2) (p := 16) (v := ?vo_w9) (w1 := (wr.setCell ⟨go5, (x5_1 : Int).toNat * 2, none⟩ (.int .i64 x1_1))) ?hg ?ho ?hn ?hr ?_; (case ho => rfl); (case hg => rfl); (case hn => rfl); (case hr => first | (go_simp; done) | (go_simp; rfl)); intro w9 hw; have hg : wr.grownBy w9 (some go5) := (by rw [hw]; exact HP8.2); have hp_ : Kd.R k47 47 w9 w0.heap.size (fun k_ => (P0_ k_ ∨ w.heap.size ≤ k_)) (.slice (some ⟨go5, 0, none⟩) x0_1.length co7) y170 := (by rw [hw, Ny170.out]; exact HP8.1); clear HP8; have n0_ := AZ.mk (hp_); have n1_ := AZ.mk ((by rw [hw]; exact pS (HB.out) GB5.out : Below w0.heap.size w0 w9)); have n2_ := AZ.mk (Kept.of_grown (S := (fun k_ => P0_ k_)) hg (by repeat (first | (with_reducible first | exact HK.out | apply Kept.alloc | apply Kept.drewN | apply Kept.drew) | exact HK.out)) (fun k_ e_ => (HO_0.out.1 k_ e_))); clear HO_0; clear HB; clear HK; have HO_0 := n0_; have HB := n1_; have HK := n2_; clear n0_ n1_ n2_; clear hg hw hp_; have p6 : 0 ≤ (x5_1 : Int) := oT (by first | (with_reducible assumption) | assumption); have q6 : (x5_1 : Int) < ((x0_1.length : Int) : Int) := oT (by first | (with_reducible assumption) | assumption); obtain ⟨ce6, hcl6, hM6, hcc6, hfr6⟩ := Kd.R_elem HO_0.out z47 (x5_1 : Int) p6 q6; obtain rfl := k47_openM hM6; have hx6_0 : w9.cell? ⟨go5, (x5_1 : Int).toNat * 2, none⟩ = some (.int .i64 ((Zb y170 x5_1).f0)) := hcc6 0 _ rfl; have hx6_1 : w9.cell? ⟨go5, (x5_1 : Int).toNat * 2 + 1, none⟩ = some (.int .i64 ((Zb y170 x5_1).f1)) := hcc6 1 _ rfl; have hf6_0 : w9.frozen? ⟨go5, (x5_1 : Int).toNat * 2, none⟩ = false := hfr6 0; have hf6_1 : w9.frozen? ⟨go5, (x5_1 : Int).toNat * 2 + 1, none⟩ = false := hfr6 1; clear hcl6 hcc6 hfr6; (try clear hM6); replace p6 := eq_true p6; replace q6 := eq_true q6; have HX10 := AZ.mk (show Kd.R k47 47 w9 w0.heap.size (fun k_ => (P0_ k_ ∨ w.heap.size ≤ k_)) (.slice (some ⟨go5, 0, none⟩) x0_1.length co7) y170 from (by (with_reducible repeat (first | apply Kd.R_alloc | apply Kd.R_drewN | apply Kd.R_drew)); exact HO_0.out)); obtain ⟨ce10, hcl10, hM10, hcc10, hfr10⟩ := Kd.R_elem HX10.out z47 (x5_1 : Int) (oT (by first | (with_reducible assumption) | assumption)) (by have h_ : (x5_1 : Int) < ((x0_1.length : Int) : Int) := oT (by first | (with_reducible assumption) | assumption); first | exact h_ | (have e_ := (Kd.R_reads' HO_0.out).1; omega) | simpa using h_); obtain rfl := k47_openM hM10; have HP10 := Kd.R_seg HX10.out (x5_1 : Int) (oT (by first | (with_reducible assumption) | assumption)) (by have h_ : (x5_1 : Int) < ((x0_1.length : Int) : Int) := oT (by first | (with_reducible assumption) | assumption); first | exact h_ | (have e_ := (Kd.R_reads' HO_0.out).1; omega) | simpa using h_) (seg := [.int .i64 (wrap64 (x1_1 + 1))]) (j := 1) hcl10 hcc10 (show 2 ≤ 2 from by decide) (x' := (⟨(Zb y170 x5_1).f0, wrap64 (x1_1 + 1)⟩ : S47)) (k47_mkM _ _ _ (⟨(Zb y170 x5_1).f0, wrap64 (x1_1 + 1)⟩ : S47) ) (fun _ hk => hk); have hx10_1 := hcc10 1 _ rfl; (try simp only [show (k47).sz = 2 from rfl, Nat.mul_one, Nat.add_zero] at hx10_1); have hf10_1 := hfr10 1; (try simp only [show (k47).sz = 2 from rfl, Nat.mul_one, Nat.add_zero] at hf10_1); clear hcl10 hcc10 hfr10; (try clear hM10)) | ((with_reducible refine Yk (t := 2) (p := 23) rfl ?_); refine Yg (t := 2) (p := 23) (v := ?vo_w11) (w1 := (w9.setCell ⟨go5, (x5_1 : Int).toNat * 2 + 1, none⟩ (.int .i64 (wrap64 (x1_1 + 1))))) ?hg ?ho ?hn ?hr ?_; (case ho => rfl); (case hg => rfl); (case hn => rfl); (case hr => first | (go_simp; done) | (go_simp; rfl)); intro w11 hw; have hg : w9.grownBy w11 (some go5) := (by rw [hw]; exact HP10.2); have hp_ : Kd.R k47 47 w11 w0.heap.size (fun k_ => (P0_ k_ ∨ w.heap.size ≤ k_)) (.slice (some ⟨go5, 0, none⟩) x0_1.length co7) y171 := (by rw [hw, Ny171.out]; exact HP10.1); clear HP10; have n0_ := AZ.mk (hp_); have n1_ := AZ.mk ((by rw [hw]; exact pS (HB.out) GB5.out : Below w0.heap.size w0 w11)); have n2_ := AZ.mk (Kept.of_grown (S := (fun k_ => P0_ k_)) hg (by repeat (first | (with_reducible first | exact HK.out | apply Kept.alloc | apply Kept.drewN | apply Kept.drew) | exact HK.out)) (fun k_ e_ => (HO_0.out.1 k_ e_))); clear HO_0; clear HB; clear HK; have HO_0 := n0_; have HB := n1_; have HK := n2_; clear n0_ n1_ n2_; clear hg hw hp_))
   go_roundg k1
   case measure => have := HK1.out; omega
   case rel => exact ⟨(y171), (wrap64 ((wrap64 (x1_1 + 1)) + 1)), (wrap64 (x5_1 + 1)), (by first | rfl | (simp; done) | (simp [*]; done)), (by first | rfl | (simp; done) | (simp [*]; done)), H', ⟨by have := HK1.out; omega⟩, ⟨by (with_reducible repeat (first | apply Kd.R_alloc | apply Kd.R_drewN | apply Kd.R_drew)); exact HO_0.out⟩, ⟨by repeat (first | (with_reducible first | exact HK.out | apply Kept.alloc | apply Kept.drewN | apply Kept.drew) | exact HK.out)⟩, ⟨by repeat (first | (with_reducible first | exact HB.out | apply pA | apply pN | apply pD) | exact HB.out)⟩⟩
attribute [local go_sem] Zn Zp Zw Zx Zj Zk Zq Zr
def laws_markInt64S.l0 : Nat → List Int → Int → Int → Option (Int × List Int)
 | 0, _, _, _ => none
 | k + 1, x0, x1, x5 => if x5 < (x0.length : Int) then (if 0 ≤ x5 then (laws_markInt64S.l0 k (x0.set (x5 : Int).toNat x1) (wrap64 (x1 + 1)) (wrap64 (x5 + 1))) else (none)) else (some (x1, x0))
def laws_markInt64S.f (k : Nat) (l0 : List Int) (a1 : Int) : Option (Int × List Int) := laws_markInt64S.l0 k l0 a1 0
theorem laws_markInt64S.calls (k : Nat) (P0_ : Nat → Prop) (u9000_ : Value) (l0 : List Int) (a1 : Int) (r1 : Int) (r2 : List Int) (w0 w : World) (hB : Below w0.heap.size w0 w) (ho0 : Kd.R (Kd.int .i64) 2 w w0.heap.size P0_ u9000_ l0) (h : laws_markInt64S.f k l0 a1 = some (r1, r2)) :
  Calls Try.prog 87 #[u9000_, .int .i64 a1] w fun e w' => e = .returned (.int .i64 r1) ∧ Kd.R (Kd.int .i64) 2 w' w0.heap.size (fun k_ => (P0_ k_ ∨ w.heap.size ≤ k_)) u9000_ r2 ∧ Below w0.heap.size w0 w' ∧ Kept w w' (fun k_ => P0_ k_) := by
 have HO0 := AZ.mk (show Kd.R (Kd.int .i64) 2 w w0.heap.size (fun k_ => (P0_ k_ ∨ w.heap.size ≤ k_)) u9000_ l0 from Kd.R_mono ho0 (fun k_ hk => (.inl hk)))
 have HK := AZ.mk (Kept.refl w (fun k_ => P0_ k_))
 have HW0 := AZ.mk hB.size
 have HB := AZ.mk hB
 clear hB
 have H : (laws_markInt64S.l0 k l0 a1 0) = some (r1, r2) := h
 clear h
 have H' := AZ.mk H
 clear H
 go_enter Try.func87, Try.ntmps87
 go_wp2
 go_loopg [1, 5] k (fun kq v1 v5 w' => ∃ (x0_1 : List Int) (x1_1 : Int) (x5_1 : Int), v1 = .int .i64 x1_1 ∧ v5 = .int .i64 x5_1 ∧ AZ (laws_markInt64S.l0 kq x0_1 x1_1 x5_1 = some (r1, r2)) ∧ AZ (kq ≤ k) ∧ AZ (Kd.R (Kd.int .i64) 2 w' w0.heap.size (fun k_ => (P0_ k_ ∨ w.heap.size ≤ k_)) u9000_ x0_1) ∧ AZ (Kept w w' (fun k_ => P0_ k_)) ∧ AZ (Below w0.heap.size w0 w'))
 case atStart => exact ⟨(l0), (a1), (0), (by first | rfl | (simp; done) | (simp [*]; done)), (by first | rfl | (simp; done) | (simp [*]; done)), H', ⟨Nat.le_refl _⟩, ⟨by (with_reducible repeat (first | apply Kd.R_alloc | apply Kd.R_drewN | apply Kd.R_drew)); exact HO0.out⟩, ⟨by repeat (first | (with_reducible first | exact HK.out | apply Kept.alloc | apply Kept.drewN | apply Kept.drew) | exact HK.out)⟩, ⟨by repeat (first | (with_reducible first | exact HB.out | apply pA | apply pN | apply pD) | exact HB.out)⟩⟩
 case round =>
  clear H'
  try clear p2
  obtain ⟨x0_1, x1_1, x5_1, rfl, rfl, HA, HK1, HO_0, HK, HB⟩ := hrel
  cases gk with
  | zero => exact absurd HA.out (by simp [laws_markInt64S.l0])
  | succ k1 =>
   have H := HA.out
   clear HA
   simp only [laws_markInt64S.l0] at H
   by_cases c3 : x5_1 < (x0_1.length : Int)
   rotate_left
   ·rw [if_neg c3] at H
    have c3b0 : decide (x5_1 < (x0_1.length : Int)) = false := dF c3
    clear c3
    simp only [Option.some.injEq, Prod.mk.injEq] at H
    obtain ⟨rfl, rfl⟩ := H
    obtain ⟨Ao9, co9, eo9⟩ := Kd.R_slice HO_0.out
    subst eo9
    go_wp2
    go_ret
    exact ⟨by first | rfl | (simp [Ze, Zf] <;> rfl) | (simp [*, Ze, Zf] <;> rfl), by (with_reducible repeat (first | apply Kd.R_alloc | apply Kd.R_drewN | apply Kd.R_drew)); exact HO_0.out, by repeat (first | (with_reducible first | exact HB.out | apply pA | apply pN | apply pD) | exact HB.out), by repeat (first | (with_reducible first | exact HK.out | apply Kept.alloc | apply Kept.drewN | apply Kept.drew) | exact HK.out)⟩
   rw [if_pos c3] at H
   have c3b0 : decide (x5_1 < (x0_1.length : Int)) = true := dT c3
   clear c3
   by_cases c4 : 0 ≤ x5_1
   rotate_left
   ·rw [if_neg c4] at H
    exact absurd H (by simp)
   rw [if_pos c4] at H
   have c4b0 : decide (0 ≤ x5_1) = true := dT c4
   clear c4
   obtain ⟨y173, hy173⟩ : ∃ y_ : List Int, y_ = (x0_1.set (x5_1 : Int).toNat x1_1) := ⟨_, rfl⟩
   replace H : (laws_markInt64S.l0 k1 y173 (wrap64 (x1_1 + 1)) (wrap64 (x5_1 + 1))) = some (r1, r2) := by first | (rw [hy173]; with_reducible exact H) | (have H2_ := (Option.bind_some _ _).symm.trans H; rw [hy173]; with_reducible exact H2_) | (have H2_ := (Option.bind_some _ _).symm.trans H; with_reducible exact H2_) | with_reducible exact H | (rw [hy173]; exact H) | exact H
   have Ny173 := AZ.mk hy173
   clear hy173
   have H' := AZ.mk H
   clear H
   obtain ⟨Ao6, co6, eo6⟩ := Kd.R_slice HO_0.out
   subst eo6
   have p5 : 0 ≤ (x5_1 : Int) := oT (by first | (with_reducible assumption) | assumption)
   have q5 : (x5_1 : Int) < ((x0_1.length : Int) : Int) := oT (by first | (with_reducible assumption) | assumption)
   obtain ⟨go5, co5, eo5, gb5, gl5, cl5, HG5⟩ := Kd.R_form HO_0.out (by omega)
   (first | cases eo5 | (injection eo5 with ea_ en_ ec_; (first | subst ea_ | (injection ea_ with ea_; subst ea_)); subst ec_; clear en_))
   have GB5 := AZ.mk gb5
   have GG5 := AZ.mk HG5
   clear gb5 gl5 HG5
   have HMgo5 := AZ.mk (show (P0_ go5 ∨ w.heap.size ≤ go5) from (HO_0.out.1 _ rfl))
   obtain ⟨hx5_0, hf5_0⟩ := Kd.R_celln 0 HO_0.out (x5_1 : Int) p5 q5
   replace p5 := eq_true p5
   replace q5 := eq_true q5
   have HP7 := Kd.R_putg HO_0.out (x5_1 : Int) x1_1
   go_wp2_with (first | ((with_reducible refine Yk (t := 2) (p := 15) rfl ?_); refine Yg (t := 2) (p := 15) (v := ?vo_w8) (w1 := (wr.setCell ⟨go5, (x5_1 : Int).toNat, none⟩ (.int .i64 x1_1))) ?hg ?ho ?hn ?hr ?_; (case ho => rfl); (case hg => rfl); (case hn => rfl); (case hr => first | (go_simp; done) | (go_simp; rfl)); intro w8 hw; have hg : wr.grownBy w8 (some go5) := (by rw [hw]; exact HP7.2); have hp_ : Kd.R (Kd.int .i64) 2 w8 w0.heap.size (fun k_ => (P0_ k_ ∨ w.heap.size ≤ k_)) (.slice (some ⟨go5, 0, none⟩) x0_1.length co6) y173 := (by rw [hw, Ny173.out]; exact HP7.1); clear HP7; have n0_ := AZ.mk (hp_); have n1_ := AZ.mk ((by rw [hw]; exact pS (HB.out) GB5.out : Below w0.heap.size w0 w8)); have n2_ := AZ.mk (Kept.of_grown (S := (fun k_ => P0_ k_)) hg (by repeat (first | (with_reducible first | exact HK.out | apply Kept.alloc | apply Kept.drewN | apply Kept.drew) | exact HK.out)) (fun k_ e_ => (HO_0.out.1 k_ e_))); clear HO_0; clear HB; clear HK; have HO_0 := n0_; have HB := n1_; have HK := n2_; clear n0_ n1_ n2_; clear hg hw hp_))
   go_roundg k1
   case measure => have := HK1.out; omega
   case rel => exact ⟨(y173), (wrap64 (x1_1 + 1)), (wrap64 (x5_1 + 1)), (by first | rfl | (simp; done) | (simp [*]; done)), (by first | rfl | (simp; done) | (simp [*]; done)), H', ⟨by have := HK1.out; omega⟩, ⟨by (with_reducible repeat (first | apply Kd.R_alloc | apply Kd.R_drewN | apply Kd.R_drew)); exact HO_0.out⟩, ⟨by repeat (first | (with_reducible first | exact HK.out | apply Kept.alloc | apply Kept.drewN | apply Kept.drew) | exact HK.out)⟩, ⟨by repeat (first | (with_reducible first | exact HB.out | apply pA | apply pN | apply pD) | exact HB.out)⟩⟩
end Go.Proofs.Ytepkfigcnnfoaaa.P
namespace Go.Proofs.Ytepkfigcnnfoaaa.P
open Go.RowKit Go.Proofs.YtepkfigcnnfoaaaW.PrintWords Go.Proofs.YtepkfigcnnfoaaaW.PrintLast Go.Proofs.YtepkfigcnnfoaaaW.PrintMore Go.Proofs.Ytepkfigcnnfoaaa.Deep
def mks {α : Type} (sz : α → Nat) (mk : α → Int → α) : List α → Int → List α
 | [], _ => []
 | x :: xs, a => mk x a :: mks sz mk xs (a + (sz x : Int))
def tot {α : Type} (sz : α → Nat) : List α → Nat
 | [] => 0
 | x :: xs => sz x + tot sz xs
section
variable {α : Type} (sz : α → Nat) (mk : α → Int → α)
theorem mks_length : ∀ (xs : List α) (a : Int), (mks sz mk xs a).length = xs.length
 | [], _ => rfl
 | x :: xs, a => by simp [mks, mks_length xs]
theorem tot_append : ∀ (xs ys : List α), tot sz (xs ++ ys) = tot sz xs + tot sz ys
 | [], ys => by simp [tot]
 | x :: xs, ys => by simp only [List.cons_append, tot, tot_append xs]; omega
theorem mks_append : ∀ (xs ys : List α) (a : Int), mks sz mk (xs ++ ys) a = mks sz mk xs a ++ mks sz mk ys (a + (tot sz xs : Int))
 | [], ys, a => by simp [mks, tot]
 | x :: xs, ys, a => by simp [mks, mks_append xs, tot, Int.add_assoc]
def part (xs : List α) (a : Int) (i : Nat) : List α := mks sz mk (xs.take i) a ++ xs.drop i
theorem part_length (xs : List α) (a : Int) (i : Nat) : (part sz mk xs a i).length = xs.length := by simp [part, mks_length]; omega
theorem part_zero (xs : List α) (a : Int) : part sz mk xs a 0 = xs := by simp [part, mks]
theorem part_all (xs : List α) (a : Int) : part sz mk xs a xs.length = mks sz mk xs a := by simp [part]
theorem part_at (xs : List α) (a : Int) (i : Nat) (h : i < xs.length) (z : α) : (part sz mk xs a i).getD i z = xs[i] := by
 have h1 : (mks sz mk (xs.take i) a).length = i := by rw [mks_length, lT]; omega
 unfold part
 rw [List.getD_eq_getElem?_getD, List.getElem?_append_right (by omega), h1, Nat.sub_self, List.getElem?_drop, Nat.add_zero, List.getElem?_eq_getElem h]
 rfl
theorem part_succ (xs : List α) (a : Int) (i : Nat) (h : i < xs.length) : (part sz mk xs a i).set i (mk xs[i] (a + (tot sz (xs.take i) : Int))) = part sz mk xs a (i + 1) := by
 have h1 : (mks sz mk (xs.take i) a).length = i := by rw [mks_length, lT]; omega
 unfold part
 rw [List.set_append_right _ _ (by omega), h1, Nat.sub_self, List.drop_eq_getElem_cons h, sB, List.take_succ_eq_append_getElem h, mks_append]
 simp [mks]
theorem tot_succ (xs : List α) (i : Nat) (h : i < xs.length) : tot sz (xs.take (i + 1)) = tot sz (xs.take i) + sz xs[i] := by
 rw [List.take_succ_eq_append_getElem h, tot_append]; simp [tot]
theorem tot_take_le (xs : List α) (i : Nat) : tot sz (xs.take i) ≤ tot sz xs := by
 have := tot_append sz (xs.take i) (xs.drop i)
 rw [List.take_append_drop] at this
 omega
end
theorem bw' (x : Int) (h0 : -9223372036854775808 ≤ x) (h1 : x ≤ 9223372036854775807) : wrap64 x = x := by unfold wrap64; omega
section
variable (sz : List S47 → Nat) (mk : List S47 → Int → List S47)
theorem markPushSS_walk (P : List S47 → Int → Prop) (w0 : World)
  (EL : ∀ (W : World) (u : Value) (x : List S47) (a : Int) (oki : Nat → Prop), P x a → Below w0.heap.size w0 W → k47.R 47 W w0.heap.size oki u x → Calls Try.prog 86 #[u, .int .i64 a] W fun e W' => e = .returned (.int .i64 (a + (sz x : Int))) ∧ k47.R 47 W' w0.heap.size oki u (mk x a) ∧ Below w0.heap.size w0 W' ∧ Kept W W' oki)
  (v : Value) (xs : List (List S47)) (a : Int) (ok : Nat → Prop) (w : World) (hP : ∀ i (h : i < xs.length), P xs[i] (a + (tot sz (xs.take i) : Int))) (hlen : xs.length ≤ 1048576)
  (hB : Below w0.heap.size w0 w) (hS : Kd.S (Kd.slice 47 k47) 48 w w0.heap.size ok v xs) :
  Calls Try.prog 39 #[v, .int .i64 a] w fun e w' => e = .returned (.int .i64 (a + (tot sz xs : Int))) ∧ Kd.S (Kd.slice 47 k47) 48 w' w0.heap.size ok v (mks sz mk xs a) ∧ Below w0.heap.size w0 w' ∧ Kept w w' ok := by
 obtain ⟨A, c, rfl⟩ := Kd.S_slice hS
 obtain ⟨n, hn⟩ : ∃ n : Nat, n = xs.length := ⟨_, rfl⟩
 rw [← hn] at hS ⊢
 have HN := AZ.mk hn
 have HLE := AZ.mk hlen
 have HP := AZ.mk hP
 have HE := AZ.mk EL
 have HO := AZ.mk (show Kd.S (Kd.slice 47 k47) 48 w w0.heap.size ok (.slice A n c) (part sz mk xs a 0) by rw [part_zero]; exact hS)
 have HB := AZ.mk hB
 have HK := AZ.mk (Kept.refl w ok)
 clear hB hS hP hlen EL hn
 go_enter Try.func39, Try.ntmps39
 go_wp2
 go_loopg [1, 5] (n + 1) (fun kq v1 v5 w' => ∃ i : Nat, v1 = .int .i64 (a + (tot sz (xs.take i) : Int)) ∧ v5 = .int .i64 (i : Int) ∧ AZ (kq + i = n + 1) ∧ AZ (i ≤ n) ∧ AZ (Kd.S (Kd.slice 47 k47) 48 w' w0.heap.size ok (.slice A n c) (part sz mk xs a i)) ∧ AZ (Below w0.heap.size w0 w') ∧ AZ (Kept w w' ok))
 case atStart => exact ⟨0, by simp [tot], rfl, ⟨rfl⟩, ⟨Nat.zero_le _⟩, HO, HB, HK⟩
 case round =>
  clear HO HB HK
  obtain ⟨i, rfl, rfl, HQ, HI, HO, HB, HK⟩ := hrel
  by_cases hlt : i < n
  ·have HL := AZ.mk hlt
   have c1 : decide ((i : Int) < (n : Int)) = true := dT (by omega)
   have c2 : decide (i < n) = true := dT hlt
   have hix : i < xs.length := by rw [← HN.out]; exact hlt
   have HX := AZ.mk hix
   clear hlt
   obtain ⟨gk0, rfl⟩ : ∃ q, gk = q + 1 := ⟨gk - 1, by have := HQ.out; have := HL.out; omega⟩
   obtain ⟨g, cap, hv, _, _, _⟩ := Kd.S_form HO.out (by rw [part_length]; omega)
   injection hv with hv1 hv2 hv3
   subst hv1
   subst hv3
   clear hv2
   obtain ⟨oki, cs, _, hM, hcc, hfr, hoki, hH⟩ := Kd.S_elem HO.out (([] : List S47)) (i : Int) (by omega) (by have := HL.out; omega)
   rw [show ((i : Int)).toNat = i from by simp, part_at sz mk xs a i hix] at hM
   have F1 := part_succ sz mk xs a i hix
   have F2 := tot_succ sz xs i hix
   have F3 := HP.out i hix
   generalize xs[i] = x at hM F1 F2 F3
   have G1 := AZ.mk F1
   have G2 := AZ.mk F2
   have G3 := AZ.mk F3
   clear F1 F2 F3
   obtain ⟨u, rfl, hR⟩ := hM
   have hsh := Kd.R_slice hR
   obtain ⟨Au, cu, rfl⟩ := hsh
   have hx0 : wr.cell? ⟨g, i, none⟩ = some (.slice Au x.length cu) := by have h := hcc 0 _ rfl; rw [show ((i : Int)).toNat * ((Kd.slice 47 k47)).sz + 0 = i from by show ((i : Int)).toNat * 1 + 0 = i; simp] at h; exact h
   have HR := AZ.mk hR
   have HOK := AZ.mk hoki
   have HH := AZ.mk hH
   clear hR hoki hH hcc hfr HO hix
   have p1 : (0 ≤ (i : Int)) = True := eq_true (by omega)
   have p2 : ((i : Int) < (n : Int)) = True := eq_true (by have := HL.out; omega)
   go_wp2_with (first | ((with_reducible refine gate_callee (f := 86) rfl ?_); refine Zi (some 17) rfl rfl Try.func86 (by kernel_rfl) rfl #[.slice Au x.length cu, .int .i64 (a + (tot sz (xs.take i) : Int))] rfl (by (try simp only [mA, mB, mC]); first | done | rfl) ?_; refine (HE.out _ _ _ _ _ G3.out HB.out HR.out).mono ?_; rintro e w' ⟨rfl, hR2, hB2, hK2⟩; refine ⟨_, rfl, ?_⟩))
   go_roundg gk0
   case measure => have := HQ.out; omega
   case rel =>
    have h9 := Kd.H_back (Kd.H_kept HH.out hK2 (fun k _ hn => hn)) (okp := oki) ⟨_, rfl, hR2⟩ (fun k hk => hk)
    rw [show ((i : Int)).toNat = i from by simp, G1.out] at h9
    exact ⟨i + 1, by rw [G2.out]; simp only [Value.int.injEq, true_and]; omega, by simp only [Value.int.injEq, true_and]; rw [bw' _ (by omega) (by have := HL.out; have := HN.out; have := HLE.out; omega)]; omega, ⟨by have := HQ.out; omega⟩, ⟨by have := HL.out; omega⟩, ⟨h9⟩, ⟨hB2⟩, ⟨Kept.then_ HK.out hK2 (fun k hk => .inl (HOK.out k hk).1)⟩⟩
  ·have hix : i = xs.length := by have := HI.out; have := HN.out; omega
   have c1 : decide ((i : Int) < (n : Int)) = false := dF (by omega)
   have c2 : decide (i < n) = false := dF hlt
   have HIX := AZ.mk hix
   clear hlt hix
   go_wp2
   go_ret
   have hix := HIX.out
   refine ⟨?_, ?_, HB.out, HK.out⟩
   ·show Ending.returned (.int .i64 (a + (tot sz (xs.take i) : Int))) = _
    rw [hix, List.take_length]
   ·have := HO.out
    rw [hix, part_all] at this
    exact this
end
section
variable (sz : List Int → Nat) (mk : List Int → Int → List Int)
theorem markInt64SS_walk (P : List Int → Int → Prop) (w0 : World)
  (EL : ∀ (W : World) (u : Value) (x : List Int) (a : Int) (oki : Nat → Prop), P x a → Below w0.heap.size w0 W → (Kd.int .i64).R 2 W w0.heap.size oki u x → Calls Try.prog 87 #[u, .int .i64 a] W fun e W' => e = .returned (.int .i64 (a + (sz x : Int))) ∧ (Kd.int .i64).R 2 W' w0.heap.size oki u (mk x a) ∧ Below w0.heap.size w0 W' ∧ Kept W W' oki)
  (v : Value) (xs : List (List Int)) (a : Int) (ok : Nat → Prop) (w : World) (hP : ∀ i (h : i < xs.length), P xs[i] (a + (tot sz (xs.take i) : Int))) (hlen : xs.length ≤ 1048576)
  (hB : Below w0.heap.size w0 w) (hS : Kd.S (Kd.slice 2 (Kd.int .i64)) 49 w w0.heap.size ok v xs) :
  Calls Try.prog 41 #[v, .int .i64 a] w fun e w' => e = .returned (.int .i64 (a + (tot sz xs : Int))) ∧ Kd.S (Kd.slice 2 (Kd.int .i64)) 49 w' w0.heap.size ok v (mks sz mk xs a) ∧ Below w0.heap.size w0 w' ∧ Kept w w' ok := by
 obtain ⟨A, c, rfl⟩ := Kd.S_slice hS
 obtain ⟨n, hn⟩ : ∃ n : Nat, n = xs.length := ⟨_, rfl⟩
 rw [← hn] at hS ⊢
 have HN := AZ.mk hn
 have HLE := AZ.mk hlen
 have HP := AZ.mk hP
 have HE := AZ.mk EL
 have HO := AZ.mk (show Kd.S (Kd.slice 2 (Kd.int .i64)) 49 w w0.heap.size ok (.slice A n c) (part sz mk xs a 0) by rw [part_zero]; exact hS)
 have HB := AZ.mk hB
 have HK := AZ.mk (Kept.refl w ok)
 clear hB hS hP hlen EL hn
 go_enter Try.func41, Try.ntmps41
 go_wp2
 go_loopg [1, 5] (n + 1) (fun kq v1 v5 w' => ∃ i : Nat, v1 = .int .i64 (a + (tot sz (xs.take i) : Int)) ∧ v5 = .int .i64 (i : Int) ∧ AZ (kq + i = n + 1) ∧ AZ (i ≤ n) ∧ AZ (Kd.S (Kd.slice 2 (Kd.int .i64)) 49 w' w0.heap.size ok (.slice A n c) (part sz mk xs a i)) ∧ AZ (Below w0.heap.size w0 w') ∧ AZ (Kept w w' ok))
 case atStart => exact ⟨0, by simp [tot], rfl, ⟨rfl⟩, ⟨Nat.zero_le _⟩, HO, HB, HK⟩
 case round =>
  clear HO HB HK
  obtain ⟨i, rfl, rfl, HQ, HI, HO, HB, HK⟩ := hrel
  by_cases hlt : i < n
  ·have HL := AZ.mk hlt
   have c1 : decide ((i : Int) < (n : Int)) = true := dT (by omega)
   have c2 : decide (i < n) = true := dT hlt
   have hix : i < xs.length := by rw [← HN.out]; exact hlt
   have HX := AZ.mk hix
   clear hlt
   obtain ⟨gk0, rfl⟩ : ∃ q, gk = q + 1 := ⟨gk - 1, by have := HQ.out; have := HL.out; omega⟩
   obtain ⟨g, cap, hv, _, _, _⟩ := Kd.S_form HO.out (by rw [part_length]; omega)
   injection hv with hv1 hv2 hv3
   subst hv1
   subst hv3
   clear hv2
   obtain ⟨oki, cs, _, hM, hcc, hfr, hoki, hH⟩ := Kd.S_elem HO.out (([] : List Int)) (i : Int) (by omega) (by have := HL.out; omega)
   rw [show ((i : Int)).toNat = i from by simp, part_at sz mk xs a i hix] at hM
   have F1 := part_succ sz mk xs a i hix
   have F2 := tot_succ sz xs i hix
   have F3 := HP.out i hix
   generalize xs[i] = x at hM F1 F2 F3
   have G1 := AZ.mk F1
   have G2 := AZ.mk F2
   have G3 := AZ.mk F3
   clear F1 F2 F3
   obtain ⟨u, rfl, hR⟩ := hM
   have hsh := Kd.R_slice hR
   obtain ⟨Au, cu, rfl⟩ := hsh
   have hx0 : wr.cell? ⟨g, i, none⟩ = some (.slice Au x.length cu) := by have h := hcc 0 _ rfl; rw [show ((i : Int)).toNat * ((Kd.slice 2 (Kd.int .i64))).sz + 0 = i from by show ((i : Int)).toNat * 1 + 0 = i; simp] at h; exact h
   have HR := AZ.mk hR
   have HOK := AZ.mk hoki
   have HH := AZ.mk hH
   clear hR hoki hH hcc hfr HO hix
   have p1 : (0 ≤ (i : Int)) = True := eq_true (by omega)
   have p2 : ((i : Int) < (n : Int)) = True := eq_true (by have := HL.out; omega)
   go_wp2_with (first | ((with_reducible refine gate_callee (f := 87) rfl ?_); refine Zi (some 17) rfl rfl Try.func87 (by kernel_rfl) rfl #[.slice Au x.length cu, .int .i64 (a + (tot sz (xs.take i) : Int))] rfl (by (try simp only [mA, mB, mC]); first | done | rfl) ?_; refine (HE.out _ _ _ _ _ G3.out HB.out HR.out).mono ?_; rintro e w' ⟨rfl, hR2, hB2, hK2⟩; refine ⟨_, rfl, ?_⟩))
   go_roundg gk0
   case measure => have := HQ.out; omega
   case rel =>
    have h9 := Kd.H_back (Kd.H_kept HH.out hK2 (fun k _ hn => hn)) (okp := oki) ⟨_, rfl, hR2⟩ (fun k hk => hk)
    rw [show ((i : Int)).toNat = i from by simp, G1.out] at h9
    exact ⟨i + 1, by rw [G2.out]; simp only [Value.int.injEq, true_and]; omega, by simp only [Value.int.injEq, true_and]; rw [bw' _ (by omega) (by have := HL.out; have := HN.out; have := HLE.out; omega)]; omega, ⟨by have := HQ.out; omega⟩, ⟨by have := HL.out; omega⟩, ⟨h9⟩, ⟨hB2⟩, ⟨Kept.then_ HK.out hK2 (fun k hk => .inl (HOK.out k hk).1)⟩⟩
  ·have hix : i = xs.length := by have := HI.out; have := HN.out; omega
   have c1 : decide ((i : Int) < (n : Int)) = false := dF (by omega)
   have c2 : decide (i < n) = false := dF hlt
   have HIX := AZ.mk hix
   clear hlt hix
   go_wp2
   go_ret
   have hix := HIX.out
   refine ⟨?_, ?_, HB.out, HK.out⟩
   ·show Ending.returned (.int .i64 (a + (tot sz (xs.take i) : Int))) = _
    rw [hix, List.take_length]
   ·have := HO.out
    rw [hix, part_all] at this
    exact this
end
section
variable (sz : List (List Int) → Nat) (mk : List (List Int) → Int → List (List Int))
theorem markInt64SSS_walk (P : List (List Int) → Int → Prop) (w0 : World)
  (EL : ∀ (W : World) (u : Value) (x : List (List Int)) (a : Int) (oki : Nat → Prop), P x a → Below w0.heap.size w0 W → Kd.S (Kd.slice 2 (Kd.int .i64)) 49 W w0.heap.size oki u x → Calls Try.prog 41 #[u, .int .i64 a] W fun e W' => e = .returned (.int .i64 (a + (sz x : Int))) ∧ Kd.S (Kd.slice 2 (Kd.int .i64)) 49 W' w0.heap.size oki u (mk x a) ∧ Below w0.heap.size w0 W' ∧ Kept W W' oki)
  (v : Value) (xs : List (List (List Int))) (a : Int) (ok : Nat → Prop) (w : World) (hP : ∀ i (h : i < xs.length), P xs[i] (a + (tot sz (xs.take i) : Int))) (hlen : xs.length ≤ 1048576)
  (hB : Below w0.heap.size w0 w) (hS : Kd.S (sliceS 49 (Kd.slice 2 (Kd.int .i64))) 25 w w0.heap.size ok v xs) :
  Calls Try.prog 40 #[v, .int .i64 a] w fun e w' => e = .returned (.int .i64 (a + (tot sz xs : Int))) ∧ Kd.S (sliceS 49 (Kd.slice 2 (Kd.int .i64))) 25 w' w0.heap.size ok v (mks sz mk xs a) ∧ Below w0.heap.size w0 w' ∧ Kept w w' ok := by
 obtain ⟨A, c, rfl⟩ := Kd.S_slice hS
 obtain ⟨n, hn⟩ : ∃ n : Nat, n = xs.length := ⟨_, rfl⟩
 rw [← hn] at hS ⊢
 have HN := AZ.mk hn
 have HLE := AZ.mk hlen
 have HP := AZ.mk hP
 have HE := AZ.mk EL
 have HO := AZ.mk (show Kd.S (sliceS 49 (Kd.slice 2 (Kd.int .i64))) 25 w w0.heap.size ok (.slice A n c) (part sz mk xs a 0) by rw [part_zero]; exact hS)
 have HB := AZ.mk hB
 have HK := AZ.mk (Kept.refl w ok)
 clear hB hS hP hlen EL hn
 go_enter Try.func40, Try.ntmps40
 go_wp2
 go_loopg [1, 5] (n + 1) (fun kq v1 v5 w' => ∃ i : Nat, v1 = .int .i64 (a + (tot sz (xs.take i) : Int)) ∧ v5 = .int .i64 (i : Int) ∧ AZ (kq + i = n + 1) ∧ AZ (i ≤ n) ∧ AZ (Kd.S (sliceS 49 (Kd.slice 2 (Kd.int .i64))) 25 w' w0.heap.size ok (.slice A n c) (part sz mk xs a i)) ∧ AZ (Below w0.heap.size w0 w') ∧ AZ (Kept w w' ok))
 case atStart => exact ⟨0, by simp [tot], rfl, ⟨rfl⟩, ⟨Nat.zero_le _⟩, HO, HB, HK⟩
 case round =>
  clear HO HB HK
  obtain ⟨i, rfl, rfl, HQ, HI, HO, HB, HK⟩ := hrel
  by_cases hlt : i < n
  ·have HL := AZ.mk hlt
   have c1 : decide ((i : Int) < (n : Int)) = true := dT (by omega)
   have c2 : decide (i < n) = true := dT hlt
   have hix : i < xs.length := by rw [← HN.out]; exact hlt
   have HX := AZ.mk hix
   clear hlt
   obtain ⟨gk0, rfl⟩ : ∃ q, gk = q + 1 := ⟨gk - 1, by have := HQ.out; have := HL.out; omega⟩
   obtain ⟨g, cap, hv, _, _, _⟩ := Kd.S_form HO.out (by rw [part_length]; omega)
   injection hv with hv1 hv2 hv3
   subst hv1
   subst hv3
   clear hv2
   obtain ⟨oki, cs, _, hM, hcc, hfr, hoki, hH⟩ := Kd.S_elem HO.out (([] : List (List Int))) (i : Int) (by omega) (by have := HL.out; omega)
   rw [show ((i : Int)).toNat = i from by simp, part_at sz mk xs a i hix] at hM
   have F1 := part_succ sz mk xs a i hix
   have F2 := tot_succ sz xs i hix
   have F3 := HP.out i hix
   generalize xs[i] = x at hM F1 F2 F3
   have G1 := AZ.mk F1
   have G2 := AZ.mk F2
   have G3 := AZ.mk F3
   clear F1 F2 F3
   obtain ⟨u, rfl, hR⟩ := hM
   have hsh := Kd.S_slice hR
   obtain ⟨Au, cu, rfl⟩ := hsh
   have hx0 : wr.cell? ⟨g, i, none⟩ = some (.slice Au x.length cu) := by have h := hcc 0 _ rfl; rw [show ((i : Int)).toNat * ((sliceS 49 (Kd.slice 2 (Kd.int .i64)))).sz + 0 = i from by show ((i : Int)).toNat * 1 + 0 = i; simp] at h; exact h
   have HR := AZ.mk hR
   have HOK := AZ.mk hoki
   have HH := AZ.mk hH
   clear hR hoki hH hcc hfr HO hix
   have p1 : (0 ≤ (i : Int)) = True := eq_true (by omega)
   have p2 : ((i : Int) < (n : Int)) = True := eq_true (by have := HL.out; omega)
   go_wp2_with (first | ((with_reducible refine gate_callee (f := 41) rfl ?_); refine Zi (some 17) rfl rfl Try.func41 (by kernel_rfl) rfl #[.slice Au x.length cu, .int .i64 (a + (tot sz (xs.take i) : Int))] rfl (by (try simp only [mA, mB, mC]); first | done | rfl) ?_; refine (HE.out _ _ _ _ _ G3.out HB.out HR.out).mono ?_; rintro e w' ⟨rfl, hR2, hB2, hK2⟩; refine ⟨_, rfl, ?_⟩))
   go_roundg gk0
   case measure => have := HQ.out; omega
   case rel =>
    have h9 := Kd.H_back (Kd.H_kept HH.out hK2 (fun k _ hn => hn)) (okp := oki) ⟨_, rfl, hR2⟩ (fun k hk => hk)
    rw [show ((i : Int)).toNat = i from by simp, G1.out] at h9
    exact ⟨i + 1, by rw [G2.out]; simp only [Value.int.injEq, true_and]; omega, by simp only [Value.int.injEq, true_and]; rw [bw' _ (by omega) (by have := HL.out; have := HN.out; have := HLE.out; omega)]; omega, ⟨by have := HQ.out; omega⟩, ⟨by have := HL.out; omega⟩, ⟨h9⟩, ⟨hB2⟩, ⟨Kept.then_ HK.out hK2 (fun k hk => .inl (HOK.out k hk).1)⟩⟩
  ·have hix : i = xs.length := by have := HI.out; have := HN.out; omega
   have c1 : decide ((i : Int) < (n : Int)) = false := dF (by omega)
   have c2 : decide (i < n) = false := dF hlt
   have HIX := AZ.mk hix
   clear hlt hix
   go_wp2
   go_ret
   have hix := HIX.out
   refine ⟨?_, ?_, HB.out, HK.out⟩
   ·show Ending.returned (.int .i64 (a + (tot sz (xs.take i) : Int))) = _
    rw [hix, List.take_length]
   ·have := HO.out
    rw [hix, part_all] at this
    exact this
end
end Go.Proofs.Ytepkfigcnnfoaaa.P
namespace Go.Proofs.Ytepkfigcnnfoaaa.P
open Go.RowKit Go.Proofs.YtepkfigcnnfoaaaW.PrintWords Go.Proofs.YtepkfigcnnfoaaaW.PrintLast Go.Proofs.YtepkfigcnnfoaaaW.PrintMore
attribute [local go_sem] Zn Zp Zw Zx Zj Zk Zq Zr
def laws_markBoolS.l0 : Nat → List Bool → Int → Int → Option (Int × List Bool)
 | 0, _, _, _ => none
 | k + 1, x0, x1, x5 => if x5 < (x0.length : Int) then (if 0 ≤ x5 then (laws_markBoolS.l0 k (x0.set (x5 : Int).toNat ((Int.tmod x1 3) == 0)) (wrap64 (x1 + 1)) (wrap64 (x5 + 1))) else (none)) else (some (x1, x0))
def laws_markBoolS.f (k : Nat) (l0 : List Bool) (a1 : Int) : Option (Int × List Bool) := laws_markBoolS.l0 k l0 a1 0
theorem laws_markBoolS.calls (k : Nat) (P0_ : Nat → Prop) (u9000_ : Value) (l0 : List Bool) (a1 : Int) (r1 : Int) (r2 : List Bool) (w0 w : World) (hB : Below w0.heap.size w0 w) (ho0 : Kd.R Kd.bool 4 w w0.heap.size P0_ u9000_ l0) (h : laws_markBoolS.f k l0 a1 = some (r1, r2)) :
  Calls Try.prog 38 #[u9000_, .int .i64 a1] w fun e w' => e = .returned (.int .i64 r1) ∧ Kd.R Kd.bool 4 w' w0.heap.size (fun k_ => (P0_ k_ ∨ w.heap.size ≤ k_)) u9000_ r2 ∧ Below w0.heap.size w0 w' ∧ Kept w w' (fun k_ => P0_ k_) := by
 have HO0 := AZ.mk (show Kd.R Kd.bool 4 w w0.heap.size (fun k_ => (P0_ k_ ∨ w.heap.size ≤ k_)) u9000_ l0 from Kd.R_mono ho0 (fun k_ hk => (.inl hk)))
 have HK := AZ.mk (Kept.refl w (fun k_ => P0_ k_))
 have HW0 := AZ.mk hB.size
 have HB := AZ.mk hB
 clear hB
 have H : (laws_markBoolS.l0 k l0 a1 0) = some (r1, r2) := h
 clear h
 have H' := AZ.mk H
 clear H
 go_enter Try.func38, Try.ntmps38
 go_wp2
 go_loopg [1, 5] k (fun kq v1 v5 w' => ∃ (x0_1 : List Bool) (x1_1 : Int) (x5_1 : Int), v1 = .int .i64 x1_1 ∧ v5 = .int .i64 x5_1 ∧ AZ (laws_markBoolS.l0 kq x0_1 x1_1 x5_1 = some (r1, r2)) ∧ AZ (kq ≤ k) ∧ AZ (Kd.R Kd.bool 4 w' w0.heap.size (fun k_ => (P0_ k_ ∨ w.heap.size ≤ k_)) u9000_ x0_1) ∧ AZ (Kept w w' (fun k_ => P0_ k_)) ∧ AZ (Below w0.heap.size w0 w'))
 case atStart => exact ⟨(l0), (a1), (0), (by first | rfl | (simp; done) | (simp [*]; done)), (by first | rfl | (simp; done) | (simp [*]; done)), H', ⟨Nat.le_refl _⟩, ⟨by (with_reducible repeat (first | apply Kd.R_alloc | apply Kd.R_drewN | apply Kd.R_drew)); exact HO0.out⟩, ⟨by repeat (first | (with_reducible first | exact HK.out | apply Kept.alloc | apply Kept.drewN | apply Kept.drew) | exact HK.out)⟩, ⟨by repeat (first | (with_reducible first | exact HB.out | apply pA | apply pN | apply pD) | exact HB.out)⟩⟩
 case round =>
  clear H'
  try clear p2
  obtain ⟨x0_1, x1_1, x5_1, rfl, rfl, HA, HK1, HO_0, HK, HB⟩ := hrel
  cases gk with
  | zero => exact absurd HA.out (by simp [laws_markBoolS.l0])
  | succ k1 =>
   have H := HA.out
   clear HA
   simp only [laws_markBoolS.l0] at H
   by_cases c3 : x5_1 < (x0_1.length : Int)
   rotate_left
   ·rw [if_neg c3] at H
    have c3b0 : decide (x5_1 < (x0_1.length : Int)) = false := dF c3
    clear c3
    simp only [Option.some.injEq, Prod.mk.injEq] at H
    obtain ⟨rfl, rfl⟩ := H
    obtain ⟨Ao9, co9, eo9⟩ := Kd.R_slice HO_0.out
    subst eo9
    go_wp2
    go_ret
    exact ⟨by first | rfl | (simp [Ze, Zf] <;> rfl) | (simp [*, Ze, Zf] <;> rfl), by (with_reducible repeat (first | apply Kd.R_alloc | apply Kd.R_drewN | apply Kd.R_drew)); exact HO_0.out, by repeat (first | (with_reducible first | exact HB.out | apply pA | apply pN | apply pD) | exact HB.out), by repeat (first | (with_reducible first | exact HK.out | apply Kept.alloc | apply Kept.drewN | apply Kept.drew) | exact HK.out)⟩
   rw [if_pos c3] at H
   have c3b0 : decide (x5_1 < (x0_1.length : Int)) = true := dT c3
   clear c3
   by_cases c4 : 0 ≤ x5_1
   rotate_left
   ·rw [if_neg c4] at H
    exact absurd H (by simp)
   rw [if_pos c4] at H
   have c4b0 : decide (0 ≤ x5_1) = true := dT c4
   clear c4
   obtain ⟨y169, hy169⟩ : ∃ y_ : List Bool, y_ = (x0_1.set (x5_1 : Int).toNat ((Int.tmod x1_1 3) == 0)) := ⟨_, rfl⟩
   replace H : (laws_markBoolS.l0 k1 y169 (wrap64 (x1_1 + 1)) (wrap64 (x5_1 + 1))) = some (r1, r2) := by first | (rw [hy169]; with_reducible exact H) | (have H2_ := (Option.bind_some _ _).symm.trans H; rw [hy169]; with_reducible exact H2_) | (have H2_ := (Option.bind_some _ _).symm.trans H; with_reducible exact H2_) | with_reducible exact H | (rw [hy169]; exact H) | exact H
   have Ny169 := AZ.mk hy169
   clear hy169
   have H' := AZ.mk H
   clear H
   obtain ⟨Ao6, co6, eo6⟩ := Kd.R_slice HO_0.out
   subst eo6
   have p5 : 0 ≤ (x5_1 : Int) := oT (by first | (with_reducible assumption) | assumption)
   have q5 : (x5_1 : Int) < ((x0_1.length : Int) : Int) := oT (by first | (with_reducible assumption) | assumption)
   obtain ⟨go5, co5, eo5, gb5, gl5, cl5, HG5⟩ := Kd.R_form HO_0.out (by omega)
   (first | cases eo5 | (injection eo5 with ea_ en_ ec_; (first | subst ea_ | (injection ea_ with ea_; subst ea_)); subst ec_; clear en_))
   have GB5 := AZ.mk gb5
   have GG5 := AZ.mk HG5
   clear gb5 gl5 HG5
   have HMgo5 := AZ.mk (show (P0_ go5 ∨ w.heap.size ≤ go5) from (HO_0.out.1 _ rfl))
   obtain ⟨hx5_0, hf5_0⟩ := Kd.R_celln false HO_0.out (x5_1 : Int) p5 q5
   replace p5 := eq_true p5
   replace q5 := eq_true q5
   have HP7 := Kd.R_putg HO_0.out (x5_1 : Int) ((Int.tmod x1_1 3) == 0)
   go_wp2_with (first | ((with_reducible refine Yk (t := 4) (p := 17) rfl ?_); refine Yg (t := 4) (p := 17) (v := ?vo_w8) (w1 := (wr.setCell ⟨go5, (x5_1 : Int).toNat, none⟩ (.bool ((Int.tmod x1_1 3) == 0)))) ?hg ?ho ?hn ?hr ?_; (case ho => rfl); (case hg => rfl); (case hn => rfl); (case hr => first | (go_simp; done) | (go_simp; rfl)); intro w8 hw; have hg : wr.grownBy w8 (some go5) := (by rw [hw]; exact HP7.2); have hp_ : Kd.R Kd.bool 4 w8 w0.heap.size (fun k_ => (P0_ k_ ∨ w.heap.size ≤ k_)) (.slice (some ⟨go5, 0, none⟩) x0_1.length co6) y169 := (by rw [hw, Ny169.out]; exact HP7.1); clear HP7; have n0_ := AZ.mk (hp_); have n1_ := AZ.mk ((by rw [hw]; exact pS (HB.out) GB5.out : Below w0.heap.size w0 w8)); have n2_ := AZ.mk (Kept.of_grown (S := (fun k_ => P0_ k_)) hg (by repeat (first | (with_reducible first | exact HK.out | apply Kept.alloc | apply Kept.drewN | apply Kept.drew) | exact HK.out)) (fun k_ e_ => (HO_0.out.1 k_ e_))); clear HO_0; clear HB; clear HK; have HO_0 := n0_; have HB := n1_; have HK := n2_; clear n0_ n1_ n2_; clear hg hw hp_))
   go_roundg k1
   case measure => have := HK1.out; omega
   case rel => exact ⟨(y169), (wrap64 (x1_1 + 1)), (wrap64 (x5_1 + 1)), (by first | rfl | (simp; done) | (simp [*]; done)), (by first | rfl | (simp; done) | (simp [*]; done)), H', ⟨by have := HK1.out; omega⟩, ⟨by (with_reducible repeat (first | apply Kd.R_alloc | apply Kd.R_drewN | apply Kd.R_drew)); exact HO_0.out⟩, ⟨by repeat (first | (with_reducible first | exact HK.out | apply Kept.alloc | apply Kept.drewN | apply Kept.drew) | exact HK.out)⟩, ⟨by repeat (first | (with_reducible first | exact HB.out | apply pA | apply pN | apply pD) | exact HB.out)⟩⟩
attribute [local go_sem] Zn Zp Zw Zx Zj Zk Zq Zr
def laws_heldBoolS.l0 : Nat → List Bool → Int → Int → Option (Int)
 | 0, _, _, _ => none
 | k + 1, x0, x1, x5 => if x5 < (x0.length : Int) then (if 0 ≤ x5 then (if ((rdOf false x0 x5) != ((Int.tmod x1 3) == 0)) = true then (some (-1)) else (laws_heldBoolS.l0 k x0 (wrap64 (x1 + 1)) (wrap64 (x5 + 1)))) else (none)) else (some x1)
def laws_heldBoolS.f (k : Nat) (l0 : List Bool) (a1 : Int) : Option (Int) := laws_heldBoolS.l0 k l0 a1 0
theorem laws_heldBoolS.calls (k : Nat) (A0 : Option Addr) (c0 : Nat) (l0 : List Bool) (a1 : Int) (r : Int) (w : World) (hr0 : Kd.C Kd.bool w A0 l0.length l0) (hc0 : l0.length ≤ c0) (h : laws_heldBoolS.f k l0 a1 = some r) :
  Calls Try.prog 42 #[.slice A0 l0.length c0, .int .i64 a1] w fun e w' => e = .returned (.int .i64 r) ∧ Drawn0 w w' := by
 have HR0 := AZ.mk hr0
 have HC0 := AZ.mk hc0
 clear hr0 hc0
 have H : (laws_heldBoolS.l0 k l0 a1 0) = some r := h
 clear h
 have H' := AZ.mk H
 clear H
 go_enter Try.func42, Try.ntmps42
 go_wp2
 go_loopg [1, 5] k (fun kq v1 v5 w' => ∃ (x1_1 : Int) (x5_1 : Int), v1 = .int .i64 x1_1 ∧ v5 = .int .i64 x5_1 ∧ AZ (laws_heldBoolS.l0 kq l0 x1_1 x5_1 = some r) ∧ AZ (kq ≤ k) ∧ Drawn0 w w')
 case atStart => exact ⟨(a1), (0), (by first | rfl | (simp; done) | (simp [*]; done)), (by first | rfl | (simp; done) | (simp [*]; done)), H', ⟨Nat.le_refl _⟩, by repeat (first | exact Drawn0.refl _ | apply Drawn0.step)⟩
 case round =>
  clear H'
  try clear p2
  obtain ⟨x1_1, x5_1, rfl, rfl, HA, HK1, ⟨m1, rfl⟩⟩ := hrel
  cases gk with
  | zero => exact absurd HA.out (by simp [laws_heldBoolS.l0])
  | succ k1 =>
   have H := HA.out
   clear HA
   simp only [laws_heldBoolS.l0] at H
   by_cases c3 : x5_1 < (l0.length : Int)
   rotate_left
   ·rw [if_neg c3] at H
    have c3b0 : decide (x5_1 < (l0.length : Int)) = false := dF c3
    clear c3
    obtain rfl := oJ H
    go_wp2
    go_ret
    exact ⟨by first | rfl | (simp; done) | (simp [*]; done), by repeat (first | exact Drawn0.refl _ | apply Drawn0.step)⟩
   rw [if_pos c3] at H
   have c3b0 : decide (x5_1 < (l0.length : Int)) = true := dT c3
   clear c3
   by_cases c4 : 0 ≤ x5_1
   rotate_left
   ·rw [if_neg c4] at H
    exact absurd H (by simp)
   rw [if_pos c4] at H
   have c4b0 : decide (0 ≤ x5_1) = true := dT c4
   clear c4
   by_cases c5 : ((rdOf false l0 x5_1) != ((Int.tmod x1_1 3) == 0)) = true
   ·rw [if_pos c5] at H
    have c5b0 : ((rdOf false l0 x5_1) != ((Int.tmod x1_1 3) == 0)) = true := c5
    (try (have c5b1 : decide ((rdOf false l0 x5_1) = ((Int.tmod x1_1 3) == 0)) = false := by simpa using c5))
    (try (have c5b2 : ((rdOf false l0 x5_1) == ((Int.tmod x1_1 3) == 0)) = false := by simpa using c5))
    (try (have c5b3 : ¬ ((rdOf false l0 x5_1) = ((Int.tmod x1_1 3) == 0)) := by simpa using c5))
    clear c5
    obtain rfl := oJ H
    have p178 : 0 ≤ (x5_1 : Int) := oT (by first | (with_reducible assumption) | assumption)
    have q178 : x5_1 < (l0.length : Int) := oT (by first | (with_reducible assumption) | assumption)
    obtain ⟨ad178, e178, hx178_0⟩ := Kd.at_bool HR0.out x5_1 p178 q178
    cases e178
    replace p178 := eq_true p178
    replace q178 := eq_true q178
    go_wp2
    go_ret
    exact ⟨by first | rfl | (simp; done) | (simp [*]; done), by repeat (first | exact Drawn0.refl _ | apply Drawn0.step)⟩
   rw [if_neg c5] at H
   have c5b0 : ((rdOf false l0 x5_1) != ((Int.tmod x1_1 3) == 0)) = false := by simpa using c5
   (try (have c5b1 : decide ((rdOf false l0 x5_1) = ((Int.tmod x1_1 3) == 0)) = true := by simpa using c5))
   (try (have c5b2 : ((rdOf false l0 x5_1) == ((Int.tmod x1_1 3) == 0)) = true := by simpa using c5))
   clear c5
   have H' := AZ.mk H
   clear H
   have p178 : 0 ≤ (x5_1 : Int) := oT (by first | (with_reducible assumption) | assumption)
   have q178 : x5_1 < (l0.length : Int) := oT (by first | (with_reducible assumption) | assumption)
   obtain ⟨ad178, e178, hx178_0⟩ := Kd.at_bool HR0.out x5_1 p178 q178
   cases e178
   replace p178 := eq_true p178
   replace q178 := eq_true q178
   go_wp2
   go_roundg k1
   case measure => have := HK1.out; omega
   case rel => exact ⟨(wrap64 (x1_1 + 1)), (wrap64 (x5_1 + 1)), (by first | rfl | (simp; done) | (simp [*]; done)), (by first | rfl | (simp; done) | (simp [*]; done)), H', ⟨by have := HK1.out; omega⟩, by repeat (first | exact Drawn0.refl _ | apply Drawn0.step)⟩
attribute [local go_sem] Zn Zp Zw Zx Zj Zk Zq Zr
def laws_heldPushS.l0 : Nat → List (S47) → Int → Int → Option (Int)
 | 0, _, _, _ => none
 | k + 1, x0, x1, x5 => if x5 < (x0.length : Int) then (if 0 ≤ x5 then (if ((Zb x0 x5).f0) = x1 then (if ((Zb x0 x5).f1) = (wrap64 (x1 + 1)) then (laws_heldPushS.l0 k x0 (wrap64 ((wrap64 (x1 + 1)) + 1)) (wrap64 (x5 + 1))) else (some (-1))) else (some (-1))) else (none)) else (some x1)
def laws_heldPushS.f (k : Nat) (l0 : List (S47)) (a1 : Int) : Option (Int) := laws_heldPushS.l0 k l0 a1 0
theorem laws_heldPushS.calls (k : Nat) (A0 : Option Addr) (c0 : Nat) (l0 : List (S47)) (a1 : Int) (r : Int) (w : World) (hr0 : Kd.C k47 w A0 l0.length l0) (hc0 : l0.length ≤ c0) (h : laws_heldPushS.f k l0 a1 = some r) :
  Calls Try.prog 88 #[.slice A0 l0.length c0, .int .i64 a1] w fun e w' => e = .returned (.int .i64 r) ∧ Drawn0 w w' := by
 have HR0 := AZ.mk hr0
 have HC0 := AZ.mk hc0
 clear hr0 hc0
 have H : (laws_heldPushS.l0 k l0 a1 0) = some r := h
 clear h
 have H' := AZ.mk H
 clear H
 go_enter Try.func88, Try.ntmps88
 go_wp2
 go_loopg [1, 5] k (fun kq v1 v5 w' => ∃ (x1_1 : Int) (x5_1 : Int), v1 = .int .i64 x1_1 ∧ v5 = .int .i64 x5_1 ∧ AZ (laws_heldPushS.l0 kq l0 x1_1 x5_1 = some r) ∧ AZ (kq ≤ k) ∧ Drawn0 w w')
 case atStart => exact ⟨(a1), (0), (by first | rfl | (simp; done) | (simp [*]; done)), (by first | rfl | (simp; done) | (simp [*]; done)), H', ⟨Nat.le_refl _⟩, by repeat (first | exact Drawn0.refl _ | apply Drawn0.step)⟩
 case round =>
  clear H'
  try clear p2
  obtain ⟨x1_1, x5_1, rfl, rfl, HA, HK1, ⟨m1, rfl⟩⟩ := hrel
  cases gk with
  | zero => exact absurd HA.out (by simp [laws_heldPushS.l0])
  | succ k1 =>
   have H := HA.out
   clear HA
   simp only [laws_heldPushS.l0] at H
   by_cases c3 : x5_1 < (l0.length : Int)
   rotate_left
   ·rw [if_neg c3] at H
    have c3b0 : decide (x5_1 < (l0.length : Int)) = false := dF c3
    clear c3
    obtain rfl := oJ H
    go_wp2
    go_ret
    exact ⟨by first | rfl | (simp; done) | (simp [*]; done), by repeat (first | exact Drawn0.refl _ | apply Drawn0.step)⟩
   rw [if_pos c3] at H
   have c3b0 : decide (x5_1 < (l0.length : Int)) = true := dT c3
   clear c3
   by_cases c4 : 0 ≤ x5_1
   rotate_left
   ·rw [if_neg c4] at H
    exact absurd H (by simp)
   rw [if_pos c4] at H
   have c4b0 : decide (0 ≤ x5_1) = true := dT c4
   clear c4
   by_cases c5 : ((Zb l0 x5_1).f0) = x1_1
   rotate_left
   ·rw [if_neg c5] at H
    have c5b0 : (((Zb l0 x5_1).f0) == x1_1) = false := beq_eq_false_iff_ne.mpr c5
    have c5b1 : (((Zb l0 x5_1).f0) != x1_1) = true := bne_iff_ne.mpr c5
    obtain rfl := oJ H
    have p179 : 0 ≤ (x5_1 : Int) := oT (by first | (with_reducible assumption) | assumption)
    have q179 : x5_1 < (l0.length : Int) := oT (by first | (with_reducible assumption) | assumption)
    obtain ⟨ad179, e179, hx179_0, hx179_1⟩ := at_T47 HR0.out x5_1 p179 q179
    cases e179
    replace p179 := eq_true p179
    replace q179 := eq_true q179
    go_wp2
    go_ret
    exact ⟨by first | rfl | (simp; done) | (simp [*]; done), by repeat (first | exact Drawn0.refl _ | apply Drawn0.step)⟩
   rw [if_pos c5] at H
   have c5b0 : (((Zb l0 x5_1).f0) == x1_1) = true := beq_iff_eq.mpr c5
   have c5b1 : (((Zb l0 x5_1).f0) != x1_1) = false := bne_eq_false_iff_eq.mpr c5
   clear c5
   by_cases c6 : ((Zb l0 x5_1).f1) = (wrap64 (x1_1 + 1))
   rotate_left
   ·rw [if_neg c6] at H
    have c6b0 : (((Zb l0 x5_1).f1) == (wrap64 (x1_1 + 1))) = false := beq_eq_false_iff_ne.mpr c6
    have c6b1 : (((Zb l0 x5_1).f1) != (wrap64 (x1_1 + 1))) = true := bne_iff_ne.mpr c6
    obtain rfl := oJ H
    have p179 : 0 ≤ (x5_1 : Int) := oT (by first | (with_reducible assumption) | assumption)
    have q179 : x5_1 < (l0.length : Int) := oT (by first | (with_reducible assumption) | assumption)
    obtain ⟨ad179, e179, hx179_0, hx179_1⟩ := at_T47 HR0.out x5_1 p179 q179
    cases e179
    replace p179 := eq_true p179
    replace q179 := eq_true q179
    have p180 : 0 ≤ (x5_1 : Int) := oT (by first | (with_reducible assumption) | assumption)
    have q180 : x5_1 < (l0.length : Int) := oT (by first | (with_reducible assumption) | assumption)
    obtain ⟨ad180, e180, hx180_0, hx180_1⟩ := at_T47 HR0.out x5_1 p180 q180
    obtain rfl : ad179 = ad180 := (by injection e180)
    replace p180 := eq_true p180
    replace q180 := eq_true q180
    go_wp2
    go_ret
    exact ⟨by first | rfl | (simp; done) | (simp [*]; done), by repeat (first | exact Drawn0.refl _ | apply Drawn0.step)⟩
   rw [if_pos c6] at H
   have c6b0 : (((Zb l0 x5_1).f1) == (wrap64 (x1_1 + 1))) = true := beq_iff_eq.mpr c6
   have c6b1 : (((Zb l0 x5_1).f1) != (wrap64 (x1_1 + 1))) = false := bne_eq_false_iff_eq.mpr c6
   clear c6
   have H' := AZ.mk H
   clear H
   have p179 : 0 ≤ (x5_1 : Int) := oT (by first | (with_reducible assumption) | assumption)
   have q179 : x5_1 < (l0.length : Int) := oT (by first | (with_reducible assumption) | assumption)
   obtain ⟨ad179, e179, hx179_0, hx179_1⟩ := at_T47 HR0.out x5_1 p179 q179
   cases e179
   replace p179 := eq_true p179
   replace q179 := eq_true q179
   have p180 : 0 ≤ (x5_1 : Int) := oT (by first | (with_reducible assumption) | assumption)
   have q180 : x5_1 < (l0.length : Int) := oT (by first | (with_reducible assumption) | assumption)
   obtain ⟨ad180, e180, hx180_0, hx180_1⟩ := at_T47 HR0.out x5_1 p180 q180
   obtain rfl : ad179 = ad180 := (by injection e180)
   replace p180 := eq_true p180
   replace q180 := eq_true q180
   go_wp2
   go_roundg k1
   case measure => have := HK1.out; omega
   case rel => exact ⟨(wrap64 ((wrap64 (x1_1 + 1)) + 1)), (wrap64 (x5_1 + 1)), (by first | rfl | (simp; done) | (simp [*]; done)), (by first | rfl | (simp; done) | (simp [*]; done)), H', ⟨by have := HK1.out; omega⟩, by repeat (first | exact Drawn0.refl _ | apply Drawn0.step)⟩
attribute [local go_sem] Zn Zp Zw Zx Zj Zk Zq Zr
def laws_heldPushSS.l0 : Nat → List (List (S47)) → Int → Int → Option (Int)
 | 0, _, _, _ => none
 | k + 1, x0, x1, x5 => if x5 < (x0.length : Int) then (if 0 ≤ x5 then ((laws_heldPushS.f k (Zd x0 x5) x1).bind fun t182 => (if t182 < 0 then (some (-1)) else (laws_heldPushSS.l0 k x0 t182 (wrap64 (x5 + 1))))) else (none)) else (some x1)
def laws_heldPushSS.f (k : Nat) (l0 : List (List (S47))) (a1 : Int) : Option (Int) := laws_heldPushSS.l0 k l0 a1 0
theorem laws_heldPushSS.calls (k : Nat) (A0 : Option Addr) (c0 : Nat) (l0 : List (List (S47))) (a1 : Int) (r : Int) (w : World) (hr0 : Kd.C (Kd.slice 47 k47) w A0 l0.length l0) (hc0 : l0.length ≤ c0) (h : laws_heldPushSS.f k l0 a1 = some r) :
  Calls Try.prog 43 #[.slice A0 l0.length c0, .int .i64 a1] w fun e w' => e = .returned (.int .i64 r) ∧ Drawn0 w w' := by
 have HR0 := AZ.mk hr0
 have HC0 := AZ.mk hc0
 clear hr0 hc0
 have H : (laws_heldPushSS.l0 k l0 a1 0) = some r := h
 clear h
 have H' := AZ.mk H
 clear H
 go_enter Try.func43, Try.ntmps43
 go_wp2
 go_loopg [1, 5] k (fun kq v1 v5 w' => ∃ (x1_1 : Int) (x5_1 : Int), v1 = .int .i64 x1_1 ∧ v5 = .int .i64 x5_1 ∧ AZ (laws_heldPushSS.l0 kq l0 x1_1 x5_1 = some r) ∧ AZ (kq ≤ k) ∧ Drawn0 w w')
 case atStart => exact ⟨(a1), (0), (by first | rfl | (simp; done) | (simp [*]; done)), (by first | rfl | (simp; done) | (simp [*]; done)), H', ⟨Nat.le_refl _⟩, by repeat (first | exact Drawn0.refl _ | apply Drawn0.step)⟩
 case round =>
  clear H'
  try clear p2
  obtain ⟨x1_1, x5_1, rfl, rfl, HA, HK1, ⟨m1, rfl⟩⟩ := hrel
  cases gk with
  | zero => exact absurd HA.out (by simp [laws_heldPushSS.l0])
  | succ k1 =>
   have H := HA.out
   clear HA
   simp only [laws_heldPushSS.l0] at H
   by_cases c3 : x5_1 < (l0.length : Int)
   rotate_left
   ·rw [if_neg c3] at H
    have c3b0 : decide (x5_1 < (l0.length : Int)) = false := dF c3
    clear c3
    obtain rfl := oJ H
    go_wp2
    go_ret
    exact ⟨by first | rfl | (simp; done) | (simp [*]; done), by repeat (first | exact Drawn0.refl _ | apply Drawn0.step)⟩
   rw [if_pos c3] at H
   have c3b0 : decide (x5_1 < (l0.length : Int)) = true := dT c3
   clear c3
   by_cases c4 : 0 ≤ x5_1
   rotate_left
   ·rw [if_neg c4] at H
    exact absurd H (by simp)
   rw [if_pos c4] at H
   have c4b0 : decide (0 ≤ x5_1) = true := dT c4
   clear c4
   replace H := Option.bind_eq_some_iff.mp H
   obtain ⟨t182, A50, H⟩ := H
   replace H : (if t182 < 0 then (some (-1)) else (laws_heldPushSS.l0 k1 l0 t182 (wrap64 (x5_1 + 1)))) = some r := H
   have A5 := AZ.mk A50
   clear A50
   by_cases c6 : t182 < 0
   ·rw [if_pos c6] at H
    have c6b0 : decide (t182 < 0) = true := dT c6
    clear c6
    obtain rfl := oJ H
    have p181 : 0 ≤ (x5_1 : Int) := oT (by first | (with_reducible assumption) | assumption)
    have q181 : x5_1 < (l0.length : Int) := oT (by first | (with_reducible assumption) | assumption)
    obtain ⟨ad181, A181_0, c181_0, e181, hx181_0, hl181_0, hi181_0⟩ := at_L3 HR0.out x5_1 p181 q181
    cases e181
    have HR181_0 := AZ.mk hi181_0
    have HC181_0 := AZ.mk hl181_0
    clear hi181_0 hl181_0
    replace p181 := eq_true p181
    replace q181 := eq_true q181
    go_wp2_with (first | ((with_reducible refine gate_callee (f := 88) rfl ?_); refine Zi (some 17) rfl rfl Try.func88 (by kernel_rfl) rfl #[.slice A181_0 (Zd l0 x5_1).length c181_0, .int .i64 x1_1] rfl (by (try simp only [mA, mB, mC]); first | done | rfl | (simp only [lD, lT]; rfl)) ?_; (with_reducible refine (laws_heldPushS.calls k1 _ _ (Zd l0 x5_1) x1_1 t182 _ ?side1 ?side2 A5.out).mono ?_); (case side1 => repeat (first | exact HR181_0.out | (with_reducible refine Kd.C_alloc ?_ _) | (with_reducible refine Kd.C_drewN ?_ _) | (with_reducible refine Kd.C_drew ?_))); (case side2 => exact HC181_0.out); rintro e w' ⟨rfl, ⟨nd, rfl⟩⟩; refine ⟨_, rfl, ?_⟩))
    go_ret
    exact ⟨by first | rfl | (simp; done) | (simp [*]; done), by repeat (first | exact Drawn0.refl _ | apply Drawn0.step)⟩
   rw [if_neg c6] at H
   have c6b0 : decide (t182 < 0) = false := dF c6
   clear c6
   have H' := AZ.mk H
   clear H
   have p181 : 0 ≤ (x5_1 : Int) := oT (by first | (with_reducible assumption) | assumption)
   have q181 : x5_1 < (l0.length : Int) := oT (by first | (with_reducible assumption) | assumption)
   obtain ⟨ad181, A181_0, c181_0, e181, hx181_0, hl181_0, hi181_0⟩ := at_L3 HR0.out x5_1 p181 q181
   cases e181
   have HR181_0 := AZ.mk hi181_0
   have HC181_0 := AZ.mk hl181_0
   clear hi181_0 hl181_0
   replace p181 := eq_true p181
   replace q181 := eq_true q181
   go_wp2_with (first | ((with_reducible refine gate_callee (f := 88) rfl ?_); refine Zi (some 17) rfl rfl Try.func88 (by kernel_rfl) rfl #[.slice A181_0 (Zd l0 x5_1).length c181_0, .int .i64 x1_1] rfl (by (try simp only [mA, mB, mC]); first | done | rfl | (simp only [lD, lT]; rfl)) ?_; (with_reducible refine (laws_heldPushS.calls k1 _ _ (Zd l0 x5_1) x1_1 t182 _ ?side1 ?side2 A5.out).mono ?_); (case side1 => repeat (first | exact HR181_0.out | (with_reducible refine Kd.C_alloc ?_ _) | (with_reducible refine Kd.C_drewN ?_ _) | (with_reducible refine Kd.C_drew ?_))); (case side2 => exact HC181_0.out); rintro e w' ⟨rfl, ⟨nd, rfl⟩⟩; refine ⟨_, rfl, ?_⟩))
   go_roundg k1
   case measure => have := HK1.out; omega
   case rel => exact ⟨(t182), (wrap64 (x5_1 + 1)), (by first | rfl | (simp; done) | (simp [*]; done)), (by first | rfl | (simp; done) | (simp [*]; done)), H', ⟨by have := HK1.out; omega⟩, by repeat (first | exact Drawn0.refl _ | apply Drawn0.step)⟩
attribute [local go_sem] Zn Zp Zw Zx Zj Zk Zq Zr
def laws_heldInt64S.l0 : Nat → List Int → Int → Int → Option (Int)
 | 0, _, _, _ => none
 | k + 1, x0, x1, x5 => if x5 < (x0.length : Int) then (if 0 ≤ x5 then (if (rd x0 x5) = x1 then (laws_heldInt64S.l0 k x0 (wrap64 (x1 + 1)) (wrap64 (x5 + 1))) else (some (-1))) else (none)) else (some x1)
def laws_heldInt64S.f (k : Nat) (l0 : List Int) (a1 : Int) : Option (Int) := laws_heldInt64S.l0 k l0 a1 0
theorem laws_heldInt64S.calls (k : Nat) (A0 : Option Addr) (c0 : Nat) (l0 : List Int) (a1 : Int) (r : Int) (w : World) (hr0 : Kd.C (Kd.int .i64) w A0 l0.length l0) (hc0 : l0.length ≤ c0) (h : laws_heldInt64S.f k l0 a1 = some r) :
  Calls Try.prog 89 #[.slice A0 l0.length c0, .int .i64 a1] w fun e w' => e = .returned (.int .i64 r) ∧ Drawn0 w w' := by
 have HR0 := AZ.mk hr0
 have HC0 := AZ.mk hc0
 clear hr0 hc0
 have H : (laws_heldInt64S.l0 k l0 a1 0) = some r := h
 clear h
 have H' := AZ.mk H
 clear H
 go_enter Try.func89, Try.ntmps89
 go_wp2
 go_loopg [1, 5] k (fun kq v1 v5 w' => ∃ (x1_1 : Int) (x5_1 : Int), v1 = .int .i64 x1_1 ∧ v5 = .int .i64 x5_1 ∧ AZ (laws_heldInt64S.l0 kq l0 x1_1 x5_1 = some r) ∧ AZ (kq ≤ k) ∧ Drawn0 w w')
 case atStart => exact ⟨(a1), (0), (by first | rfl | (simp; done) | (simp [*]; done)), (by first | rfl | (simp; done) | (simp [*]; done)), H', ⟨Nat.le_refl _⟩, by repeat (first | exact Drawn0.refl _ | apply Drawn0.step)⟩
 case round =>
  clear H'
  try clear p2
  obtain ⟨x1_1, x5_1, rfl, rfl, HA, HK1, ⟨m1, rfl⟩⟩ := hrel
  cases gk with
  | zero => exact absurd HA.out (by simp [laws_heldInt64S.l0])
  | succ k1 =>
   have H := HA.out
   clear HA
   simp only [laws_heldInt64S.l0] at H
   by_cases c3 : x5_1 < (l0.length : Int)
   rotate_left
   ·rw [if_neg c3] at H
    have c3b0 : decide (x5_1 < (l0.length : Int)) = false := dF c3
    clear c3
    obtain rfl := oJ H
    go_wp2
    go_ret
    exact ⟨by first | rfl | (simp; done) | (simp [*]; done), by repeat (first | exact Drawn0.refl _ | apply Drawn0.step)⟩
   rw [if_pos c3] at H
   have c3b0 : decide (x5_1 < (l0.length : Int)) = true := dT c3
   clear c3
   by_cases c4 : 0 ≤ x5_1
   rotate_left
   ·rw [if_neg c4] at H
    exact absurd H (by simp)
   rw [if_pos c4] at H
   have c4b0 : decide (0 ≤ x5_1) = true := dT c4
   clear c4
   by_cases c5 : (rd l0 x5_1) = x1_1
   rotate_left
   ·rw [if_neg c5] at H
    have c5b0 : ((rd l0 x5_1) == x1_1) = false := beq_eq_false_iff_ne.mpr c5
    have c5b1 : ((rd l0 x5_1) != x1_1) = true := bne_iff_ne.mpr c5
    obtain rfl := oJ H
    have p183 : 0 ≤ (x5_1 : Int) := oT (by first | (with_reducible assumption) | assumption)
    have q183 : x5_1 < (l0.length : Int) := oT (by first | (with_reducible assumption) | assumption)
    obtain ⟨ad183, e183, hx183_0⟩ := Kd.at_int HR0.out x5_1 p183 q183
    cases e183
    replace p183 := eq_true p183
    replace q183 := eq_true q183
    go_wp2
    go_ret
    exact ⟨by first | rfl | (simp; done) | (simp [*]; done), by repeat (first | exact Drawn0.refl _ | apply Drawn0.step)⟩
   rw [if_pos c5] at H
   have c5b0 : ((rd l0 x5_1) == x1_1) = true := beq_iff_eq.mpr c5
   have c5b1 : ((rd l0 x5_1) != x1_1) = false := bne_eq_false_iff_eq.mpr c5
   clear c5
   have H' := AZ.mk H
   clear H
   have p183 : 0 ≤ (x5_1 : Int) := oT (by first | (with_reducible assumption) | assumption)
   have q183 : x5_1 < (l0.length : Int) := oT (by first | (with_reducible assumption) | assumption)
   obtain ⟨ad183, e183, hx183_0⟩ := Kd.at_int HR0.out x5_1 p183 q183
   cases e183
   replace p183 := eq_true p183
   replace q183 := eq_true q183
   go_wp2
   go_roundg k1
   case measure => have := HK1.out; omega
   case rel => exact ⟨(wrap64 (x1_1 + 1)), (wrap64 (x5_1 + 1)), (by first | rfl | (simp; done) | (simp [*]; done)), (by first | rfl | (simp; done) | (simp [*]; done)), H', ⟨by have := HK1.out; omega⟩, by repeat (first | exact Drawn0.refl _ | apply Drawn0.step)⟩
attribute [local go_sem] Zn Zp Zw Zx Zj Zk Zq Zr
def laws_heldInt64SS.l0 : Nat → List (List Int) → Int → Int → Option (Int)
 | 0, _, _, _ => none
 | k + 1, x0, x1, x5 => if x5 < (x0.length : Int) then (if 0 ≤ x5 then ((laws_heldInt64S.f k (rd_L4 x0 x5) x1).bind fun t185 => (if t185 < 0 then (some (-1)) else (laws_heldInt64SS.l0 k x0 t185 (wrap64 (x5 + 1))))) else (none)) else (some x1)
def laws_heldInt64SS.f (k : Nat) (l0 : List (List Int)) (a1 : Int) : Option (Int) := laws_heldInt64SS.l0 k l0 a1 0
theorem laws_heldInt64SS.calls (k : Nat) (A0 : Option Addr) (c0 : Nat) (l0 : List (List Int)) (a1 : Int) (r : Int) (w : World) (hr0 : Kd.C (Kd.slice 2 (Kd.int .i64)) w A0 l0.length l0) (hc0 : l0.length ≤ c0) (h : laws_heldInt64SS.f k l0 a1 = some r) :
  Calls Try.prog 45 #[.slice A0 l0.length c0, .int .i64 a1] w fun e w' => e = .returned (.int .i64 r) ∧ Drawn0 w w' := by
 have HR0 := AZ.mk hr0
 have HC0 := AZ.mk hc0
 clear hr0 hc0
 have H : (laws_heldInt64SS.l0 k l0 a1 0) = some r := h
 clear h
 have H' := AZ.mk H
 clear H
 go_enter Try.func45, Try.ntmps45
 go_wp2
 go_loopg [1, 5] k (fun kq v1 v5 w' => ∃ (x1_1 : Int) (x5_1 : Int), v1 = .int .i64 x1_1 ∧ v5 = .int .i64 x5_1 ∧ AZ (laws_heldInt64SS.l0 kq l0 x1_1 x5_1 = some r) ∧ AZ (kq ≤ k) ∧ Drawn0 w w')
 case atStart => exact ⟨(a1), (0), (by first | rfl | (simp; done) | (simp [*]; done)), (by first | rfl | (simp; done) | (simp [*]; done)), H', ⟨Nat.le_refl _⟩, by repeat (first | exact Drawn0.refl _ | apply Drawn0.step)⟩
 case round =>
  clear H'
  try clear p2
  obtain ⟨x1_1, x5_1, rfl, rfl, HA, HK1, ⟨m1, rfl⟩⟩ := hrel
  cases gk with
  | zero => exact absurd HA.out (by simp [laws_heldInt64SS.l0])
  | succ k1 =>
   have H := HA.out
   clear HA
   simp only [laws_heldInt64SS.l0] at H
   by_cases c3 : x5_1 < (l0.length : Int)
   rotate_left
   ·rw [if_neg c3] at H
    have c3b0 : decide (x5_1 < (l0.length : Int)) = false := dF c3
    clear c3
    obtain rfl := oJ H
    go_wp2
    go_ret
    exact ⟨by first | rfl | (simp; done) | (simp [*]; done), by repeat (first | exact Drawn0.refl _ | apply Drawn0.step)⟩
   rw [if_pos c3] at H
   have c3b0 : decide (x5_1 < (l0.length : Int)) = true := dT c3
   clear c3
   by_cases c4 : 0 ≤ x5_1
   rotate_left
   ·rw [if_neg c4] at H
    exact absurd H (by simp)
   rw [if_pos c4] at H
   have c4b0 : decide (0 ≤ x5_1) = true := dT c4
   clear c4
   replace H := Option.bind_eq_some_iff.mp H
   obtain ⟨t185, A50, H⟩ := H
   replace H : (if t185 < 0 then (some (-1)) else (laws_heldInt64SS.l0 k1 l0 t185 (wrap64 (x5_1 + 1)))) = some r := H
   have A5 := AZ.mk A50
   clear A50
   by_cases c6 : t185 < 0
   ·rw [if_pos c6] at H
    have c6b0 : decide (t185 < 0) = true := dT c6
    clear c6
    obtain rfl := oJ H
    have p184 : 0 ≤ (x5_1 : Int) := oT (by first | (with_reducible assumption) | assumption)
    have q184 : x5_1 < (l0.length : Int) := oT (by first | (with_reducible assumption) | assumption)
    obtain ⟨ad184, A184_0, c184_0, e184, hx184_0, hl184_0, hi184_0⟩ := at_L4 HR0.out x5_1 p184 q184
    cases e184
    have HR184_0 := AZ.mk hi184_0
    have HC184_0 := AZ.mk hl184_0
    clear hi184_0 hl184_0
    replace p184 := eq_true p184
    replace q184 := eq_true q184
    go_wp2_with (first | ((with_reducible refine gate_callee (f := 89) rfl ?_); refine Zi (some 17) rfl rfl Try.func89 (by kernel_rfl) rfl #[.slice A184_0 (rd_L4 l0 x5_1).length c184_0, .int .i64 x1_1] rfl (by (try simp only [mA, mB, mC]); first | done | rfl | (simp only [lD, lT]; rfl)) ?_; (with_reducible refine (laws_heldInt64S.calls k1 _ _ (rd_L4 l0 x5_1) x1_1 t185 _ ?side1 ?side2 A5.out).mono ?_); (case side1 => repeat (first | exact HR184_0.out | (with_reducible refine Kd.C_alloc ?_ _) | (with_reducible refine Kd.C_drewN ?_ _) | (with_reducible refine Kd.C_drew ?_))); (case side2 => exact HC184_0.out); rintro e w' ⟨rfl, ⟨nd, rfl⟩⟩; refine ⟨_, rfl, ?_⟩))
    go_ret
    exact ⟨by first | rfl | (simp; done) | (simp [*]; done), by repeat (first | exact Drawn0.refl _ | apply Drawn0.step)⟩
   rw [if_neg c6] at H
   have c6b0 : decide (t185 < 0) = false := dF c6
   clear c6
   have H' := AZ.mk H
   clear H
   have p184 : 0 ≤ (x5_1 : Int) := oT (by first | (with_reducible assumption) | assumption)
   have q184 : x5_1 < (l0.length : Int) := oT (by first | (with_reducible assumption) | assumption)
   obtain ⟨ad184, A184_0, c184_0, e184, hx184_0, hl184_0, hi184_0⟩ := at_L4 HR0.out x5_1 p184 q184
   cases e184
   have HR184_0 := AZ.mk hi184_0
   have HC184_0 := AZ.mk hl184_0
   clear hi184_0 hl184_0
   replace p184 := eq_true p184
   replace q184 := eq_true q184
   go_wp2_with (first | ((with_reducible refine gate_callee (f := 89) rfl ?_); refine Zi (some 17) rfl rfl Try.func89 (by kernel_rfl) rfl #[.slice A184_0 (rd_L4 l0 x5_1).length c184_0, .int .i64 x1_1] rfl (by (try simp only [mA, mB, mC]); first | done | rfl | (simp only [lD, lT]; rfl)) ?_; (with_reducible refine (laws_heldInt64S.calls k1 _ _ (rd_L4 l0 x5_1) x1_1 t185 _ ?side1 ?side2 A5.out).mono ?_); (case side1 => repeat (first | exact HR184_0.out | (with_reducible refine Kd.C_alloc ?_ _) | (with_reducible refine Kd.C_drewN ?_ _) | (with_reducible refine Kd.C_drew ?_))); (case side2 => exact HC184_0.out); rintro e w' ⟨rfl, ⟨nd, rfl⟩⟩; refine ⟨_, rfl, ?_⟩))
   go_roundg k1
   case measure => have := HK1.out; omega
   case rel => exact ⟨(t185), (wrap64 (x5_1 + 1)), (by first | rfl | (simp; done) | (simp [*]; done)), (by first | rfl | (simp; done) | (simp [*]; done)), H', ⟨by have := HK1.out; omega⟩, by repeat (first | exact Drawn0.refl _ | apply Drawn0.step)⟩
attribute [local go_sem] Zn Zp Zw Zx Zj Zk Zq Zr
def laws_heldInt64SSS.l0 : Nat → List (List (List Int)) → Int → Int → Option (Int)
 | 0, _, _, _ => none
 | k + 1, x0, x1, x5 => if x5 < (x0.length : Int) then (if 0 ≤ x5 then ((laws_heldInt64SS.f k (rd_L5 x0 x5) x1).bind fun t187 => (if t187 < 0 then (some (-1)) else (laws_heldInt64SSS.l0 k x0 t187 (wrap64 (x5 + 1))))) else (none)) else (some x1)
def laws_heldInt64SSS.f (k : Nat) (l0 : List (List (List Int))) (a1 : Int) : Option (Int) := laws_heldInt64SSS.l0 k l0 a1 0
theorem laws_heldInt64SSS.calls (k : Nat) (A0 : Option Addr) (c0 : Nat) (l0 : List (List (List Int))) (a1 : Int) (r : Int) (w : World) (hr0 : Kd.C (Kd.slice 49 (Kd.slice 2 (Kd.int .i64))) w A0 l0.length l0) (hc0 : l0.length ≤ c0) (h : laws_heldInt64SSS.f k l0 a1 = some r) :
  Calls Try.prog 44 #[.slice A0 l0.length c0, .int .i64 a1] w fun e w' => e = .returned (.int .i64 r) ∧ Drawn0 w w' := by
 have HR0 := AZ.mk hr0
 have HC0 := AZ.mk hc0
 clear hr0 hc0
 have H : (laws_heldInt64SSS.l0 k l0 a1 0) = some r := h
 clear h
 have H' := AZ.mk H
 clear H
 go_enter Try.func44, Try.ntmps44
 go_wp2
 go_loopg [1, 5] k (fun kq v1 v5 w' => ∃ (x1_1 : Int) (x5_1 : Int), v1 = .int .i64 x1_1 ∧ v5 = .int .i64 x5_1 ∧ AZ (laws_heldInt64SSS.l0 kq l0 x1_1 x5_1 = some r) ∧ AZ (kq ≤ k) ∧ Drawn0 w w')
 case atStart => exact ⟨(a1), (0), (by first | rfl | (simp; done) | (simp [*]; done)), (by first | rfl | (simp; done) | (simp [*]; done)), H', ⟨Nat.le_refl _⟩, by repeat (first | exact Drawn0.refl _ | apply Drawn0.step)⟩
 case round =>
  clear H'
  try clear p2
  obtain ⟨x1_1, x5_1, rfl, rfl, HA, HK1, ⟨m1, rfl⟩⟩ := hrel
  cases gk with
  | zero => exact absurd HA.out (by simp [laws_heldInt64SSS.l0])
  | succ k1 =>
   have H := HA.out
   clear HA
   simp only [laws_heldInt64SSS.l0] at H
   by_cases c3 : x5_1 < (l0.length : Int)
   rotate_left
   ·rw [if_neg c3] at H
    have c3b0 : decide (x5_1 < (l0.length : Int)) = false := dF c3
    clear c3
    obtain rfl := oJ H
    go_wp2
    go_ret
    exact ⟨by first | rfl | (simp; done) | (simp [*]; done), by repeat (first | exact Drawn0.refl _ | apply Drawn0.step)⟩
   rw [if_pos c3] at H
   have c3b0 : decide (x5_1 < (l0.length : Int)) = true := dT c3
   clear c3
   by_cases c4 : 0 ≤ x5_1
   rotate_left
   ·rw [if_neg c4] at H
    exact absurd H (by simp)
   rw [if_pos c4] at H
   have c4b0 : decide (0 ≤ x5_1) = true := dT c4
   clear c4
   replace H := Option.bind_eq_some_iff.mp H
   obtain ⟨t187, A50, H⟩ := H
   replace H : (if t187 < 0 then (some (-1)) else (laws_heldInt64SSS.l0 k1 l0 t187 (wrap64 (x5_1 + 1)))) = some r := H
   have A5 := AZ.mk A50
   clear A50
   by_cases c6 : t187 < 0
   ·rw [if_pos c6] at H
    have c6b0 : decide (t187 < 0) = true := dT c6
    clear c6
    obtain rfl := oJ H
    have p186 : 0 ≤ (x5_1 : Int) := oT (by first | (with_reducible assumption) | assumption)
    have q186 : x5_1 < (l0.length : Int) := oT (by first | (with_reducible assumption) | assumption)
    obtain ⟨ad186, A186_0, c186_0, e186, hx186_0, hl186_0, hi186_0⟩ := at_L5 HR0.out x5_1 p186 q186
    cases e186
    have HR186_0 := AZ.mk hi186_0
    have HC186_0 := AZ.mk hl186_0
    clear hi186_0 hl186_0
    replace p186 := eq_true p186
    replace q186 := eq_true q186
    go_wp2_with (first | ((with_reducible refine gate_callee (f := 45) rfl ?_); refine Zi (some 17) rfl rfl Try.func45 (by kernel_rfl) rfl #[.slice A186_0 (rd_L5 l0 x5_1).length c186_0, .int .i64 x1_1] rfl (by (try simp only [mA, mB, mC]); first | done | rfl | (simp only [lD, lT]; rfl)) ?_; (with_reducible refine (laws_heldInt64SS.calls k1 _ _ (rd_L5 l0 x5_1) x1_1 t187 _ ?side1 ?side2 A5.out).mono ?_); (case side1 => repeat (first | exact HR186_0.out | (with_reducible refine Kd.C_alloc ?_ _) | (with_reducible refine Kd.C_drewN ?_ _) | (with_reducible refine Kd.C_drew ?_))); (case side2 => exact HC186_0.out); rintro e w' ⟨rfl, ⟨nd, rfl⟩⟩; refine ⟨_, rfl, ?_⟩))
    go_ret
    exact ⟨by first | rfl | (simp; done) | (simp [*]; done), by repeat (first | exact Drawn0.refl _ | apply Drawn0.step)⟩
   rw [if_neg c6] at H
   have c6b0 : decide (t187 < 0) = false := dF c6
   clear c6
   have H' := AZ.mk H
   clear H
   have p186 : 0 ≤ (x5_1 : Int) := oT (by first | (with_reducible assumption) | assumption)
   have q186 : x5_1 < (l0.length : Int) := oT (by first | (with_reducible assumption) | assumption)
   obtain ⟨ad186, A186_0, c186_0, e186, hx186_0, hl186_0, hi186_0⟩ := at_L5 HR0.out x5_1 p186 q186
   cases e186
   have HR186_0 := AZ.mk hi186_0
   have HC186_0 := AZ.mk hl186_0
   clear hi186_0 hl186_0
   replace p186 := eq_true p186
   replace q186 := eq_true q186
   go_wp2_with (first | ((with_reducible refine gate_callee (f := 45) rfl ?_); refine Zi (some 17) rfl rfl Try.func45 (by kernel_rfl) rfl #[.slice A186_0 (rd_L5 l0 x5_1).length c186_0, .int .i64 x1_1] rfl (by (try simp only [mA, mB, mC]); first | done | rfl | (simp only [lD, lT]; rfl)) ?_; (with_reducible refine (laws_heldInt64SS.calls k1 _ _ (rd_L5 l0 x5_1) x1_1 t187 _ ?side1 ?side2 A5.out).mono ?_); (case side1 => repeat (first | exact HR186_0.out | (with_reducible refine Kd.C_alloc ?_ _) | (with_reducible refine Kd.C_drewN ?_ _) | (with_reducible refine Kd.C_drew ?_))); (case side2 => exact HC186_0.out); rintro e w' ⟨rfl, ⟨nd, rfl⟩⟩; refine ⟨_, rfl, ?_⟩))
   go_roundg k1
   case measure => have := HK1.out; omega
   case rel => exact ⟨(t187), (wrap64 (x5_1 + 1)), (by first | rfl | (simp; done) | (simp [*]; done)), (by first | rfl | (simp; done) | (simp [*]; done)), H', ⟨by have := HK1.out; omega⟩, by repeat (first | exact Drawn0.refl _ | apply Drawn0.step)⟩
attribute [local go_sem] Zn Zp Zw Zx Zj Zk Zq Zr
def laws_heldChecker.f (k : Nat) (a0_0 : Int) (a0_1 : Int) (l0_2 : List Bool) (l0_3 : List (List (S47))) (l0_4 : List (List (List Int))) (l0_5 : List (List Int)) (a1 : Int) : Option (Int) := (laws_heldBoolS.f k l0_2 a1).bind fun t189 => (if t189 < 0 then (some (-1)) else ((laws_heldPushSS.f k l0_3 t189).bind fun t190 => (if t190 < 0 then (some (-1)) else ((laws_heldInt64SSS.f k l0_4 t190).bind fun t191 => (if t191 < 0 then (some (-1)) else ((laws_heldInt64SS.f k l0_5 t191).bind fun t192 => (if t192 < 0 then (some (-1)) else (some t192))))))))
end Go.Proofs.Ytepkfigcnnfoaaa.P
namespace Go.Proofs.Ytepkfigcnnfoaaa.Deep
open Go.RowKit Go.Proofs.YtepkfigcnnfoaaaW.PrintWords Go.Proofs.YtepkfigcnnfoaaaW.PrintLast Go.Proofs.YtepkfigcnnfoaaaW.PrintMore
section
variable {P : Program} {ops : Array Oper} {rest : List Oper} {o : Oper} {a : Act} {Q : Exit → Act → World → Prop} {Kc : Act → World → Prop}
variable {α : Type} {dP : Kd α} {tA tP tC tL tI tR tK : Nat} {w0 W w1 : World} {gC gZ : Nat} {cC cZ : Array Value} {vA vC vR vI vc vb vi vl : Value} {LA : List Bool} {LC : List (List α)} {LR : List (List (List Int))} {LI : List (List Int)} {lc : List α} {lb : List (List Int)} {li ll : List Int}
theorem All.app_l (hT : Apart dP tA tP tC tL tI tR tK) (h : All dP tA tP tC tL tI tR tK w0 W gC gZ cC cZ vA vC vR vI vc vb vi vl LA LC LR LI lc lb li ll) (hgd : o.guard = none) (s x : Operand) (t : TypeId) (y : Int)
  (ho : o.op = .call { callee := .builtin .append, args := #[s, x], argTypes := #[t, t] }) (ht : P.underlying t = some (.slice tL)) (hinfo : (P.info? tL).map (fun i => (i.zero, i.size, i.bytes)) = some (some (.int .i64 0), 1, 8))
  (hs : a.eval s = vl) (hx : a.eval x = .slice (some ⟨W.heap.size, 0, none⟩) 1 1) (hl : (ll.length + 1) * 8 ≤ 140737488355328)
  (k : ∀ v1 w1, All dP tA tP tC tL tI tR tK w0 w1 gC gZ cC cZ vA vC vR vI vc vb vi v1 LA LC LR LI lc lb li (ll ++ [y]) → wpList P ops Q rest (a.put o.dst v1) w1) :
  wpList P ops Q (o :: rest) a (W.alloc (.cells [.int .i64 y].toArray tL)) := by
 have hle := h.le
 obtain ⟨hB, hC, hZ, hg, f, h0, h1, h2, h3, h4, h5, h6, h7⟩ := h
 refine Kd.R_append (Kd.int .i64) (w0 := w0) w0.heap.size hgd s x t tL (.int .i64 0) 8 ho ht hinfo rfl (by show 0 < 1; decide) (by decide) vl ll y [.int .i64 y] (tg (upT f W.heap.size 7) 7) (fun _ => False) hs hx rfl (fun _ hk => hk.elim) (fun k hk => upT_ge hk) (Kd.R_mono (R_tag_in h7) (fun k hk => (Zu hk.2).trans hk.1)) hB hle hl ?_
 intro v1 w1 hr hb hgr _
 have row : ∀ i, i ≠ 7 → ∀ k, vl.ownBlock = some k → f k ≠ i := fun i hi k hk e => hi (e.symm.trans (h7.1 k hk))
 exact k v1 w1 ⟨hb, Yb hC hgr (Kd.R_ne h7 hC hT.l), Yb hZ hgr (Kd.R_ne h7 hZ hT.l), hg, upT f W.heap.size 7, Yc h0 hgr (row 0 (by decide)) (fun k hk e => (Zu hk).trans e), Zy h1 hgr (row 1 (by decide)) (fun k hk e => (Zu hk).trans e), Zy h2 hgr (row 2 (by decide)) (fun k hk e => (Zu hk).trans e), Zy h3 hgr (row 3 (by decide)) (fun k hk e => (Zu hk).trans e), Yc h4 hgr (row 4 (by decide)) (fun k hk e => (Zu hk).trans e), Zy h5 hgr (row 5 (by decide)) (fun k hk e => (Zu hk).trans e), Yc h6 hgr (row 6 (by decide)) (fun k hk e => (Zu hk).trans e), hr⟩
theorem All.app_c (hT : Apart dP tA tP tC tL tI tR tK) (h : All dP tA tP tC tL tI tR tK w0 W gC gZ cC cZ vA vC vR vI vc vb vi vl LA LC LR LI lc lb li ll) (hgd : o.guard = none) (s x : Operand) (t : TypeId) (y : α) (cs : List Value) (hcs : dP.M W w0.heap.size (fun _ => False) y cs) (zP : Value) (bytes : Nat) (hz : zP.cells.size = dP.sz) (hs0 : 0 < dP.sz) (hb0 : 0 < bytes)
  (ho : o.op = .call { callee := .builtin .append, args := #[s, x], argTypes := #[t, t] }) (ht : P.underlying t = some (.slice tP)) (hinfo : (P.info? tP).map (fun i => (i.zero, i.size, i.bytes)) = some (some (zP), dP.sz, bytes))
  (hs : a.eval s = vc) (hx : a.eval x = .slice (some ⟨W.heap.size, 0, none⟩) 1 1) (hl : (lc.length + 1) * bytes ≤ 140737488355328)
  (k : ∀ v1 w1, All dP tA tP tC tL tI tR tK w0 w1 gC gZ cC cZ vA vC vR vI v1 vb vi vl LA LC LR LI (lc ++ [y]) lb li ll → wpList P ops Q rest (a.put o.dst v1) w1) :
  wpList P ops Q (o :: rest) a (W.alloc (.cells cs.toArray tP)) := by
 have hle := h.le
 obtain ⟨hB, hC, hZ, hg, f, h0, h1, h2, h3, h4, h5, h6, h7⟩ := h
 refine Kd.R_append dP (w0 := w0) w0.heap.size hgd s x t tP (zP) bytes ho ht hinfo hz hs0 hb0 vc lc y cs (tg (upT f W.heap.size 4) 4) (fun _ => False) hs hx hcs (fun _ hk => hk.elim) (fun k hk => upT_ge hk) (Kd.R_mono (R_tag_in h4) (fun k hk => (Zu hk.2).trans hk.1)) hB hle hl ?_
 intro v1 w1 hr hb hgr _
 have row : ∀ i, i ≠ 4 → ∀ k, vc.ownBlock = some k → f k ≠ i := fun i hi k hk e => hi (e.symm.trans (h4.1 k hk))
 exact k v1 w1 ⟨hb, Yb hC hgr (Kd.R_ne h4 hC hT.p), Yb hZ hgr (Kd.R_ne h4 hZ hT.p), hg, upT f W.heap.size 4, Yc h0 hgr (row 0 (by decide)) (fun k hk e => (Zu hk).trans e), Zy h1 hgr (row 1 (by decide)) (fun k hk e => (Zu hk).trans e), Zy h2 hgr (row 2 (by decide)) (fun k hk e => (Zu hk).trans e), Zy h3 hgr (row 3 (by decide)) (fun k hk e => (Zu hk).trans e), hr, Zy h5 hgr (row 5 (by decide)) (fun k hk e => (Zu hk).trans e), Yc h6 hgr (row 6 (by decide)) (fun k hk e => (Zu hk).trans e), Yc h7 hgr (row 7 (by decide)) (fun k hk e => (Zu hk).trans e)⟩
theorem All.app_b (hT : Apart dP tA tP tC tL tI tR tK) (h : All dP tA tP tC tL tI tR tK w0 W gC gZ cC cZ vA vC vR vI vc vb vi vl LA LC LR LI lc lb li ll) (hgd : o.guard = none) (s x : Operand) (t : TypeId)
  (ho : o.op = .call { callee := .builtin .append, args := #[s, x], argTypes := #[t, t] }) (ht : P.underlying t = some (.slice tI)) (hinfo : (P.info? tI).map (fun i => (i.zero, i.size, i.bytes)) = some (some (.slice none 0 0), 1, 24))
  (hs : a.eval s = vb) (hx : a.eval x = .slice (some ⟨W.heap.size, 0, none⟩) 1 1) (hl : (lb.length + 1) * 24 ≤ 140737488355328)
  (k : ∀ v1 w1, All dP tA tP tC tL tI tR tK w0 w1 gC gZ cC cZ vA vC vR vI vc v1 vi (.slice none 0 0) LA LC LR LI lc (lb ++ [ll]) li [] → wpList P ops Q rest (a.put o.dst v1) w1) :
  wpList P ops Q (o :: rest) a (W.alloc (.cells [vl].toArray tI)) := by
 have hle := h.le
 obtain ⟨hB, hC, hZ, hg, f, h0, h1, h2, h3, h4, h5, h6, h7⟩ := h
 refine Kd.S_append (Kd.slice tL (Kd.int .i64)) (w0 := w0) w0.heap.size hgd s x t tI (.slice none 0 0) 24 ho ht hinfo rfl (by show 0 < 1; decide) (by decide) vb lb ll [vl] (tg (mvT f W.heap.size 7 5) 5) (fun k => f k = 7 ∧ k < W.heap.size) hs hx ⟨vl, rfl, R_tag_in h7⟩ (fun k hk => ⟨mvT_i hk.2 hk.1, fun e => by have h9 : f k = 5 := (Kd.S_R h5).1 k e.symm; have := hk.1; omega⟩) (fun k hk => mvT_ge hk) (Kd.S_mono (S_tag_in h5) (fun k hk => ⟨(mvT_o hk.2 (by rw [hk.1]; decide)).trans hk.1, fun h9 => by have := hk.1; have := h9.1; omega⟩)) hB hle hl ?_
 intro v1 w1 hr hb hgr _
 have row : ∀ i, i ≠ 5 → ∀ k, vb.ownBlock = some k → f k ≠ i := fun i hi k hk e => hi (e.symm.trans ((Kd.S_R h5).1 k hk))
 exact k v1 w1 ⟨hb, Yb hC hgr (Kd.S_ne h5 hC hT.i), Yb hZ hgr (Kd.S_ne h5 hZ hT.i), hg, mvT f W.heap.size 7 5, Yc h0 hgr (row 0 (by decide)) (Yi (by decide)), Zy h1 hgr (row 1 (by decide)) (Yi (by decide)), Zy h2 hgr (row 2 (by decide)) (Yi (by decide)), Zy h3 hgr (row 3 (by decide)) (Yi (by decide)), Yc h4 hgr (row 4 (by decide)) (Yi (by decide)), hr, Yc h6 hgr (row 6 (by decide)) (Yi (by decide)), Kd.R_nil _ _ _ _ _⟩
theorem All.app_i (hT : Apart dP tA tP tC tL tI tR tK) (h : All dP tA tP tC tL tI tR tK w0 W gC gZ cC cZ vA vC vR vI vc vb vi vl LA LC LR LI lc lb li ll) (hgd : o.guard = none) (s x : Operand) (t : TypeId) (y : Int)
  (ho : o.op = .call { callee := .builtin .append, args := #[s, x], argTypes := #[t, t] }) (ht : P.underlying t = some (.slice tL)) (hinfo : (P.info? tL).map (fun i => (i.zero, i.size, i.bytes)) = some (some (.int .i64 0), 1, 8))
  (hs : a.eval s = vi) (hx : a.eval x = .slice (some ⟨W.heap.size, 0, none⟩) 1 1) (hl : (li.length + 1) * 8 ≤ 140737488355328)
  (k : ∀ v1 w1, All dP tA tP tC tL tI tR tK w0 w1 gC gZ cC cZ vA vC vR vI vc vb v1 vl LA LC LR LI lc lb (li ++ [y]) ll → wpList P ops Q rest (a.put o.dst v1) w1) :
  wpList P ops Q (o :: rest) a (W.alloc (.cells [.int .i64 y].toArray tL)) := by
 have hle := h.le
 obtain ⟨hB, hC, hZ, hg, f, h0, h1, h2, h3, h4, h5, h6, h7⟩ := h
 refine Kd.R_append (Kd.int .i64) (w0 := w0) w0.heap.size hgd s x t tL (.int .i64 0) 8 ho ht hinfo rfl (by show 0 < 1; decide) (by decide) vi li y [.int .i64 y] (tg (upT f W.heap.size 6) 6) (fun _ => False) hs hx rfl (fun _ hk => hk.elim) (fun k hk => upT_ge hk) (Kd.R_mono (R_tag_in h6) (fun k hk => (Zu hk.2).trans hk.1)) hB hle hl ?_
 intro v1 w1 hr hb hgr _
 have row : ∀ i, i ≠ 6 → ∀ k, vi.ownBlock = some k → f k ≠ i := fun i hi k hk e => hi (e.symm.trans (h6.1 k hk))
 exact k v1 w1 ⟨hb, Yb hC hgr (Kd.R_ne h6 hC hT.l), Yb hZ hgr (Kd.R_ne h6 hZ hT.l), hg, upT f W.heap.size 6, Yc h0 hgr (row 0 (by decide)) (fun k hk e => (Zu hk).trans e), Zy h1 hgr (row 1 (by decide)) (fun k hk e => (Zu hk).trans e), Zy h2 hgr (row 2 (by decide)) (fun k hk e => (Zu hk).trans e), Zy h3 hgr (row 3 (by decide)) (fun k hk e => (Zu hk).trans e), Yc h4 hgr (row 4 (by decide)) (fun k hk e => (Zu hk).trans e), Zy h5 hgr (row 5 (by decide)) (fun k hk e => (Zu hk).trans e), hr, Yc h7 hgr (row 7 (by decide)) (fun k hk e => (Zu hk).trans e)⟩
theorem All.app_A (hT : Apart dP tA tP tC tL tI tR tK) (h : All dP tA tP tC tL tI tR tK w0 W gC gZ cC cZ vA vC vR vI vc vb vi vl LA LC LR LI lc lb li ll) (hw : Region.wanted o (yielded ops a.tmps) = true) (s x : Operand) (t : TypeId) (y : Bool)
  (ho : o.op = .call { callee := .builtin .append, args := #[s, x], argTypes := #[t, t] }) (ht : P.underlying t = some (.slice tA)) (hinfo : (P.info? tA).map (fun i => (i.zero, i.size, i.bytes)) = some (some (.bool false), 1, 1))
  (hs : a.eval s = vA) (g : Nat) (hx : a.eval x = .slice (some ⟨g, 0, none⟩) 1 1) (hgv : W.heap[g]? = some (.cells [.bool y].toArray tA (0, 0))) (hl : (LA.length + 1) * 1 ≤ 140737488355328)
  (k : ∀ v1 w1, All dP tA tP tC tL tI tR tK w0 w1 gC gZ cC cZ v1 vC vR vI vc vb vi vl (LA ++ [y]) LC LR LI lc lb li ll → (∀ (j : Nat) (cs2 : Array Value) (e2 : TypeId), W.heap[j]? = some (.cells cs2 e2 (0, 0)) → tA ≠ e2 → w1.heap[j]? = some (.cells cs2 e2 (0, 0))) → Kc (a.put o.dst v1) w1) :
  if Region.wanted o (yielded ops a.tmps) = true then Oper.wp P o a W Kc Q else Kc (a.put o.dst undef) W := by
 have hle := h.le
 obtain ⟨hB, hC, hZ, hg, f, h0, h1, h2, h3, h4, h5, h6, h7⟩ := h
 refine R_append_at Kd.bool (w0 := w0) w0.heap.size hw s x t tA (.bool false) 1 ho ht hinfo rfl (by show 0 < 1; decide) (by decide) vA LA y [.bool y] (tg (upT f W.heap.size 0) 0) (fun _ => False) g hs hx hgv rfl (fun _ hk => hk.elim) (fun k hk => upT_ge hk) (Kd.R_mono (R_tag_in h0) (fun k hk => (Zu hk.2).trans hk.1)) hB hle hl ?_
 intro v1 w1 hr hb hgr _
 have row : ∀ i, i ≠ 0 → ∀ k, vA.ownBlock = some k → f k ≠ i := fun i hi k hk e => hi (e.symm.trans (h0.1 k hk))
 exact k v1 w1 ⟨hb, Yb hC hgr (Kd.R_ne h0 hC hT.a), Yb hZ hgr (Kd.R_ne h0 hZ hT.a), hg, upT f W.heap.size 0, hr, Zy h1 hgr (row 1 (by decide)) (fun k hk e => (Zu hk).trans e), Zy h2 hgr (row 2 (by decide)) (fun k hk e => (Zu hk).trans e), Zy h3 hgr (row 3 (by decide)) (fun k hk e => (Zu hk).trans e), Yc h4 hgr (row 4 (by decide)) (fun k hk e => (Zu hk).trans e), Zy h5 hgr (row 5 (by decide)) (fun k hk e => (Zu hk).trans e), Yc h6 hgr (row 6 (by decide)) (fun k hk e => (Zu hk).trans e), Yc h7 hgr (row 7 (by decide)) (fun k hk e => (Zu hk).trans e)⟩ (fun j cs2 e2 hj he => Yb hj hgr (Kd.R_ne h0 hj he))
theorem All.app_C (hT : Apart dP tA tP tC tL tI tR tK) (h : All dP tA tP tC tL tI tR tK w0 W gC gZ cC cZ vA vC vR vI vc vb vi vl LA LC LR LI lc lb li ll) (hw : Region.wanted o (yielded ops a.tmps) = true) (s x : Operand) (t : TypeId)
  (ho : o.op = .call { callee := .builtin .append, args := #[s, x], argTypes := #[t, t] }) (ht : P.underlying t = some (.slice tC)) (hinfo : (P.info? tC).map (fun i => (i.zero, i.size, i.bytes)) = some (some (.slice none 0 0), 1, 24))
  (hs : a.eval s = vC) (g : Nat) (hx : a.eval x = .slice (some ⟨g, 0, none⟩) 1 1) (hgv : W.heap[g]? = some (.cells [vc].toArray tC (0, 0))) (hl : (LC.length + 1) * 24 ≤ 140737488355328)
  (k : ∀ v1 w1, All dP tA tP tC tL tI tR tK w0 w1 gC gZ cC cZ vA v1 vR vI (.slice none 0 0) vb vi vl LA (LC ++ [lc]) LR LI [] lb li ll → (∀ (j : Nat) (cs2 : Array Value) (e2 : TypeId), W.heap[j]? = some (.cells cs2 e2 (0, 0)) → tC ≠ e2 → w1.heap[j]? = some (.cells cs2 e2 (0, 0))) → Kc (a.put o.dst v1) w1) :
  if Region.wanted o (yielded ops a.tmps) = true then Oper.wp P o a W Kc Q else Kc (a.put o.dst undef) W := by
 have hle := h.le
 obtain ⟨hB, hC, hZ, hg, f, h0, h1, h2, h3, h4, h5, h6, h7⟩ := h
 refine S_append_at (Kd.slice tP dP) (w0 := w0) w0.heap.size hw s x t tC (.slice none 0 0) 24 ho ht hinfo rfl (by show 0 < 1; decide) (by decide) vC LC lc [vc] (tg (mvT f W.heap.size 4 1) 1) (fun k => f k = 4 ∧ k < W.heap.size) g hs hx hgv ⟨vc, rfl, R_tag_in h4⟩ (fun k hk => ⟨mvT_i hk.2 hk.1, fun e => by have h9 : f k = 1 := (Kd.S_R h1).1 k e.symm; have := hk.1; omega⟩) (fun k hk => mvT_ge hk) (Kd.S_mono (S_tag_in h1) (fun k hk => ⟨(mvT_o hk.2 (by rw [hk.1]; decide)).trans hk.1, fun h9 => by have := hk.1; have := h9.1; omega⟩)) hB hle hl ?_
 intro v1 w1 hr hb hgr _
 have row : ∀ i, i ≠ 1 → ∀ k, vC.ownBlock = some k → f k ≠ i := fun i hi k hk e => hi (e.symm.trans ((Kd.S_R h1).1 k hk))
 exact k v1 w1 ⟨hb, Yb hC hgr (Kd.S_ne h1 hC hT.c), Yb hZ hgr (Kd.S_ne h1 hZ hT.c), hg, mvT f W.heap.size 4 1, Yc h0 hgr (row 0 (by decide)) (Yi (by decide)), hr, Zy h2 hgr (row 2 (by decide)) (Yi (by decide)), Zy h3 hgr (row 3 (by decide)) (Yi (by decide)), Kd.R_nil _ _ _ _ _, Zy h5 hgr (row 5 (by decide)) (Yi (by decide)), Yc h6 hgr (row 6 (by decide)) (Yi (by decide)), Yc h7 hgr (row 7 (by decide)) (Yi (by decide))⟩ (fun j cs2 e2 hj he => Yb hj hgr (Kd.S_ne h1 hj he))
theorem All.app_R (hT : Apart dP tA tP tC tL tI tR tK) (h : All dP tA tP tC tL tI tR tK w0 W gC gZ cC cZ vA vC vR vI vc vb vi vl LA LC LR LI lc lb li ll) (hw : Region.wanted o (yielded ops a.tmps) = true) (s x : Operand) (t : TypeId)
  (ho : o.op = .call { callee := .builtin .append, args := #[s, x], argTypes := #[t, t] }) (ht : P.underlying t = some (.slice tR)) (hinfo : (P.info? tR).map (fun i => (i.zero, i.size, i.bytes)) = some (some (.slice none 0 0), 1, 24))
  (hs : a.eval s = vR) (g : Nat) (hx : a.eval x = .slice (some ⟨g, 0, none⟩) 1 1) (hgv : W.heap[g]? = some (.cells [vb].toArray tR (0, 0))) (hl : (LR.length + 1) * 24 ≤ 140737488355328)
  (k : ∀ v1 w1, All dP tA tP tC tL tI tR tK w0 w1 gC gZ cC cZ vA vC v1 vI vc (.slice none 0 0) vi vl LA LC (LR ++ [lb]) LI lc [] li ll → (∀ (j : Nat) (cs2 : Array Value) (e2 : TypeId), W.heap[j]? = some (.cells cs2 e2 (0, 0)) → tR ≠ e2 → w1.heap[j]? = some (.cells cs2 e2 (0, 0))) → Kc (a.put o.dst v1) w1) :
  if Region.wanted o (yielded ops a.tmps) = true then Oper.wp P o a W Kc Q else Kc (a.put o.dst undef) W := by
 have hle := h.le
 obtain ⟨hB, hC, hZ, hg, f, h0, h1, h2, h3, h4, h5, h6, h7⟩ := h
 refine S_append_at (sliceS tI (Kd.slice tL (Kd.int .i64))) (w0 := w0) w0.heap.size hw s x t tR (.slice none 0 0) 24 ho ht hinfo rfl (by show 0 < 1; decide) (by decide) vR LR lb [vb] (tg (mvT f W.heap.size 5 2) 2) (fun k => f k = 5 ∧ k < W.heap.size) g hs hx hgv ⟨vb, rfl, S_tag_in h5⟩ (fun k hk => ⟨mvT_i hk.2 hk.1, fun e => by have h9 : f k = 2 := (Kd.S_R h2).1 k e.symm; have := hk.1; omega⟩) (fun k hk => mvT_ge hk) (Kd.S_mono (S_tag_in h2) (fun k hk => ⟨(mvT_o hk.2 (by rw [hk.1]; decide)).trans hk.1, fun h9 => by have := hk.1; have := h9.1; omega⟩)) hB hle hl ?_
 intro v1 w1 hr hb hgr _
 have row : ∀ i, i ≠ 2 → ∀ k, vR.ownBlock = some k → f k ≠ i := fun i hi k hk e => hi (e.symm.trans ((Kd.S_R h2).1 k hk))
 exact k v1 w1 ⟨hb, Yb hC hgr (Kd.S_ne h2 hC hT.r), Yb hZ hgr (Kd.S_ne h2 hZ hT.r), hg, mvT f W.heap.size 5 2, Yc h0 hgr (row 0 (by decide)) (Yi (by decide)), Zy h1 hgr (row 1 (by decide)) (Yi (by decide)), hr, Zy h3 hgr (row 3 (by decide)) (Yi (by decide)), Yc h4 hgr (row 4 (by decide)) (Yi (by decide)), Kd.S_nil _ _ _ _ _, Yc h6 hgr (row 6 (by decide)) (Yi (by decide)), Yc h7 hgr (row 7 (by decide)) (Yi (by decide))⟩ (fun j cs2 e2 hj he => Yb hj hgr (Kd.S_ne h2 hj he))
theorem All.app_I (hT : Apart dP tA tP tC tL tI tR tK) (h : All dP tA tP tC tL tI tR tK w0 W gC gZ cC cZ vA vC vR vI vc vb vi vl LA LC LR LI lc lb li ll) (hw : Region.wanted o (yielded ops a.tmps) = true) (s x : Operand) (t : TypeId)
  (ho : o.op = .call { callee := .builtin .append, args := #[s, x], argTypes := #[t, t] }) (ht : P.underlying t = some (.slice tI)) (hinfo : (P.info? tI).map (fun i => (i.zero, i.size, i.bytes)) = some (some (.slice none 0 0), 1, 24))
  (hs : a.eval s = vI) (g : Nat) (hx : a.eval x = .slice (some ⟨g, 0, none⟩) 1 1) (hgv : W.heap[g]? = some (.cells [vi].toArray tI (0, 0))) (hl : (LI.length + 1) * 24 ≤ 140737488355328)
  (k : ∀ v1 w1, All dP tA tP tC tL tI tR tK w0 w1 gC gZ cC cZ vA vC vR v1 vc vb (.slice none 0 0) vl LA LC LR (LI ++ [li]) lc lb [] ll → (∀ (j : Nat) (cs2 : Array Value) (e2 : TypeId), W.heap[j]? = some (.cells cs2 e2 (0, 0)) → tI ≠ e2 → w1.heap[j]? = some (.cells cs2 e2 (0, 0))) → Kc (a.put o.dst v1) w1) :
  if Region.wanted o (yielded ops a.tmps) = true then Oper.wp P o a W Kc Q else Kc (a.put o.dst undef) W := by
 have hle := h.le
 obtain ⟨hB, hC, hZ, hg, f, h0, h1, h2, h3, h4, h5, h6, h7⟩ := h
 refine S_append_at (Kd.slice tL (Kd.int .i64)) (w0 := w0) w0.heap.size hw s x t tI (.slice none 0 0) 24 ho ht hinfo rfl (by show 0 < 1; decide) (by decide) vI LI li [vi] (tg (mvT f W.heap.size 6 3) 3) (fun k => f k = 6 ∧ k < W.heap.size) g hs hx hgv ⟨vi, rfl, R_tag_in h6⟩ (fun k hk => ⟨mvT_i hk.2 hk.1, fun e => by have h9 : f k = 3 := (Kd.S_R h3).1 k e.symm; have := hk.1; omega⟩) (fun k hk => mvT_ge hk) (Kd.S_mono (S_tag_in h3) (fun k hk => ⟨(mvT_o hk.2 (by rw [hk.1]; decide)).trans hk.1, fun h9 => by have := hk.1; have := h9.1; omega⟩)) hB hle hl ?_
 intro v1 w1 hr hb hgr _
 have row : ∀ i, i ≠ 3 → ∀ k, vI.ownBlock = some k → f k ≠ i := fun i hi k hk e => hi (e.symm.trans ((Kd.S_R h3).1 k hk))
 exact k v1 w1 ⟨hb, Yb hC hgr (Kd.S_ne h3 hC hT.i), Yb hZ hgr (Kd.S_ne h3 hZ hT.i), hg, mvT f W.heap.size 6 3, Yc h0 hgr (row 0 (by decide)) (Yi (by decide)), Zy h1 hgr (row 1 (by decide)) (Yi (by decide)), Zy h2 hgr (row 2 (by decide)) (Yi (by decide)), hr, Yc h4 hgr (row 4 (by decide)) (Yi (by decide)), Zy h5 hgr (row 5 (by decide)) (Yi (by decide)), Kd.R_nil _ _ _ _ _, Yc h7 hgr (row 7 (by decide)) (Yi (by decide))⟩ (fun j cs2 e2 hj he => Yb hj hgr (Kd.S_ne h3 hj he))
theorem All.lit_c (hT : Apart dP tA tP tC tL tI tR tK) (h : All dP tA tP tC tL tI tR tK w0 W gC gZ cC cZ vA vC vR vI (.slice none 0 0) vb vi vl LA LC LR LI [] lb li ll) (hgd : o.guard = none) {N : Tmp} (hd : o.dst = some N)
  (hrun : (execOp a.eval o).run P W = .ok (.value (.slice (some ⟨W.heap.size, 0, none⟩) 0 0)) (W.alloc (.cells #[] tP)))
  (k : ∀ v1 w1, All dP tA tP tC tL tI tR tK w0 w1 gC gZ cC cZ vA vC vR vI v1 vb vi vl LA LC LR LI [] lb li ll → wpList P ops Q rest (a.put o.dst v1) w1) : wpList P ops Q (o :: rest) a W := by
 have hle := h.le
 obtain ⟨hB, hC, hZ, hg, f, h0, h1, h2, h3, h4, h5, h6, h7⟩ := h
 refine Kd.R_lit dP (w0 := w0) w0.heap.size tP hgd hd (xs := []) (inner := []) (ok := tg (upT f W.heap.size 4) 4) (okp := fun _ => False) hrun (Reps.none _ _) (fun _ hk => hk.elim) (upT_ge (Nat.le_refl _)) hB hle (by simp) ?_
 intro v1 w1 hr hb hgr _
 have no : ∀ i k, (none : Option Nat) = some k → f k ≠ i := fun _ _ e => by cases e
 exact k v1 w1 ⟨hb, Yb hC hgr (by simp), Yb hZ hgr (by simp), hg, upT f W.heap.size 4, Yc h0 hgr (no 0) (fun k hk e => (Zu hk).trans e), Zy h1 hgr (no 1) (fun k hk e => (Zu hk).trans e), Zy h2 hgr (no 2) (fun k hk e => (Zu hk).trans e), Zy h3 hgr (no 3) (fun k hk e => (Zu hk).trans e), hr, Zy h5 hgr (no 5) (fun k hk e => (Zu hk).trans e), Yc h6 hgr (no 6) (fun k hk e => (Zu hk).trans e), Yc h7 hgr (no 7) (fun k hk e => (Zu hk).trans e)⟩
theorem All.lit_b (hT : Apart dP tA tP tC tL tI tR tK) (h : All dP tA tP tC tL tI tR tK w0 W gC gZ cC cZ vA vC vR vI vc (.slice none 0 0) vi vl LA LC LR LI lc [] li ll) (hgd : o.guard = none) {N : Tmp} (hd : o.dst = some N)
  (hrun : (execOp a.eval o).run P W = .ok (.value (.slice (some ⟨W.heap.size, 0, none⟩) 0 0)) (W.alloc (.cells #[] tI)))
  (k : ∀ v1 w1, All dP tA tP tC tL tI tR tK w0 w1 gC gZ cC cZ vA vC vR vI vc v1 vi vl LA LC LR LI lc [] li ll → wpList P ops Q rest (a.put o.dst v1) w1) : wpList P ops Q (o :: rest) a W := by
 have hle := h.le
 obtain ⟨hB, hC, hZ, hg, f, h0, h1, h2, h3, h4, h5, h6, h7⟩ := h
 refine Kd.S_lit (Kd.slice tL (Kd.int .i64)) (w0 := w0) w0.heap.size tI hgd hd (xs := []) (inner := []) (ok := tg (upT f W.heap.size 5) 5) (okp := fun _ => False) hrun (Reps.none _ _) (fun _ hk => hk.elim) (upT_ge (Nat.le_refl _)) hB hle (by simp) ?_
 intro v1 w1 hr hb hgr _
 have no : ∀ i k, (none : Option Nat) = some k → f k ≠ i := fun _ _ e => by cases e
 exact k v1 w1 ⟨hb, Yb hC hgr (by simp), Yb hZ hgr (by simp), hg, upT f W.heap.size 5, Yc h0 hgr (no 0) (fun k hk e => (Zu hk).trans e), Zy h1 hgr (no 1) (fun k hk e => (Zu hk).trans e), Zy h2 hgr (no 2) (fun k hk e => (Zu hk).trans e), Zy h3 hgr (no 3) (fun k hk e => (Zu hk).trans e), Yc h4 hgr (no 4) (fun k hk e => (Zu hk).trans e), hr, Yc h6 hgr (no 6) (fun k hk e => (Zu hk).trans e), Yc h7 hgr (no 7) (fun k hk e => (Zu hk).trans e)⟩
theorem All.lit_i (hT : Apart dP tA tP tC tL tI tR tK) (h : All dP tA tP tC tL tI tR tK w0 W gC gZ cC cZ vA vC vR vI vc vb (.slice none 0 0) vl LA LC LR LI lc lb [] ll) (hgd : o.guard = none) {N : Tmp} (hd : o.dst = some N)
  (hrun : (execOp a.eval o).run P W = .ok (.value (.slice (some ⟨W.heap.size, 0, none⟩) 0 0)) (W.alloc (.cells #[] tL)))
  (k : ∀ v1 w1, All dP tA tP tC tL tI tR tK w0 w1 gC gZ cC cZ vA vC vR vI vc vb v1 vl LA LC LR LI lc lb [] ll → wpList P ops Q rest (a.put o.dst v1) w1) : wpList P ops Q (o :: rest) a W := by
 have hle := h.le
 obtain ⟨hB, hC, hZ, hg, f, h0, h1, h2, h3, h4, h5, h6, h7⟩ := h
 refine Kd.R_lit (Kd.int .i64) (w0 := w0) w0.heap.size tL hgd hd (xs := []) (inner := []) (ok := tg (upT f W.heap.size 6) 6) (okp := fun _ => False) hrun (Reps.none _ _) (fun _ hk => hk.elim) (upT_ge (Nat.le_refl _)) hB hle (by simp) ?_
 intro v1 w1 hr hb hgr _
 have no : ∀ i k, (none : Option Nat) = some k → f k ≠ i := fun _ _ e => by cases e
 exact k v1 w1 ⟨hb, Yb hC hgr (by simp), Yb hZ hgr (by simp), hg, upT f W.heap.size 6, Yc h0 hgr (no 0) (fun k hk e => (Zu hk).trans e), Zy h1 hgr (no 1) (fun k hk e => (Zu hk).trans e), Zy h2 hgr (no 2) (fun k hk e => (Zu hk).trans e), Zy h3 hgr (no 3) (fun k hk e => (Zu hk).trans e), Yc h4 hgr (no 4) (fun k hk e => (Zu hk).trans e), Zy h5 hgr (no 5) (fun k hk e => (Zu hk).trans e), hr, Yc h7 hgr (no 7) (fun k hk e => (Zu hk).trans e)⟩
theorem All.lit_l (hT : Apart dP tA tP tC tL tI tR tK) (h : All dP tA tP tC tL tI tR tK w0 W gC gZ cC cZ vA vC vR vI vc vb vi (.slice none 0 0) LA LC LR LI lc lb li []) (hgd : o.guard = none) {N : Tmp} (hd : o.dst = some N)
  (hrun : (execOp a.eval o).run P W = .ok (.value (.slice (some ⟨W.heap.size, 0, none⟩) 0 0)) (W.alloc (.cells #[] tL)))
  (k : ∀ v1 w1, All dP tA tP tC tL tI tR tK w0 w1 gC gZ cC cZ vA vC vR vI vc vb vi v1 LA LC LR LI lc lb li [] → wpList P ops Q rest (a.put o.dst v1) w1) : wpList P ops Q (o :: rest) a W := by
 have hle := h.le
 obtain ⟨hB, hC, hZ, hg, f, h0, h1, h2, h3, h4, h5, h6, h7⟩ := h
 refine Kd.R_lit (Kd.int .i64) (w0 := w0) w0.heap.size tL hgd hd (xs := []) (inner := []) (ok := tg (upT f W.heap.size 7) 7) (okp := fun _ => False) hrun (Reps.none _ _) (fun _ hk => hk.elim) (upT_ge (Nat.le_refl _)) hB hle (by simp) ?_
 intro v1 w1 hr hb hgr _
 have no : ∀ i k, (none : Option Nat) = some k → f k ≠ i := fun _ _ e => by cases e
 exact k v1 w1 ⟨hb, Yb hC hgr (by simp), Yb hZ hgr (by simp), hg, upT f W.heap.size 7, Yc h0 hgr (no 0) (fun k hk e => (Zu hk).trans e), Zy h1 hgr (no 1) (fun k hk e => (Zu hk).trans e), Zy h2 hgr (no 2) (fun k hk e => (Zu hk).trans e), Zy h3 hgr (no 3) (fun k hk e => (Zu hk).trans e), Yc h4 hgr (no 4) (fun k hk e => (Zu hk).trans e), Zy h5 hgr (no 5) (fun k hk e => (Zu hk).trans e), Yc h6 hgr (no 6) (fun k hk e => (Zu hk).trans e), hr⟩
end
end Go.Proofs.Ytepkfigcnnfoaaa.Deep
namespace Go.Proofs.Ytepkfigcnnfoaaa.P
open Go.RowKit Go.Proofs.YtepkfigcnnfoaaaW.PrintWords Go.Proofs.YtepkfigcnnfoaaaW.PrintLast Go.Proofs.YtepkfigcnnfoaaaW.PrintMore Go.Proofs.Ytepkfigcnnfoaaa.Deep
theorem bi4 : (Try.prog.info? 4).map (fun i => (i.zero, i.size, i.bytes)) = some (some (.bool false), 1, 1) := by kernel_rfl
theorem bi2 : (Try.prog.info? 2).map (fun i => (i.zero, i.size, i.bytes)) = some (some (.int .i64 0), 1, 8) := by kernel_rfl
theorem bi47 : (Try.prog.info? 47).map (fun i => (i.zero, i.size, i.bytes)) = some (some (.agg #[.int .i64 0, .int .i64 0]), 2, 16) := by kernel_rfl
theorem bi48 : (Try.prog.info? 48).map (fun i => (i.zero, i.size, i.bytes)) = some (some (.slice none 0 0), 1, 24) := by kernel_rfl
theorem bi49 : (Try.prog.info? 49).map (fun i => (i.zero, i.size, i.bytes)) = some (some (.slice none 0 0), 1, 24) := by kernel_rfl
theorem bi25 : (Try.prog.info? 25).map (fun i => (i.zero, i.size, i.bytes)) = some (some (.slice none 0 0), 1, 24) := by kernel_rfl
theorem bap : Apart k47 4 47 48 2 49 25 27 := ⟨rfl, by decide, by decide, by decide, by decide, by decide, by decide⟩
abbrev AllB := All k47 4 47 48 2 49 25 27
def rowL (m : Nat) (back : Nat → Int) : List Int := (List.range (m + 1)).map back
def cellsC (m : Nat) (st : Int) (vA vC vR vI : Value) : Array Value := #[.int .i64 (m : Int), .int .i64 st, vA, vC, vR, vI]
abbrev nilV : Value := .slice none 0 0
theorem bw (x : Int) (h0 : -9223372036854775808 ≤ x) (h1 : x ≤ 9223372036854775807) : wrap64 x = x := by unfold wrap64; omega
section
variable {ops : Array Oper} {rest : List Oper} {o : Oper} {a : Act} {Q : Exit → Act → World → Prop} {W : World}
theorem size27 : (Try.prog.info? 27).map (·.size) = some 6 := by kernel_rfl
theorem load27 (hgd : o.guard = none) (p : Tmp) (ho : o.op = .load 27 (.tmp p)) {g : Nat} {cs : Array Value} (hx : a.eval (.tmp p) = .pointer (some ⟨g, 0, none⟩)) (hb : W.heap[g]? = some (.cells cs 27 (0, 0))) (hs : cs.size = 6)
  (h : wpList Try.prog ops Q rest (a.put o.dst (.agg cs)) W) : wpList Try.prog ops Q (o :: rest) a W := by
 refine wpList_plain hgd fun K hK => wp_load_row 27 _ ho g hx 27 cs (0, 0) _ hb Try.underlying27 rfl (by rw [size27, hs]) ?_
 exact hK _ _ h
theorem store27 (hgd : o.guard = none) (p v : Tmp) (ho : o.op = .store 27 (.tmp p) (.tmp v)) {g : Nat} {old cs : Array Value} (hx : a.eval (.tmp p) = .pointer (some ⟨g, 0, none⟩)) (hy : a.eval (.tmp v) = .agg cs) (hb : W.heap[g]? = some (.cells old 27 (0, 0)))
  (hs : cs.size = 6) (hs0 : old.size = 6) (h1 : cs.all (·.oneCell') = true)
  (h : ∀ w', w'.heap[g]? = some (.cells cs 27 (0, 0)) → (∀ B w0, Below B w0 W → B ≤ g → Below B w0 w') → (∀ k, k ≠ g → w'.heap[k]? = W.heap[k]?) → wpList Try.prog ops Q rest (a.put o.dst undef) w') : wpList Try.prog ops Q (o :: rest) a W := by
 refine wpList_plain hgd fun K hK => wp_store_row 27 _ _ ho g cs hx hy 27 old hb (by rw [size27, hs]) (by omega) h1 ?_
 exact hK _ _ (h _ (setRow_heap _ _ _ _ _ _ hb) (fun B w0 hB hle => hB.trans ⟨rfl, rfl, rfl, by simp, fun k hk => setRow_other _ _ _ _ (by omega)⟩) (fun k hk => setRow_other _ _ _ _ hk))
end
def cZ : Array Value := #[.int .i64 0, .int .i64 0, .slice none 0 0, .slice none 0 0, .slice none 0 0, .slice none 0 0]
theorem cellsC_one (m : Nat) (st : Int) {vA vC vR vI : Value} (h0 : vA.oneCell' = true) (h1 : vC.oneCell' = true) (h2 : vR.oneCell' = true) (h3 : vI.oneCell' = true) : (cellsC m st vA vC vR vI).all (·.oneCell') = true := by
 rw [Array.all_eq_true_iff_forall_mem]
 intro x hx
 unfold cellsC at hx
 rw [List.mem_toArray] at hx
 rcases List.mem_cons.1 hx with rfl | hx
 ·rfl
 rcases List.mem_cons.1 hx with rfl | hx
 ·rfl
 rcases List.mem_cons.1 hx with rfl | hx
 ·exact h0
 rcases List.mem_cons.1 hx with rfl | hx
 ·exact h1
 rcases List.mem_cons.1 hx with rfl | hx
 ·exact h2
 rw [List.mem_singleton.1 hx]
 exact h3
theorem shapeR {α : Type} {d : Kd α} {e : TypeId} {w : World} {B : Nat} {ok : Nat → Prop} {v : Value} {xs : List α} (h : d.R e w B ok v xs) : ∃ A n c, v = .slice A n c := by
 obtain ⟨A, c, rfl, _, _⟩ := Kd.R_reads h
 exact ⟨_, _, _, rfl⟩
theorem shapeS {α : Type} {d : Kd α} {e : TypeId} {w : World} {B : Nat} {ok : Nat → Prop} {v : Value} {xs : List α} (h : Kd.S d e w B ok v xs) : ∃ A n c, v = .slice A n c := shapeR (Kd.S_R h)
theorem shapes {w w' : World} {gC gZ : Nat} {cC cZ : Array Value} {vA vC vR vI vc vb vi vl : Value} {LA : List Bool} {LC : List (List S47)} {LR : List (List (List Int))} {LI : List (List Int)} {lc : List S47} {lb : List (List Int)} {li ll : List Int} (h : AllB w w' gC gZ cC cZ vA vC vR vI vc vb vi vl LA LC LR LI lc lb li ll) : (∃ A n c, vl = .slice A n c) ∧ (∃ A n c, vc = .slice A n c) ∧ (∃ A n c, vb = .slice A n c) ∧ (∃ A n c, vi = .slice A n c) ∧ (∃ A n c, vA = .slice A n c) ∧ (∃ A n c, vC = .slice A n c) ∧ (∃ A n c, vR = .slice A n c) ∧ (∃ A n c, vI = .slice A n c) := by
 obtain ⟨_, _, _, _, f, h0, h1, h2, h3, h4, h5, h6, h7⟩ := h
 exact ⟨shapeR h7, shapeR h4, shapeS h5, shapeR h6, shapeR h0, shapeS h1, shapeS h2, shapeS h3⟩
theorem cells_one {m : Nat} {st : Int} {w w' : World} {gC gZ : Nat} {cC cZ : Array Value} {vA vC vR vI vc vb vi vl : Value} {LA : List Bool} {LC : List (List S47)} {LR : List (List (List Int))} {LI : List (List Int)} {lc : List S47} {lb : List (List Int)} {li ll : List Int} (h : AllB w w' gC gZ cC cZ vA vC vR vI vc vb vi vl LA LC LR LI lc lb li ll) : (cellsC m st vA vC vR vI).all (·.oneCell') = true := by
 obtain ⟨_, _, _, _, ⟨_, _, _, rfl⟩, ⟨_, _, _, rfl⟩, ⟨_, _, _, rfl⟩, ⟨_, _, _, rfl⟩⟩ := shapes h
 exact cellsC_one m st rfl rfl rfl rfl
def LAs (acc : Nat → Bool) (s : Nat) : List Bool := (List.range s).map acc
def LCs (call : Nat → Nat → S47) (s : Nat) : List (List S47) := (List.range s).map fun q => [call q 0, call q 1]
def LRs (m : Nat) (back : Nat → Nat → Nat → Int) (s : Nat) : List (List (List Int)) := (List.range s).map fun q => [rowL m (back q 0), rowL m (back q 1)]
def LIs (inner : Nat → Nat → Int) (s : Nat) : List (List Int) := (List.range s).map fun q => [inner q 0, inner q 1]
theorem LAs_succ (acc : Nat → Bool) (s : Nat) : LAs acc (s + 1) = LAs acc s ++ [acc s] := by simp [LAs, List.range_succ]
theorem LCs_succ (call : Nat → Nat → S47) (s : Nat) : LCs call (s + 1) = LCs call s ++ [(List.range 2).map (call s)] := by simp [LCs, List.range_succ]
theorem LRs_succ (m : Nat) (back : Nat → Nat → Nat → Int) (s : Nat) : LRs m back (s + 1) = LRs m back s ++ [(List.range 2).map (fun k => rowL m (back s k))] := by simp [LRs, List.range_succ]
theorem LIs_succ (inner : Nat → Nat → Int) (s : Nat) : LIs inner (s + 1) = LIs inner s ++ [(List.range 2).map (inner s)] := by simp [LIs, List.range_succ]
theorem map_succ {α : Type} (f : Nat → α) (k : Nat) : (List.range (k + 1)).map f = (List.range k).map f ++ [f k] := by simp [List.range_succ]
def built.T17 : Bool × List (List Nat × List Nat) := (true, [([], []), ([0], [0]), ([], []), ([], []), ([2, 3], [2, 3]), ([4], [4]), ([1, 5, 4], [1, 5]), ([], []), ([7], [7]), ([], []), ([9], [9]), ([8, 10, 6], [8, 10]), ([], []), ([12], [12]), ([], []), ([14], [14]), ([13, 15, 11], [13, 15]), ([], []), ([17], [17]), ([], []), ([19], [19]), ([18, 20, 16], [18, 20]), ([0, 1, 2, 3, 4, 5, 6, 7, 8, 12, 13, 17, 18], []), ([22, 6, 21, 0, 1, 2, 3, 4, 5, 6, 7, 8, 12, 13, 17, 18], [6, 22]), ([0, 1, 2, 3, 4, 5, 6, 7, 8, 9, 10, 11, 12, 13, 17, 18, 22, 23], []), ([24, 11, 23, 0, 1, 2, 3, 4, 5, 6, 7, 8, 9, 10, 11, 12, 13, 17, 18, 22, 23], [11, 24]), ([0, 1, 2, 3, 4, 5, 6, 7, 8, 9, 10, 11, 12, 13, 14, 15, 16, 17, 18, 22, 23, 24, 25], []), ([26, 16, 25, 0, 1, 2, 3, 4, 5, 6, 7, 8, 9, 10, 11, 12, 13, 14, 15, 16, 17, 18, 22, 23, 24, 25], [16, 26]), ([0, 1, 2, 3, 4, 5, 6, 7, 8, 9, 10, 11, 12, 13, 14, 15, 16, 17, 18, 19, 20, 21, 22, 23, 24, 25, 26, 27], []), ([28, 21, 27, 0, 1, 2, 3, 4, 5, 6, 7, 8, 9, 10, 11, 12, 13, 14, 15, 16, 17, 18, 19, 20, 21, 22, 23, 24, 25, 26, 27], [21, 28])])
def built.B17 : List Nat := [0, 1, 0, 0, 12, 28, 63, 0, 128, 0, 512, 2047, 0, 4096, 0, 16384, 65535, 0, 131072, 0, 524288, 2097151, 406015, 8388607, 16777215, 33554431, 67108863, 134217727, 268435455, 536870911]
theorem built.tab17 : rtab .any (opsOf Try.f29 17) = built.T17 := by kernel_rfl
theorem built.bits17 : waitsOk built.T17.2 built.B17 = true := by kernel_rfl
def OwnC (w : World) (B : Nat) (vA vC vR vI : Value) (LA : List Bool) (LC : List (List S47)) (LR : List (List (List Int))) (LI : List (List Int)) : Prop :=
 ∃ f : Nat → Nat, Kd.bool.R 4 w B (tg f 0) vA LA ∧ Kd.S (Kd.slice 47 k47) 48 w B (tg f 1) vC LC ∧ Kd.S (sliceS 49 (Kd.slice 2 (Kd.int .i64))) 25 w B (tg f 2) vR LR ∧ Kd.S (Kd.slice 2 (Kd.int .i64)) 49 w B (tg f 3) vI LI
theorem own_out {w w' : World} {gC gZ : Nat} {cC cZ : Array Value} {vA vC vR vI vc vb vi vl : Value} {LA : List Bool} {LC : List (List S47)} {LR : List (List (List Int))} {LI : List (List Int)} {lc : List S47} {lb : List (List Int)} {li ll : List Int} (h : AllB w w' gC gZ cC cZ vA vC vR vI vc vb vi vl LA LC LR LI lc lb li ll) {w9 : World} (hfar : ∀ k, k ≠ gZ → w9.heap[k]? = w'.heap[k]?) : OwnC w9 w.heap.size vA vC vR vI LA LC LR LI := by
 obtain ⟨_, _, hZ, _, f, h0, h1, h2, h3, _⟩ := h
 exact ⟨f, Kd.R_mono (Kd.R_step (Kd.R_types h0 hZ (by decide)) (fun k hk _ => hfar k hk.2)) (fun _ hk => hk.1), Kd.S_mono (Kd.S_step (Kd.S_types h1 hZ (by decide)) (fun k hk _ => hfar k hk.2)) (fun _ hk => hk.1), Kd.S_mono (Kd.S_step (Kd.S_types h2 hZ (by decide)) (fun k hk _ => hfar k hk.2)) (fun _ hk => hk.1), Kd.S_mono (Kd.S_step (Kd.S_types h3 hZ (by decide)) (fun k hk _ => hfar k hk.2)) (fun _ hk => hk.1)⟩
section
variable (n m : Nat) (st : Int) (w : World) (hn : n ≤ 2000) (hm : m ≤ 7000)
 (acc : Nat → Bool) (call : Nat → Nat → S47) (back : Nat → Nat → Nat → Int) (inner : Nat → Nat → Int)
 (ga gc gr gi : FuncId) (Fa Fc Fr Fi : Func) (ca cc cr ci : Array Value)
 (ha : Try.prog.funcs[ga]? = some Fa) (han : (Fa.name == "runtime.NumGoroutine") = false) (hab : Fa.body.isSome = true)
 (hc : Try.prog.funcs[gc]? = some Fc) (hcn : (Fc.name == "runtime.NumGoroutine") = false) (hcb : Fc.body.isSome = true)
 (hr : Try.prog.funcs[gr]? = some Fr) (hrn : (Fr.name == "runtime.NumGoroutine") = false) (hrb : Fr.body.isSome = true)
 (hi : Try.prog.funcs[gi]? = some Fi) (hin : (Fi.name == "runtime.NumGoroutine") = false) (hib : Fi.body.isSome = true)
 (HA : ∀ (s : Nat) (W : World), s < n → Below w.heap.size w W → Calls Try.prog ga (#[.int .i64 (s : Int)] ++ ca) W fun e W' => e = .returned (.bool (acc s)) ∧ Below W.heap.size W W')
 (HC : ∀ (s k : Nat) (W : World), s < n → k < 2 → Below w.heap.size w W → Calls Try.prog gc (#[.int .i64 (s : Int), .int .i64 (k : Int)] ++ cc) W fun e W' => e = .returned (.agg #[.int .i64 (call s k).f0, .int .i64 (call s k).f1]) ∧ Below W.heap.size W W')
 (HR : ∀ (s k x : Nat) (W : World), s < n → k < 2 → x < m + 1 → Below w.heap.size w W → Calls Try.prog gr (#[.int .i64 (s : Int), .int .i64 (k : Int), .int .i64 (x : Int)] ++ cr) W fun e W' => e = .returned (.int .i64 (back s k x)) ∧ Below W.heap.size W W')
 (HI : ∀ (s k : Nat) (W : World), s < n → k < 2 → Below w.heap.size w W → Calls Try.prog gi (#[.int .i64 (s : Int), .int .i64 (k : Int)] ++ ci) W fun e W' => e = .returned (.int .i64 (inner s k)) ∧ Below W.heap.size W W')
include hn hm ha han hab hc hcn hcb hr hrn hrb hi hin hib HA HC HR HI
theorem built_walk : Calls Try.prog 29 #[.int .i64 (n : Int), .int .i64 (m : Int), .int .i64 st, .func (.func ga) #[] ca, .func (.func gc) #[] cc, .func (.func gr) #[] cr, .func (.func gi) #[] ci] w fun e w' => ∃ vA vC vR vI : Value, e = .returned (.agg #[.int .i64 (m : Int), .int .i64 st, vA, vC, vR, vI]) ∧ OwnC w' w.heap.size vA vC vR vI (LAs acc n) (LCs call n) (LRs m back n) (LIs inner n) ∧ Below w.heap.size w w' := by
 have hu27 := Try.underlying27
 have HB := AZ.mk (Below.refl w.heap.size w)
 have HN := AZ.mk hn
 have HM := AZ.mk hm
 have PA := AZ.mk HA
 have PC := AZ.mk HC
 have PR := AZ.mk HR
 have PI := AZ.mk HI
 have Qa := AZ.mk ha
 have Qc := AZ.mk hc
 have Qr := AZ.mk hr
 have Qi := AZ.mk hi
 have Qan := AZ.mk han
 have Qcn := AZ.mk hcn
 have Qrn := AZ.mk hrn
 have Qin := AZ.mk hin
 have Qab := AZ.mk hab
 have Qcb := AZ.mk hcb
 have Qrb := AZ.mk hrb
 have Qib := AZ.mk hib
 clear hn hm HA HC HR HI ha hc hr hi han hcn hrn hin hab hcb hrb hib
 go_enter Try.func29, Try.ntmps29
 go_wp2_with (first | ((with_reducible refine Zc (N := 14) rfl ?_); refine Zh rfl (N := 14) rfl (cs := cZ) (t := 27) (by go_simp; try rfl) ?_; intro gZ hg w1 hbx hB; have BKZ := AZ.mk hbx; have HB1 := AZ.mk (pT HB.out hB); have GZ := AZ.mk (show w.heap.size ≤ gZ by rw [hg]; exact Nat.le_refl _); clear HB hbx hB hg; have HB := HB1; clear HB1) | ((with_reducible refine Zc (N := 15) rfl ?_); refine Zh rfl (N := 15) rfl (cs := cZ) (t := 27) (by go_simp; try rfl) ?_; intro gC hg w2 hbx hB; have BKC := AZ.mk hbx; have BK2 := AZ.mk (bb_ BKZ.out hB); have NE := AZ.mk (show gC ≠ gZ by rw [hg]; exact nG (Zv BKZ.out)); have GC := AZ.mk (show w.heap.size ≤ gC by rw [hg]; exact pZ HB.out); have HB1 := AZ.mk (pT HB.out hB); clear HB hbx hB hg BKZ; have HB := HB1; have BKZ := BK2; clear HB1 BK2) | ((with_reducible refine gate_ (.store 27 (.tmp 15) (.tmp 25)) rfl ?_); refine store27 rfl 15 25 rfl (g := gC) (old := cZ) (cs := cellsC m st nilV nilV nilV nilV) rfl rfl BKC.out rfl rfl (cellsC_one m st rfl rfl rfl rfl) ?_; intro w3 hbx hB hfar; have HO := AZ.mk (show AllB w w3 gC gZ (cellsC m st nilV nilV nilV nilV) cZ nilV nilV nilV nilV nilV nilV nilV nilV (LAs acc 0) (LCs call 0) (LRs m back 0) (LIs inner 0) [] [] [] [] from ⟨hB _ _ HB.out GC.out, hbx, (hfar _ (Ne.symm NE.out)).trans BKZ.out, ⟨GC.out, GZ.out, NE.out⟩, fun _ => 0, Kd.R_nil _ _ _ _ _, Kd.S_nil _ _ _ _ _, Kd.S_nil _ _ _ _ _, Kd.S_nil _ _ _ _ _, Kd.R_nil _ _ _ _ _, Kd.S_nil _ _ _ _ _, Kd.R_nil _ _ _ _ _, Kd.R_nil _ _ _ _ _⟩); clear HB BKC BKZ hbx hB hfar))
 go_loopg [27] (n + 1) (fun kq v27 w' => ∃ (s : Nat) (vA vC vR vI : Value), v27 = .int .i64 (s : Int) ∧ AZ (kq + s = n + 1) ∧ AZ (s ≤ n) ∧ AZ (AllB w w' gC gZ (cellsC m st vA vC vR vI) cZ vA vC vR vI nilV nilV nilV nilV (LAs acc s) (LCs call s) (LRs m back s) (LIs inner s) [] [] [] []))
 case atStart => exact ⟨0, nilV, nilV, nilV, nilV, rfl, ⟨rfl⟩, ⟨Nat.zero_le _⟩, HO⟩
 case round =>
  clear HO
  obtain ⟨s, vA, vC, vR, vI, rfl, HK0, HS, HO⟩ := hrel
  by_cases hlt : s < n
  ·have HL0 := AZ.mk hlt
   have c1 : decide ((s : Int) < (n : Int)) = true := dT (by omega)
   have c2 : decide (s < n) = true := dT hlt
   clear hlt
   obtain ⟨gk0, rfl⟩ : ∃ q, gk = q + 1 := ⟨gk - 1, by have := HK0.out; have := HL0.out; omega⟩
   go_wp2_with (first | ((with_reducible refine Zc (N := 30) rfl ?_); refine All.lit_c bap HO.out ?hg (N := 30) ?hd ?hr ?_; (case hd => rfl); (case hg => rfl); (case hr => first | (go_simp; done) | (go_simp; rfl)); intro v30 w30 ho; clear HO; have HO := AZ.mk ho; clear ho) | ((with_reducible refine Zc (N := 31) rfl ?_); refine All.lit_b bap HO.out ?hg (N := 31) ?hd ?hr ?_; (case hd => rfl); (case hg => rfl); (case hr => first | (go_simp; done) | (go_simp; rfl)); intro v31 w31 ho; clear HO; have HO := AZ.mk ho; clear ho) | ((with_reducible refine Zc (N := 32) rfl ?_); refine All.lit_i bap HO.out ?hg (N := 32) ?hd ?hr ?_; (case hd => rfl); (case hg => rfl); (case hr => first | (go_simp; done) | (go_simp; rfl)); intro v32 w32 ho; clear HO; have HO := AZ.mk ho; clear ho))
   clear c1 c2
   go_loopg [17, 18, 19, 33] 3 (fun kq v17 v18 v19 v33 w' => ∃ k : Nat, v33 = .int .i64 (k : Int) ∧ AZ (kq + k = 3) ∧ AZ (k ≤ 2) ∧ AZ (AllB w w' gC gZ (cellsC m st vA vC vR vI) cZ vA vC vR vI v17 v18 v19 nilV (LAs acc s) (LCs call s) (LRs m back s) (LIs inner s) ((List.range k).map (call s)) ((List.range k).map fun q => rowL m (back s q)) ((List.range k).map (inner s)) []))
   case atStart => exact ⟨0, rfl, ⟨rfl⟩, ⟨Nat.zero_le _⟩, HO⟩
   case round =>
    clear HO
    obtain ⟨k, rfl, HK1, HS1, HO⟩ := hrel
    by_cases hlt : k < 2
    ·have HL1 := AZ.mk hlt
     have c1 : decide ((k : Int) < 2) = true := dT (by omega)
     have c2 : decide (k < 2) = true := dT hlt
     clear hlt
     obtain ⟨gk1, rfl⟩ : ∃ q, gk = q + 1 := ⟨gk - 1, by have := HK1.out; have := HL1.out; omega⟩
     have hm1 : wrap64 ((m : Int) + 1) = (m : Int) + 1 := by have := HM.out; rw [bw _ (by omega) (by omega)]
     go_wp2_with ((with_reducible refine Zc (N := 36) rfl ?_); refine All.lit_l bap HO.out ?hg (N := 36) ?hd ?hr ?_; (case hd => rfl); (case hg => rfl); (case hr => first | (go_simp; done) | (go_simp; rfl)); intro v36 w36 ho; clear HO; have HO := AZ.mk ho; clear ho)
     clear c1 c2
     rw [hm1]
     clear hm1
     go_loopg [21, 39] (m + 2) (fun kq v21 v39 w' => ∃ x : Nat, v39 = .int .i64 (x : Int) ∧ AZ (kq + x = m + 2) ∧ AZ (x ≤ m + 1) ∧ AZ (AllB w w' gC gZ (cellsC m st vA vC vR vI) cZ vA vC vR vI u17 u18 u19 v21 (LAs acc s) (LCs call s) (LRs m back s) (LIs inner s) ((List.range k).map (call s)) ((List.range k).map fun q => rowL m (back s q)) ((List.range k).map (inner s)) ((List.range x).map (back s k))))
     case atStart => exact ⟨0, rfl, ⟨rfl⟩, ⟨Nat.zero_le _⟩, HO⟩
     case round =>
      clear HO
      obtain ⟨x, rfl, HK2, HS2, HO⟩ := hrel
      by_cases hlt : x < m + 1
      ·have HL2 := AZ.mk hlt
       have c1 : decide ((x : Int) < (m : Int) + 1) = true := dT (by omega)
       have c2 : decide (x < m + 1) = true := dT hlt
       clear hlt
       obtain ⟨gk2, rfl⟩ : ∃ q, gk = q + 1 := ⟨gk - 1, by have := HK2.out; have := HL2.out; omega⟩
       go_wp2_with (first | ((with_reducible refine gate_value (t := 43) rfl ?_); refine goesVL_ (some 47) rfl rfl Qr.out Qrn.out Qrb.out #[.int .i64 (s : Int), .int .i64 (k : Int), .int .i64 (x : Int)] _ rfl (by rfl) (by (try simp only [mA, mB, mC]); first | done | rfl) rfl ?_; refine (PR.out s k x _ HL0.out HL1.out HL2.out (All.blw HO.out)).mono ?_; rintro e w47 ⟨rfl, hb⟩; refine ⟨_, rfl, ?_⟩; have HO1 := AZ.mk (All.below HO.out hb); clear HO hb; have HO := HO1; clear HO1) | ((with_reducible refine gate_builtin (b := .append) (xs := #[.tmp 42, .tmp 48]) rfl ?_); at_builtin; refine All.app_l bap HO.out rfl (.tmp 42) (.tmp 48) 49 (back s k x) rfl Try.underlying49 bi2 rfl rfl ?hl ?_; (case hl => (try simp only [List.length_map, List.length_range, List.length_nil]); have := HM.out; have := HN.out; have := HL2.out; omega); intro v49 w49 ho; clear HO; have HO := AZ.mk (map_succ (back s k) x ▸ ho); clear ho))
       go_roundg gk2
       case measure => have := HK2.out; omega
       case rel => exact ⟨x + 1, by simp only [Value.int.injEq, true_and]; rw [bw _ (by omega) (by have := HM.out; have := HN.out; have := HL2.out; omega)]; omega, ⟨by have := HK2.out; omega⟩, ⟨by have := HL2.out; omega⟩, HO⟩
      ·have HX := AZ.mk (show x = m + 1 by have := HS2.out; omega)
       have c1 : decide ((x : Int) < (m : Int) + 1) = false := dF (by omega)
       have c2 : decide (x < m + 1) = false := dF hlt
       clear hlt
       obtain rfl := HX.out
       obtain ⟨⟨A21, n21, c21, rfl⟩, _⟩ := shapes HO.out
       go_wp2_with (first | ((with_reducible refine gate_value (t := 52) rfl ?_); refine goesVL_ (some 55) rfl rfl Qc.out Qcn.out Qcb.out #[.int .i64 (s : Int), .int .i64 (k : Int)] _ rfl (by rfl) (by (try simp only [mA, mB, mC]); first | done | rfl) rfl ?_; refine (PC.out s k _ HL0.out HL1.out (All.blw HO.out)).mono ?_; rintro e w55 ⟨rfl, hb⟩; refine ⟨_, rfl, ?_⟩; have HO1 := AZ.mk (All.below HO.out hb); clear HO hb; have HO := HO1; clear HO1) | ((with_reducible refine gate_value (t := 63) rfl ?_); refine goesVL_ (some 66) rfl rfl Qi.out Qin.out Qib.out #[.int .i64 (s : Int), .int .i64 (k : Int)] _ rfl (by rfl) (by (try simp only [mA, mB, mC]); first | done | rfl) rfl ?_; refine (PI.out s k _ HL0.out HL1.out (All.blw HO.out)).mono ?_; rintro e w66 ⟨rfl, hb⟩; refine ⟨_, rfl, ?_⟩; have HO1 := AZ.mk (All.below HO.out hb); clear HO hb; have HO := HO1; clear HO1) | ((with_reducible refine gate_builtin (b := .append) (xs := #[.tmp 51, .tmp 56]) rfl ?_); at_builtin; refine All.app_c bap HO.out rfl (.tmp 51) (.tmp 56) 48 (call s k) [.int .i64 (call s k).f0, .int .i64 (call s k).f1] (k47_mkM _ _ _ _) (.agg #[.int .i64 0, .int .i64 0]) 16 rfl (by decide) (by decide) rfl Try.underlying48 bi47 rfl rfl ?hl ?_; (case hl => (try simp only [List.length_map, List.length_range, List.length_nil]); have := HL1.out; omega); intro v57 w57 ho; clear HO; have HO := AZ.mk (map_succ (call s) k ▸ ho); clear ho) | ((with_reducible refine gate_builtin (b := .append) (xs := #[.tmp 58, .tmp 60]) rfl ?_); at_builtin; refine All.app_b bap HO.out rfl (.tmp 58) (.tmp 60) 25  rfl Try.underlying25 bi49 rfl rfl ?hl ?_; (case hl => (try simp only [List.length_map, List.length_range, List.length_nil]); have := HL1.out; omega); intro v61 w61 ho; clear HO; have HO := AZ.mk (map_succ (fun q => rowL m (back s q)) k ▸ ho); clear ho) | ((with_reducible refine gate_builtin (b := .append) (xs := #[.tmp 62, .tmp 67]) rfl ?_); at_builtin; refine All.app_i bap HO.out rfl (.tmp 62) (.tmp 67) 49 (inner s k) rfl Try.underlying49 bi2 rfl rfl ?hl ?_; (case hl => (try simp only [List.length_map, List.length_range, List.length_nil]); have := HL1.out; omega); intro v68 w68 ho; clear HO; have HO := AZ.mk (map_succ (inner s) k ▸ ho); clear ho))
       go_roundg gk1
       case measure => have := HK1.out; omega
       case rel => exact ⟨k + 1, by simp only [Value.int.injEq, true_and]; rw [bw _ (by omega) (by have := HM.out; have := HN.out; have := HL1.out; omega)]; omega, ⟨by have := HK1.out; omega⟩, ⟨by have := HL1.out; omega⟩, HO⟩
    ·have HX := AZ.mk (show k = 2 by have := HS1.out; omega)
     have c1 : decide ((k : Int) < 2) = false := dF (by omega)
     have c2 : decide (k < 2) = false := dF hlt
     clear hlt
     obtain rfl := HX.out
     clear HX
     rw [show (List.range 2).map (fun q => rowL m (back s q)) = (List.range 2).map (fun q => rowL m (back s q)) from rfl] at HO
     obtain ⟨_, ⟨A17, n17, c17, rfl⟩, ⟨A18, n18, c18, rfl⟩, ⟨A19, n19, c19, rfl⟩, _⟩ := shapes HO.out
     go_wp2
     try clear hu27
     refine start_ (n := 30) (S := fun w' => True) (ds := []) (bz 30 0) (by kernel_rfl) rfl rfl trivial (fun hHeld => ?_)
     refine Yh built.tab17 built.bits17 (fun HT_ HW_ => ?_)
     have ALL0 := AZ.mk (All.drew HO.out)
     have BX := AZ.mk (All.boxC ALL0.out)
     clear HO
     generalize World.drew _ = wD at ALL0 BX hHeld ⊢
     refine Ya (i := 0) (N := some 70) (v := ?_) (a' := ?_) (bz 30 1) rfl rfl (Zm HT_.out (by kernel_rfl)) (fun _ _ _ h => h) (Or.inl ⟨by rfl, ?_⟩) ?_ ?_
     rotate_left
     ·intro w'
      go_simp
      with_reducible rfl
     rotate_left
     ·simp only [Act.put, sA, sB, sC, i64_w, i32_w]
      rfl
     refine Ya (i := 2) (N := some 72) (v := ?_) (a' := ?_) (bz 30 5) rfl rfl (Zm HT_.out (by kernel_rfl)) (fun _ _ _ h => h) (Or.inl ⟨by rfl, ?_⟩) ?_ ?_
     rotate_left
     ·intro w'
      go_simp
      with_reducible rfl
     rotate_left
     ·simp only [Act.put, sA, sB, sC, i64_w, i32_w]
      rfl
     refine Ya (i := 3) (N := some 73) (v := ?_) (a' := ?_) (bz 30 13) rfl rfl (Zm HT_.out (by kernel_rfl)) (fun _ _ _ h => h) (Or.inl ⟨by rfl, ?_⟩) ?_ ?_
     rotate_left
     ·intro w'
      go_simp
      with_reducible rfl
     rotate_left
     ·simp only [Act.put, sA, sB, sC, i64_w, i32_w]
      rfl
     refine Ya (i := 7) (N := some 77) (v := ?_) (a' := ?_) (bz 30 141) rfl rfl (Zm HT_.out (by kernel_rfl)) (fun _ _ _ h => h) (Or.inl ⟨by rfl, ?_⟩) ?_ ?_
     rotate_left
     ·intro w'
      go_simp
      with_reducible rfl
     rotate_left
     ·simp only [Act.put, sA, sB, sC, i64_w, i32_w]
      rfl
     refine Ya (i := 9) (N := some 79) (v := ?_) (a' := ?_) (bz 30 653) rfl rfl (Zm HT_.out (by kernel_rfl)) (fun _ _ _ h => h) (Or.inl ⟨by rfl, ?_⟩) ?_ ?_
     rotate_left
     ·intro w'
      go_simp
      with_reducible rfl
     rotate_left
     ·simp only [Act.put, sA, sB, sC, i64_w, i32_w]
      rfl
     refine Ya (i := 12) (N := some 82) (v := ?_) (a' := ?_) (bz 30 4749) rfl rfl (Zm HT_.out (by kernel_rfl)) (fun _ _ _ h => h) (Or.inl ⟨by rfl, ?_⟩) ?_ ?_
     rotate_left
     ·intro w'
      go_simp
      with_reducible rfl
     rotate_left
     ·simp only [Act.put, sA, sB, sC, i64_w, i32_w]
      rfl
     refine Ya (i := 14) (N := some 84) (v := ?_) (a' := ?_) (bz 30 21133) rfl rfl (Zm HT_.out (by kernel_rfl)) (fun _ _ _ h => h) (Or.inl ⟨by rfl, ?_⟩) ?_ ?_
     rotate_left
     ·intro w'
      go_simp
      with_reducible rfl
     rotate_left
     ·simp only [Act.put, sA, sB, sC, i64_w, i32_w]
      rfl
     refine Ya (i := 17) (N := some 87) (v := ?_) (a' := ?_) (bz 30 152205) rfl rfl (Zm HT_.out (by kernel_rfl)) (fun _ _ _ h => h) (Or.inl ⟨by rfl, ?_⟩) ?_ ?_
     rotate_left
     ·intro w'
      go_simp
      with_reducible rfl
     rotate_left
     ·simp only [Act.put, sA, sB, sC, i64_w, i32_w]
      rfl
     refine Ya (i := 19) (N := some 89) (v := ?_) (a' := ?_) (bz 30 676493) rfl rfl (Zm HT_.out (by kernel_rfl)) (fun _ _ _ h => h) (Or.inl ⟨by rfl, ?_⟩) ?_ ?_
     rotate_left
     ·intro w'
      go_simp
      with_reducible rfl
     rotate_left
     ·simp only [Act.put, sA, sB, sC, i64_w, i32_w]
      rfl
     refine inv_at [1, 4, 5, 6, 8, 10, 11, 13, 15, 16, 18, 20, 21, 22, 23, 24, 25, 26, 27, 28, 29] (fun a0_ b a w' => ∃ (r6 : Value) (r11 : Value) (r16 : Value) (r21 : Value) (b5 : Value) (b10 : Value) (b15 : Value) (b20 : Value), a = Zz a0_ b [(1, 71, vA), (4, 74, .bool (acc s)), (5, 75, b5), (6, 76, r6), (8, 78, vC), (10, 80, b10), (11, 81, r11), (13, 83, vR), (15, 85, b15), (16, 86, r16), (18, 88, vI), (20, 90, b20), (21, 91, r21), (22, 92, .pointer (some ⟨gC, 2, none⟩)), (24, 93, .pointer (some ⟨gC, 3, none⟩)), (26, 94, .pointer (some ⟨gC, 4, none⟩)), (28, 95, .pointer (some ⟨gC, 5, none⟩))] ∧ (b 6 = false → AllB w w' gC gZ (cellsC m st vA vC vR vI) cZ vA vC vR vI (.slice A17 n17 c17) (.slice A18 n18 c18) (.slice A19 n19 c19) nilV (LAs acc s) (LCs call s) (LRs m back s) (LIs inner s) ((List.range 2).map (call s)) ((List.range 2).map fun q => rowL m (back s q)) ((List.range 2).map (inner s)) []) ∧ (b 6 = true → b 11 = false → AllB w w' gC gZ (cellsC m st vA vC vR vI) cZ r6 vC vR vI (.slice A17 n17 c17) (.slice A18 n18 c18) (.slice A19 n19 c19) nilV ((LAs acc s) ++ [acc s]) (LCs call s) (LRs m back s) (LIs inner s) ((List.range 2).map (call s)) ((List.range 2).map fun q => rowL m (back s q)) ((List.range 2).map (inner s)) []) ∧ (b 11 = true → b 16 = false → AllB w w' gC gZ (cellsC m st vA vC vR vI) cZ r6 r11 vR vI (.slice none 0 0) (.slice A18 n18 c18) (.slice A19 n19 c19) nilV ((LAs acc s) ++ [acc s]) ((LCs call s) ++ [((List.range 2).map (call s))]) (LRs m back s) (LIs inner s) [] ((List.range 2).map fun q => rowL m (back s q)) ((List.range 2).map (inner s)) []) ∧ (b 16 = true → b 21 = false → AllB w w' gC gZ (cellsC m st vA vC vR vI) cZ r6 r11 r16 vI (.slice none 0 0) (.slice none 0 0) (.slice A19 n19 c19) nilV ((LAs acc s) ++ [acc s]) ((LCs call s) ++ [((List.range 2).map (call s))]) ((LRs m back s) ++ [((List.range 2).map fun q => rowL m (back s q))]) (LIs inner s) [] [] ((List.range 2).map (inner s)) []) ∧ (b 21 = true → b 23 = false → AllB w w' gC gZ (cellsC m st vA vC vR vI) cZ r6 r11 r16 r21 (.slice none 0 0) (.slice none 0 0) (.slice none 0 0) nilV ((LAs acc s) ++ [acc s]) ((LCs call s) ++ [((List.range 2).map (call s))]) ((LRs m back s) ++ [((List.range 2).map fun q => rowL m (back s q))]) ((LIs inner s) ++ [((List.range 2).map (inner s))]) [] [] [] []) ∧ (b 23 = true → b 25 = false → AllB w w' gC gZ (cellsC m st r6 vC vR vI) cZ r6 r11 r16 r21 (.slice none 0 0) (.slice none 0 0) (.slice none 0 0) nilV ((LAs acc s) ++ [acc s]) ((LCs call s) ++ [((List.range 2).map (call s))]) ((LRs m back s) ++ [((List.range 2).map fun q => rowL m (back s q))]) ((LIs inner s) ++ [((List.range 2).map (inner s))]) [] [] [] []) ∧ (b 25 = true → b 27 = false → AllB w w' gC gZ (cellsC m st r6 r11 vR vI) cZ r6 r11 r16 r21 (.slice none 0 0) (.slice none 0 0) (.slice none 0 0) nilV ((LAs acc s) ++ [acc s]) ((LCs call s) ++ [((List.range 2).map (call s))]) ((LRs m back s) ++ [((List.range 2).map fun q => rowL m (back s q))]) ((LIs inner s) ++ [((List.range 2).map (inner s))]) [] [] [] []) ∧ (b 27 = true → b 29 = false → AllB w w' gC gZ (cellsC m st r6 r11 r16 vI) cZ r6 r11 r16 r21 (.slice none 0 0) (.slice none 0 0) (.slice none 0 0) nilV ((LAs acc s) ++ [acc s]) ((LCs call s) ++ [((List.range 2).map (call s))]) ((LRs m back s) ++ [((List.range 2).map fun q => rowL m (back s q))]) ((LIs inner s) ++ [((List.range 2).map (inner s))]) [] [] [] []) ∧ (b 29 = true → AllB w w' gC gZ (cellsC m st r6 r11 r16 r21) cZ r6 r11 r16 r21 (.slice none 0 0) (.slice none 0 0) (.slice none 0 0) nilV ((LAs acc s) ++ [acc s]) ((LCs call s) ++ [((List.range 2).map (call s))]) ((LRs m back s) ++ [((List.range 2).map fun q => rowL m (back s q))]) ((LIs inner s) ++ [((List.range 2).map (inner s))]) [] [] [] []) ∧ (b 23 = false → w'.heap[gC]? = some (.cells (cellsC m st vA vC vR vI) 27 (0, 0))) ∧ (b 5 = true → b 6 = false → ∃ g_ : Nat, b5 = .slice (some ⟨g_, 0, none⟩) 1 1 ∧ w'.heap[g_]? = some (.cells [.bool (acc s)].toArray 4 (0, 0))) ∧ (b 10 = true → b 11 = false → ∃ g_ : Nat, b10 = .slice (some ⟨g_, 0, none⟩) 1 1 ∧ w'.heap[g_]? = some (.cells [.slice A17 n17 c17].toArray 48 (0, 0))) ∧ (b 15 = true → b 16 = false → ∃ g_ : Nat, b15 = .slice (some ⟨g_, 0, none⟩) 1 1 ∧ w'.heap[g_]? = some (.cells [.slice A18 n18 c18].toArray 25 (0, 0))) ∧ (b 20 = true → b 21 = false → ∃ g_ : Nat, b20 = .slice (some ⟨g_, 0, none⟩) 1 1 ∧ w'.heap[g_]? = some (.cells [.slice A19 n19 c19].toArray 49 (0, 0)))) HT_.out HW_.out (by kernel_rfl) (by kernel_rfl) ?_ ?_ ?_
     ·exact ⟨.bool false, .bool false, .bool false, .bool false, .bool false, .bool false, .bool false, .bool false, by simp only [Zz, Bool.false_eq_true, if_false], fun _ => ALL0.out, fun h_ => absurd h_ (by decide), fun h_ => absurd h_ (by decide), fun h_ => absurd h_ (by decide), fun h_ => absurd h_ (by decide), fun h_ => absurd h_ (by decide), fun h_ => absurd h_ (by decide), fun h_ => absurd h_ (by decide), fun h_ => absurd h_ (by decide), fun _ => BX.out, fun h_ => absurd h_ (by decide), fun h_ => absurd h_ (by decide), fun h_ => absurd h_ (by decide), fun h_ => absurd h_ (by decide)⟩
     ·skip
      clear ALL0 BX
      refine Za ?_ ?_
      ·rintro b a w' ⟨r6, r11, r16, r21, b5, b10, b15, b20, ha, Q_ALL0, Q_ALL1, Q_ALL2, Q_ALL3, Q_ALL4, Q_ALL5, Q_ALL6, Q_ALL7, Q_ALL8, Q_BX, Q_BK5, Q_BK10, Q_BK15, Q_BK20⟩ hb_ hon hoff
       refine ⟨_, rfl, fun K hK => ?_⟩
       have e70 : a.tmps[70]? = some (.pointer (some ⟨gC, 2, none⟩)) := xH_ ha rfl rfl
       replace ha := AZ.mk ha
       have BX := AZ.mk (Q_BX (hoff 23 rfl))
       have hc_ : w'.cell? ⟨gC, 2, none⟩ = some (vA) := (bc BX.out 2).trans rfl
       refine Zg (w1 := w') (v := vA) (by rfl) rfl (by go_simp; (try simp only [i64_w]); try rfl) ?_
       refine hK.out _ _ ⟨r6, r11, r16, r21, b5, b10, b15, b20, (xI_ ha.out 0 hb_ rfl rfl rfl), Q_ALL0, xB_ (hoff 6 rfl), xB_ (hoff 11 rfl), xB_ (hoff 16 rfl), xB_ (hoff 21 rfl), xB_ (hoff 23 rfl), xB_ (hoff 25 rfl), xB_ (hoff 27 rfl), xA_ (hoff 29 rfl), Q_BX, Q_BK5, Q_BK10, Q_BK15, Q_BK20⟩
      refine Za ?_ ?_
      ·rintro b a w' ⟨r6, r11, r16, r21, b5, b10, b15, b20, ha, Q_ALL0, Q_ALL1, Q_ALL2, Q_ALL3, Q_ALL4, Q_ALL5, Q_ALL6, Q_ALL7, Q_ALL8, Q_BX, Q_BK5, Q_BK10, Q_BK15, Q_BK20⟩ hb_ hon hoff
       refine ⟨_, rfl, fun K hK => ?_⟩
       have e72 : a.tmps[72]? = some (.func (.func ga) #[] ca) := xH_ ha rfl rfl
       have e73 : a.tmps[73]? = some (.int .i64 (s : Int)) := xH_ ha rfl rfl
       replace ha := AZ.mk ha
       have ALL0 := AZ.mk (Q_ALL0 (hoff 6 rfl))
       have BX := AZ.mk (Q_BX (hoff 23 rfl))
       refine goesV_ Qa.out Qan.out Qab.out #[.int .i64 (s : Int)] _ (by rfl) rfl rfl (Zt e72) (by simp only [mA, mB, mC, Zt e73]) rfl ?_
       refine (PA.out s _ HL0.out (All.blw ALL0.out)).mono ?_
       rintro e w74 ⟨rfl, hb⟩
       refine ⟨_, rfl, ?_⟩
       refine hK.out _ _ ⟨r6, r11, r16, r21, b5, b10, b15, b20, (xI_ ha.out 1 hb_ rfl rfl rfl), fun _ => All.below (ALL0.out) hb, xB_ (hoff 6 rfl), xB_ (hoff 11 rfl), xB_ (hoff 16 rfl), xB_ (hoff 21 rfl), xB_ (hoff 23 rfl), xB_ (hoff 25 rfl), xB_ (hoff 27 rfl), xA_ (hoff 29 rfl), fun _ => bb_ (BX.out) hb, xB_ (hoff 5 rfl), fun h0_ h1_ => (by obtain ⟨g_, hb_, hg_⟩ := (Q_BK10 h0_ h1_); exact ⟨g_, hb_, bb_ (hg_) hb⟩), fun h0_ h1_ => (by obtain ⟨g_, hb_, hg_⟩ := (Q_BK15 h0_ h1_); exact ⟨g_, hb_, bb_ (hg_) hb⟩), fun h0_ h1_ => (by obtain ⟨g_, hb_, hg_⟩ := (Q_BK20 h0_ h1_); exact ⟨g_, hb_, bb_ (hg_) hb⟩)⟩
      refine Za ?_ ?_
      ·rintro b a w' ⟨r6, r11, r16, r21, b5, b10, b15, b20, ha, Q_ALL0, Q_ALL1, Q_ALL2, Q_ALL3, Q_ALL4, Q_ALL5, Q_ALL6, Q_ALL7, Q_ALL8, Q_BX, Q_BK5, Q_BK10, Q_BK15, Q_BK20⟩ hb_ hon hoff
       refine ⟨_, rfl, fun K hK => ?_⟩
       have e74 := xG_ ha 1 rfl (hon 4 rfl) rfl rfl
       replace ha := AZ.mk ha
       have ALL0 := AZ.mk (Q_ALL0 (hoff 6 rfl))
       have BX := AZ.mk (Q_BX (hoff 23 rfl))
       refine Zg (w1 := ?_) (v := ?_) (by rfl) rfl ?_ ?_
       rotate_left 2
       ·go_simp
        constructor
        ·rfl
        ·rfl
       refine hK.out _ _ ⟨r6, r11, r16, r21, .slice (some ⟨w'.heap.size, 0, none⟩) 1 1, b10, b15, b20, (xI_ ha.out 2 hb_ rfl rfl rfl), fun _ => All.alloc (ALL0.out) _, xB_ (hoff 6 rfl), xB_ (hoff 11 rfl), xB_ (hoff 16 rfl), xB_ (hoff 21 rfl), xB_ (hoff 23 rfl), xB_ (hoff 25 rfl), xB_ (hoff 27 rfl), xA_ (hoff 29 rfl), fun _ => ba_ (BX.out) _, fun _ _ => ⟨w'.heap.size, rfl, heap_alloc_new w' _⟩, fun h0_ h1_ => (by obtain ⟨g_, hb_, hg_⟩ := (Q_BK10 h0_ h1_); exact ⟨g_, hb_, ba_ (hg_) _⟩), fun h0_ h1_ => (by obtain ⟨g_, hb_, hg_⟩ := (Q_BK15 h0_ h1_); exact ⟨g_, hb_, ba_ (hg_) _⟩), fun h0_ h1_ => (by obtain ⟨g_, hb_, hg_⟩ := (Q_BK20 h0_ h1_); exact ⟨g_, hb_, ba_ (hg_) _⟩)⟩
      refine Za ?_ ?_
      ·rintro b a w' ⟨r6, r11, r16, r21, b5, b10, b15, b20, ha, Q_ALL0, Q_ALL1, Q_ALL2, Q_ALL3, Q_ALL4, Q_ALL5, Q_ALL6, Q_ALL7, Q_ALL8, Q_BX, Q_BK5, Q_BK10, Q_BK15, Q_BK20⟩ hb_ hon hoff
       refine ⟨_, rfl, fun K hK => ?_⟩
       have e71 := xG_ ha 0 rfl (hon 1 rfl) rfl rfl
       have e75 := xG_ ha 2 rfl (hon 5 rfl) rfl rfl
       replace ha := AZ.mk ha
       have ALL0 := AZ.mk (Q_ALL0 hb_)
       have BX := AZ.mk (Q_BX (hoff 23 rfl))
       have BK5 := AZ.mk (Q_BK5 (hon 5 rfl) hb_)
       obtain ⟨g_, hq_, hg_⟩ := BK5.out
       refine All.app_A bap ALL0.out (by rfl) (.tmp 71) (.tmp 75) 22 (acc s) rfl Try.underlying22 bi4 (Zt e71) g_ ((Zt e75).trans hq_) hg_ (by simp only [LAs, LCs, LRs, LIs, List.length_map, List.length_range]; have := HL0.out; have := HN.out; omega) ?_
       intro v_ w_ ho hfar
       refine hK.out _ _ ⟨v_, r11, r16, r21, b5, b10, b15, b20, (xI_ ha.out 3 hb_ rfl rfl rfl), xD_ (Yd b 6), fun _ _ => ho, xB_ (hoff 11 rfl), xB_ (hoff 16 rfl), xB_ (hoff 21 rfl), xB_ (hoff 23 rfl), xB_ (hoff 25 rfl), xB_ (hoff 27 rfl), xA_ (hoff 29 rfl), fun _ => hfar _ _ _ (BX.out) (by decide), xC_ (Yd b 6), fun h0_ h1_ => (by obtain ⟨g_, hb_, hg_⟩ := (Q_BK10 h0_ h1_); exact ⟨g_, hb_, hfar _ _ _ (hg_) (by decide)⟩), fun h0_ h1_ => (by obtain ⟨g_, hb_, hg_⟩ := (Q_BK15 h0_ h1_); exact ⟨g_, hb_, hfar _ _ _ (hg_) (by decide)⟩), fun h0_ h1_ => (by obtain ⟨g_, hb_, hg_⟩ := (Q_BK20 h0_ h1_); exact ⟨g_, hb_, hfar _ _ _ (hg_) (by decide)⟩)⟩
      refine Za ?_ ?_
      ·rintro b a w' ⟨r6, r11, r16, r21, b5, b10, b15, b20, ha, Q_ALL0, Q_ALL1, Q_ALL2, Q_ALL3, Q_ALL4, Q_ALL5, Q_ALL6, Q_ALL7, Q_ALL8, Q_BX, Q_BK5, Q_BK10, Q_BK15, Q_BK20⟩ hb_ hon hoff
       refine ⟨_, rfl, fun K hK => ?_⟩
       have e77 : a.tmps[77]? = some (.pointer (some ⟨gC, 3, none⟩)) := xH_ ha rfl rfl
       replace ha := AZ.mk ha
       have BX := AZ.mk (Q_BX (hoff 23 rfl))
       have hc_ : w'.cell? ⟨gC, 3, none⟩ = some (vC) := (bc BX.out 3).trans rfl
       refine Zg (w1 := w') (v := vC) (by rfl) rfl (by go_simp; (try simp only [i64_w]); try rfl) ?_
       refine hK.out _ _ ⟨r6, r11, r16, r21, b5, b10, b15, b20, (xI_ ha.out 4 hb_ rfl rfl rfl), Q_ALL0, Q_ALL1, xB_ (hoff 11 rfl), xB_ (hoff 16 rfl), xB_ (hoff 21 rfl), xB_ (hoff 23 rfl), xB_ (hoff 25 rfl), xB_ (hoff 27 rfl), xA_ (hoff 29 rfl), Q_BX, Q_BK5, Q_BK10, Q_BK15, Q_BK20⟩
      refine Za ?_ ?_
      ·rintro b a w' ⟨r6, r11, r16, r21, b5, b10, b15, b20, ha, Q_ALL0, Q_ALL1, Q_ALL2, Q_ALL3, Q_ALL4, Q_ALL5, Q_ALL6, Q_ALL7, Q_ALL8, Q_BX, Q_BK5, Q_BK10, Q_BK15, Q_BK20⟩ hb_ hon hoff
       refine ⟨_, rfl, fun K hK => ?_⟩
       have e79 : a.tmps[79]? = some (.slice A17 n17 c17) := xH_ ha rfl rfl
       replace ha := AZ.mk ha
       have BX := AZ.mk (Q_BX (hoff 23 rfl))
       refine Zg (w1 := ?_) (v := ?_) (by rfl) rfl ?_ ?_
       rotate_left 2
       ·go_simp
        constructor
        ·rfl
        ·rfl
       refine hK.out _ _ ⟨r6, r11, r16, r21, b5, .slice (some ⟨w'.heap.size, 0, none⟩) 1 1, b15, b20, (xI_ ha.out 5 hb_ rfl rfl rfl), fun h0_ => All.alloc ((Q_ALL0 h0_)) _, fun h0_ h1_ => All.alloc ((Q_ALL1 h0_ h1_)) _, xB_ (hoff 11 rfl), xB_ (hoff 16 rfl), xB_ (hoff 21 rfl), xB_ (hoff 23 rfl), xB_ (hoff 25 rfl), xB_ (hoff 27 rfl), xA_ (hoff 29 rfl), fun _ => ba_ (BX.out) _, fun h0_ h1_ => (by obtain ⟨g_, hb_, hg_⟩ := (Q_BK5 h0_ h1_); exact ⟨g_, hb_, ba_ (hg_) _⟩), fun _ _ => ⟨w'.heap.size, rfl, heap_alloc_new w' _⟩, fun h0_ h1_ => (by obtain ⟨g_, hb_, hg_⟩ := (Q_BK15 h0_ h1_); exact ⟨g_, hb_, ba_ (hg_) _⟩), fun h0_ h1_ => (by obtain ⟨g_, hb_, hg_⟩ := (Q_BK20 h0_ h1_); exact ⟨g_, hb_, ba_ (hg_) _⟩)⟩
      refine Za ?_ ?_
      ·rintro b a w' ⟨r6, r11, r16, r21, b5, b10, b15, b20, ha, Q_ALL0, Q_ALL1, Q_ALL2, Q_ALL3, Q_ALL4, Q_ALL5, Q_ALL6, Q_ALL7, Q_ALL8, Q_BX, Q_BK5, Q_BK10, Q_BK15, Q_BK20⟩ hb_ hon hoff
       refine ⟨_, rfl, fun K hK => ?_⟩
       have e78 := xG_ ha 4 rfl (hon 8 rfl) rfl rfl
       have e80 := xG_ ha 5 rfl (hon 10 rfl) rfl rfl
       replace ha := AZ.mk ha
       have ALL1 := AZ.mk (Q_ALL1 (hon 6 rfl) hb_)
       have BX := AZ.mk (Q_BX (hoff 23 rfl))
       have BK10 := AZ.mk (Q_BK10 (hon 10 rfl) hb_)
       obtain ⟨g_, hq_, hg_⟩ := BK10.out
       refine All.app_C bap ALL1.out (by rfl) (.tmp 78) (.tmp 80) 23 rfl Try.underlying23 bi48 (Zt e78) g_ ((Zt e80).trans hq_) hg_ (by simp only [LAs, LCs, LRs, LIs, List.length_map, List.length_range]; have := HL0.out; have := HN.out; omega) ?_
       intro v_ w_ ho hfar
       refine hK.out _ _ ⟨r6, v_, r16, r21, b5, b10, b15, b20, (xI_ ha.out 6 hb_ rfl rfl rfl), xD_ (hon 6 rfl), xC_ (Yd b 11), fun _ _ => ho, xB_ (hoff 16 rfl), xB_ (hoff 21 rfl), xB_ (hoff 23 rfl), xB_ (hoff 25 rfl), xB_ (hoff 27 rfl), xA_ (hoff 29 rfl), fun _ => hfar _ _ _ (BX.out) (by decide), xC_ (hon 6 rfl), xC_ (Yd b 11), fun h0_ h1_ => (by obtain ⟨g_, hb_, hg_⟩ := (Q_BK15 h0_ h1_); exact ⟨g_, hb_, hfar _ _ _ (hg_) (by decide)⟩), fun h0_ h1_ => (by obtain ⟨g_, hb_, hg_⟩ := (Q_BK20 h0_ h1_); exact ⟨g_, hb_, hfar _ _ _ (hg_) (by decide)⟩)⟩
      refine Za ?_ ?_
      ·rintro b a w' ⟨r6, r11, r16, r21, b5, b10, b15, b20, ha, Q_ALL0, Q_ALL1, Q_ALL2, Q_ALL3, Q_ALL4, Q_ALL5, Q_ALL6, Q_ALL7, Q_ALL8, Q_BX, Q_BK5, Q_BK10, Q_BK15, Q_BK20⟩ hb_ hon hoff
       refine ⟨_, rfl, fun K hK => ?_⟩
       have e82 : a.tmps[82]? = some (.pointer (some ⟨gC, 4, none⟩)) := xH_ ha rfl rfl
       replace ha := AZ.mk ha
       have BX := AZ.mk (Q_BX (hoff 23 rfl))
       have hc_ : w'.cell? ⟨gC, 4, none⟩ = some (vR) := (bc BX.out 4).trans rfl
       refine Zg (w1 := w') (v := vR) (by rfl) rfl (by go_simp; (try simp only [i64_w]); try rfl) ?_
       refine hK.out _ _ ⟨r6, r11, r16, r21, b5, b10, b15, b20, (xI_ ha.out 7 hb_ rfl rfl rfl), Q_ALL0, Q_ALL1, Q_ALL2, xB_ (hoff 16 rfl), xB_ (hoff 21 rfl), xB_ (hoff 23 rfl), xB_ (hoff 25 rfl), xB_ (hoff 27 rfl), xA_ (hoff 29 rfl), Q_BX, Q_BK5, Q_BK10, Q_BK15, Q_BK20⟩
      refine Za ?_ ?_
      ·rintro b a w' ⟨r6, r11, r16, r21, b5, b10, b15, b20, ha, Q_ALL0, Q_ALL1, Q_ALL2, Q_ALL3, Q_ALL4, Q_ALL5, Q_ALL6, Q_ALL7, Q_ALL8, Q_BX, Q_BK5, Q_BK10, Q_BK15, Q_BK20⟩ hb_ hon hoff
       refine ⟨_, rfl, fun K hK => ?_⟩
       have e84 : a.tmps[84]? = some (.slice A18 n18 c18) := xH_ ha rfl rfl
       replace ha := AZ.mk ha
       have BX := AZ.mk (Q_BX (hoff 23 rfl))
       refine Zg (w1 := ?_) (v := ?_) (by rfl) rfl ?_ ?_
       rotate_left 2
       ·go_simp
        constructor
        ·rfl
        ·rfl
       refine hK.out _ _ ⟨r6, r11, r16, r21, b5, b10, .slice (some ⟨w'.heap.size, 0, none⟩) 1 1, b20, (xI_ ha.out 8 hb_ rfl rfl rfl), fun h0_ => All.alloc ((Q_ALL0 h0_)) _, fun h0_ h1_ => All.alloc ((Q_ALL1 h0_ h1_)) _, fun h0_ h1_ => All.alloc ((Q_ALL2 h0_ h1_)) _, xB_ (hoff 16 rfl), xB_ (hoff 21 rfl), xB_ (hoff 23 rfl), xB_ (hoff 25 rfl), xB_ (hoff 27 rfl), xA_ (hoff 29 rfl), fun _ => ba_ (BX.out) _, fun h0_ h1_ => (by obtain ⟨g_, hb_, hg_⟩ := (Q_BK5 h0_ h1_); exact ⟨g_, hb_, ba_ (hg_) _⟩), fun h0_ h1_ => (by obtain ⟨g_, hb_, hg_⟩ := (Q_BK10 h0_ h1_); exact ⟨g_, hb_, ba_ (hg_) _⟩), fun _ _ => ⟨w'.heap.size, rfl, heap_alloc_new w' _⟩, fun h0_ h1_ => (by obtain ⟨g_, hb_, hg_⟩ := (Q_BK20 h0_ h1_); exact ⟨g_, hb_, ba_ (hg_) _⟩)⟩
      refine Za ?_ ?_
      ·rintro b a w' ⟨r6, r11, r16, r21, b5, b10, b15, b20, ha, Q_ALL0, Q_ALL1, Q_ALL2, Q_ALL3, Q_ALL4, Q_ALL5, Q_ALL6, Q_ALL7, Q_ALL8, Q_BX, Q_BK5, Q_BK10, Q_BK15, Q_BK20⟩ hb_ hon hoff
       refine ⟨_, rfl, fun K hK => ?_⟩
       have e83 := xG_ ha 7 rfl (hon 13 rfl) rfl rfl
       have e85 := xG_ ha 8 rfl (hon 15 rfl) rfl rfl
       replace ha := AZ.mk ha
       have ALL2 := AZ.mk (Q_ALL2 (hon 11 rfl) hb_)
       have BX := AZ.mk (Q_BX (hoff 23 rfl))
       have BK15 := AZ.mk (Q_BK15 (hon 15 rfl) hb_)
       obtain ⟨g_, hq_, hg_⟩ := BK15.out
       refine All.app_R bap ALL2.out (by rfl) (.tmp 83) (.tmp 85) 24 rfl Try.underlying24 bi25 (Zt e83) g_ ((Zt e85).trans hq_) hg_ (by simp only [LAs, LCs, LRs, LIs, List.length_map, List.length_range]; have := HL0.out; have := HN.out; omega) ?_
       intro v_ w_ ho hfar
       refine hK.out _ _ ⟨r6, r11, v_, r21, b5, b10, b15, b20, (xI_ ha.out 9 hb_ rfl rfl rfl), xD_ (hon 6 rfl), xC_ (hon 11 rfl), xC_ (Yd b 16), fun _ _ => ho, xB_ (hoff 21 rfl), xB_ (hoff 23 rfl), xB_ (hoff 25 rfl), xB_ (hoff 27 rfl), xA_ (hoff 29 rfl), fun _ => hfar _ _ _ (BX.out) (by decide), xC_ (hon 6 rfl), xC_ (hon 11 rfl), xC_ (Yd b 16), fun h0_ h1_ => (by obtain ⟨g_, hb_, hg_⟩ := (Q_BK20 h0_ h1_); exact ⟨g_, hb_, hfar _ _ _ (hg_) (by decide)⟩)⟩
      refine Za ?_ ?_
      ·rintro b a w' ⟨r6, r11, r16, r21, b5, b10, b15, b20, ha, Q_ALL0, Q_ALL1, Q_ALL2, Q_ALL3, Q_ALL4, Q_ALL5, Q_ALL6, Q_ALL7, Q_ALL8, Q_BX, Q_BK5, Q_BK10, Q_BK15, Q_BK20⟩ hb_ hon hoff
       refine ⟨_, rfl, fun K hK => ?_⟩
       have e87 : a.tmps[87]? = some (.pointer (some ⟨gC, 5, none⟩)) := xH_ ha rfl rfl
       replace ha := AZ.mk ha
       have BX := AZ.mk (Q_BX (hoff 23 rfl))
       have hc_ : w'.cell? ⟨gC, 5, none⟩ = some (vI) := (bc BX.out 5).trans rfl
       refine Zg (w1 := w') (v := vI) (by rfl) rfl (by go_simp; (try simp only [i64_w]); try rfl) ?_
       refine hK.out _ _ ⟨r6, r11, r16, r21, b5, b10, b15, b20, (xI_ ha.out 10 hb_ rfl rfl rfl), Q_ALL0, Q_ALL1, Q_ALL2, Q_ALL3, xB_ (hoff 21 rfl), xB_ (hoff 23 rfl), xB_ (hoff 25 rfl), xB_ (hoff 27 rfl), xA_ (hoff 29 rfl), Q_BX, Q_BK5, Q_BK10, Q_BK15, Q_BK20⟩
      refine Za ?_ ?_
      ·rintro b a w' ⟨r6, r11, r16, r21, b5, b10, b15, b20, ha, Q_ALL0, Q_ALL1, Q_ALL2, Q_ALL3, Q_ALL4, Q_ALL5, Q_ALL6, Q_ALL7, Q_ALL8, Q_BX, Q_BK5, Q_BK10, Q_BK15, Q_BK20⟩ hb_ hon hoff
       refine ⟨_, rfl, fun K hK => ?_⟩
       have e89 : a.tmps[89]? = some (.slice A19 n19 c19) := xH_ ha rfl rfl
       replace ha := AZ.mk ha
       have BX := AZ.mk (Q_BX (hoff 23 rfl))
       refine Zg (w1 := ?_) (v := ?_) (by rfl) rfl ?_ ?_
       rotate_left 2
       ·go_simp
        constructor
        ·rfl
        ·rfl
       refine hK.out _ _ ⟨r6, r11, r16, r21, b5, b10, b15, .slice (some ⟨w'.heap.size, 0, none⟩) 1 1, (xI_ ha.out 11 hb_ rfl rfl rfl), fun h0_ => All.alloc ((Q_ALL0 h0_)) _, fun h0_ h1_ => All.alloc ((Q_ALL1 h0_ h1_)) _, fun h0_ h1_ => All.alloc ((Q_ALL2 h0_ h1_)) _, fun h0_ h1_ => All.alloc ((Q_ALL3 h0_ h1_)) _, xB_ (hoff 21 rfl), xB_ (hoff 23 rfl), xB_ (hoff 25 rfl), xB_ (hoff 27 rfl), xA_ (hoff 29 rfl), fun _ => ba_ (BX.out) _, fun h0_ h1_ => (by obtain ⟨g_, hb_, hg_⟩ := (Q_BK5 h0_ h1_); exact ⟨g_, hb_, ba_ (hg_) _⟩), fun h0_ h1_ => (by obtain ⟨g_, hb_, hg_⟩ := (Q_BK10 h0_ h1_); exact ⟨g_, hb_, ba_ (hg_) _⟩), fun h0_ h1_ => (by obtain ⟨g_, hb_, hg_⟩ := (Q_BK15 h0_ h1_); exact ⟨g_, hb_, ba_ (hg_) _⟩), fun _ _ => ⟨w'.heap.size, rfl, heap_alloc_new w' _⟩⟩
      refine Za ?_ ?_
      ·rintro b a w' ⟨r6, r11, r16, r21, b5, b10, b15, b20, ha, Q_ALL0, Q_ALL1, Q_ALL2, Q_ALL3, Q_ALL4, Q_ALL5, Q_ALL6, Q_ALL7, Q_ALL8, Q_BX, Q_BK5, Q_BK10, Q_BK15, Q_BK20⟩ hb_ hon hoff
       refine ⟨_, rfl, fun K hK => ?_⟩
       have e88 := xG_ ha 10 rfl (hon 18 rfl) rfl rfl
       have e90 := xG_ ha 11 rfl (hon 20 rfl) rfl rfl
       replace ha := AZ.mk ha
       have ALL3 := AZ.mk (Q_ALL3 (hon 16 rfl) hb_)
       have BX := AZ.mk (Q_BX (hoff 23 rfl))
       have BK20 := AZ.mk (Q_BK20 (hon 20 rfl) hb_)
       obtain ⟨g_, hq_, hg_⟩ := BK20.out
       refine All.app_I bap ALL3.out (by rfl) (.tmp 88) (.tmp 90) 25 rfl Try.underlying25 bi49 (Zt e88) g_ ((Zt e90).trans hq_) hg_ (by simp only [LAs, LCs, LRs, LIs, List.length_map, List.length_range]; have := HL0.out; have := HN.out; omega) ?_
       intro v_ w_ ho hfar
       refine hK.out _ _ ⟨r6, r11, r16, v_, b5, b10, b15, b20, (xI_ ha.out 12 hb_ rfl rfl rfl), xD_ (hon 6 rfl), xC_ (hon 11 rfl), xC_ (hon 16 rfl), xC_ (Yd b 21), fun _ _ => ho, xB_ (hoff 23 rfl), xB_ (hoff 25 rfl), xB_ (hoff 27 rfl), xA_ (hoff 29 rfl), fun _ => hfar _ _ _ (BX.out) (by decide), xC_ (hon 6 rfl), xC_ (hon 11 rfl), xC_ (hon 16 rfl), xC_ (Yd b 21)⟩
      refine Za ?_ ?_
      ·rintro b a w' ⟨r6, r11, r16, r21, b5, b10, b15, b20, ha, Q_ALL0, Q_ALL1, Q_ALL2, Q_ALL3, Q_ALL4, Q_ALL5, Q_ALL6, Q_ALL7, Q_ALL8, Q_BX, Q_BK5, Q_BK10, Q_BK15, Q_BK20⟩ hb_ hon hoff
       refine ⟨_, rfl, fun K hK => ?_⟩
       have e15 : a.tmps[15]? = some (.pointer (some ⟨gC, 0, none⟩)) := xH_ ha rfl rfl
       replace ha := AZ.mk ha
       refine Zg (w1 := w') (v := .pointer (some ⟨gC, 2, none⟩)) (by rfl) rfl (by go_simp; (try simp only [i64_w]); try rfl) ?_
       refine hK.out _ _ ⟨r6, r11, r16, r21, b5, b10, b15, b20, (xI_ ha.out 13 hb_ rfl rfl rfl), xD_ (hon 6 rfl), Q_ALL1, Q_ALL2, Q_ALL3, Q_ALL4, xB_ (hoff 23 rfl), xB_ (hoff 25 rfl), xB_ (hoff 27 rfl), xA_ (hoff 29 rfl), Q_BX, xC_ (hon 6 rfl), Q_BK10, Q_BK15, Q_BK20⟩
      refine Za ?_ ?_
      ·rintro b a w' ⟨r6, r11, r16, r21, b5, b10, b15, b20, ha, Q_ALL0, Q_ALL1, Q_ALL2, Q_ALL3, Q_ALL4, Q_ALL5, Q_ALL6, Q_ALL7, Q_ALL8, Q_BX, Q_BK5, Q_BK10, Q_BK15, Q_BK20⟩ hb_ hon hoff
       refine ⟨_, rfl, fun K hK => ?_⟩
       have e92 := xG_ ha 13 rfl (hon 22 rfl) rfl rfl
       have e76 := xG_ ha 3 rfl (hon 6 rfl) rfl rfl
       replace ha := AZ.mk ha
       have ALL4 := AZ.mk (Q_ALL4 (hon 21 rfl) hb_)
       obtain ⟨A_, n_, c_, hr_⟩ := (shapes ALL4.out).2.2.2.2.1
       subst hr_
       have hc_ : w'.cell? ⟨gC, 2, none⟩ = some (vA) := (bc (All.boxC ALL4.out) 2).trans rfl
       have hf_ := bf (All.boxC ALL4.out) 2
       refine skip_ (w1 := ?_) (by rfl) rfl ?_ ?_
       rotate_left
       ·go_simp
        rfl
       refine hK.out _ _ ⟨(.slice A_ n_ c_), r11, r16, r21, b5, b10, b15, b20, (xJ_ ha.out rfl), xD_ (hon 6 rfl), xC_ (hon 11 rfl), xC_ (hon 16 rfl), xC_ (hon 21 rfl), xC_ (Yd b 23), fun _ _ => (All.set bap ALL4.out 2 _), xB_ (hoff 25 rfl), xB_ (hoff 27 rfl), xA_ (hoff 29 rfl), xD_ (Yd b 23), xC_ (hon 6 rfl), xC_ (hon 11 rfl), xC_ (hon 16 rfl), xC_ (hon 21 rfl)⟩
      refine Za ?_ ?_
      ·rintro b a w' ⟨r6, r11, r16, r21, b5, b10, b15, b20, ha, Q_ALL0, Q_ALL1, Q_ALL2, Q_ALL3, Q_ALL4, Q_ALL5, Q_ALL6, Q_ALL7, Q_ALL8, Q_BX, Q_BK5, Q_BK10, Q_BK15, Q_BK20⟩ hb_ hon hoff
       refine ⟨_, rfl, fun K hK => ?_⟩
       have e15 : a.tmps[15]? = some (.pointer (some ⟨gC, 0, none⟩)) := xH_ ha rfl rfl
       replace ha := AZ.mk ha
       refine Zg (w1 := w') (v := .pointer (some ⟨gC, 3, none⟩)) (by rfl) rfl (by go_simp; (try simp only [i64_w]); try rfl) ?_
       refine hK.out _ _ ⟨r6, r11, r16, r21, b5, b10, b15, b20, (xI_ ha.out 14 hb_ rfl rfl rfl), xD_ (hon 6 rfl), xC_ (hon 11 rfl), xC_ (hon 16 rfl), xC_ (hon 21 rfl), xC_ (hon 23 rfl), Q_ALL5, xB_ (hoff 25 rfl), xB_ (hoff 27 rfl), xA_ (hoff 29 rfl), xD_ (hon 23 rfl), xC_ (hon 6 rfl), xC_ (hon 11 rfl), xC_ (hon 16 rfl), xC_ (hon 21 rfl)⟩
      refine Za ?_ ?_
      ·rintro b a w' ⟨r6, r11, r16, r21, b5, b10, b15, b20, ha, Q_ALL0, Q_ALL1, Q_ALL2, Q_ALL3, Q_ALL4, Q_ALL5, Q_ALL6, Q_ALL7, Q_ALL8, Q_BX, Q_BK5, Q_BK10, Q_BK15, Q_BK20⟩ hb_ hon hoff
       refine ⟨_, rfl, fun K hK => ?_⟩
       have e93 := xG_ ha 14 rfl (hon 24 rfl) rfl rfl
       have e81 := xG_ ha 6 rfl (hon 11 rfl) rfl rfl
       replace ha := AZ.mk ha
       have ALL5 := AZ.mk (Q_ALL5 (hon 23 rfl) hb_)
       obtain ⟨A_, n_, c_, hr_⟩ := (shapes ALL5.out).2.2.2.2.2.1
       subst hr_
       have hc_ : w'.cell? ⟨gC, 3, none⟩ = some (vC) := (bc (All.boxC ALL5.out) 3).trans rfl
       have hf_ := bf (All.boxC ALL5.out) 3
       refine skip_ (w1 := ?_) (by rfl) rfl ?_ ?_
       rotate_left
       ·go_simp
        rfl
       refine hK.out _ _ ⟨r6, (.slice A_ n_ c_), r16, r21, b5, b10, b15, b20, (xJ_ ha.out rfl), xD_ (hon 6 rfl), xC_ (hon 11 rfl), xC_ (hon 16 rfl), xC_ (hon 21 rfl), xC_ (hon 23 rfl), xC_ (Yd b 25), fun _ _ => (All.set bap ALL5.out 3 _), xB_ (hoff 27 rfl), xA_ (hoff 29 rfl), xD_ (hon 23 rfl), xC_ (hon 6 rfl), xC_ (hon 11 rfl), xC_ (hon 16 rfl), xC_ (hon 21 rfl)⟩
      refine Za ?_ ?_
      ·rintro b a w' ⟨r6, r11, r16, r21, b5, b10, b15, b20, ha, Q_ALL0, Q_ALL1, Q_ALL2, Q_ALL3, Q_ALL4, Q_ALL5, Q_ALL6, Q_ALL7, Q_ALL8, Q_BX, Q_BK5, Q_BK10, Q_BK15, Q_BK20⟩ hb_ hon hoff
       refine ⟨_, rfl, fun K hK => ?_⟩
       have e15 : a.tmps[15]? = some (.pointer (some ⟨gC, 0, none⟩)) := xH_ ha rfl rfl
       replace ha := AZ.mk ha
       refine Zg (w1 := w') (v := .pointer (some ⟨gC, 4, none⟩)) (by rfl) rfl (by go_simp; (try simp only [i64_w]); try rfl) ?_
       refine hK.out _ _ ⟨r6, r11, r16, r21, b5, b10, b15, b20, (xI_ ha.out 15 hb_ rfl rfl rfl), xD_ (hon 6 rfl), xC_ (hon 11 rfl), xC_ (hon 16 rfl), xC_ (hon 21 rfl), xC_ (hon 23 rfl), xC_ (hon 25 rfl), Q_ALL6, xB_ (hoff 27 rfl), xA_ (hoff 29 rfl), xD_ (hon 23 rfl), xC_ (hon 6 rfl), xC_ (hon 11 rfl), xC_ (hon 16 rfl), xC_ (hon 21 rfl)⟩
      refine Za ?_ ?_
      ·rintro b a w' ⟨r6, r11, r16, r21, b5, b10, b15, b20, ha, Q_ALL0, Q_ALL1, Q_ALL2, Q_ALL3, Q_ALL4, Q_ALL5, Q_ALL6, Q_ALL7, Q_ALL8, Q_BX, Q_BK5, Q_BK10, Q_BK15, Q_BK20⟩ hb_ hon hoff
       refine ⟨_, rfl, fun K hK => ?_⟩
       have e94 := xG_ ha 15 rfl (hon 26 rfl) rfl rfl
       have e86 := xG_ ha 9 rfl (hon 16 rfl) rfl rfl
       replace ha := AZ.mk ha
       have ALL6 := AZ.mk (Q_ALL6 (hon 25 rfl) hb_)
       obtain ⟨A_, n_, c_, hr_⟩ := (shapes ALL6.out).2.2.2.2.2.2.1
       subst hr_
       have hc_ : w'.cell? ⟨gC, 4, none⟩ = some (vR) := (bc (All.boxC ALL6.out) 4).trans rfl
       have hf_ := bf (All.boxC ALL6.out) 4
       refine skip_ (w1 := ?_) (by rfl) rfl ?_ ?_
       rotate_left
       ·go_simp
        rfl
       refine hK.out _ _ ⟨r6, r11, (.slice A_ n_ c_), r21, b5, b10, b15, b20, (xJ_ ha.out rfl), xD_ (hon 6 rfl), xC_ (hon 11 rfl), xC_ (hon 16 rfl), xC_ (hon 21 rfl), xC_ (hon 23 rfl), xC_ (hon 25 rfl), xC_ (Yd b 27), fun _ _ => (All.set bap ALL6.out 4 _), xA_ (hoff 29 rfl), xD_ (hon 23 rfl), xC_ (hon 6 rfl), xC_ (hon 11 rfl), xC_ (hon 16 rfl), xC_ (hon 21 rfl)⟩
      refine Za ?_ ?_
      ·rintro b a w' ⟨r6, r11, r16, r21, b5, b10, b15, b20, ha, Q_ALL0, Q_ALL1, Q_ALL2, Q_ALL3, Q_ALL4, Q_ALL5, Q_ALL6, Q_ALL7, Q_ALL8, Q_BX, Q_BK5, Q_BK10, Q_BK15, Q_BK20⟩ hb_ hon hoff
       refine ⟨_, rfl, fun K hK => ?_⟩
       have e15 : a.tmps[15]? = some (.pointer (some ⟨gC, 0, none⟩)) := xH_ ha rfl rfl
       replace ha := AZ.mk ha
       refine Zg (w1 := w') (v := .pointer (some ⟨gC, 5, none⟩)) (by rfl) rfl (by go_simp; (try simp only [i64_w]); try rfl) ?_
       refine hK.out _ _ ⟨r6, r11, r16, r21, b5, b10, b15, b20, (xI_ ha.out 16 hb_ rfl rfl rfl), xD_ (hon 6 rfl), xC_ (hon 11 rfl), xC_ (hon 16 rfl), xC_ (hon 21 rfl), xC_ (hon 23 rfl), xC_ (hon 25 rfl), xC_ (hon 27 rfl), Q_ALL7, xA_ (hoff 29 rfl), xD_ (hon 23 rfl), xC_ (hon 6 rfl), xC_ (hon 11 rfl), xC_ (hon 16 rfl), xC_ (hon 21 rfl)⟩
      refine Za ?_ ?_
      ·rintro b a w' ⟨r6, r11, r16, r21, b5, b10, b15, b20, ha, Q_ALL0, Q_ALL1, Q_ALL2, Q_ALL3, Q_ALL4, Q_ALL5, Q_ALL6, Q_ALL7, Q_ALL8, Q_BX, Q_BK5, Q_BK10, Q_BK15, Q_BK20⟩ hb_ hon hoff
       refine ⟨_, rfl, fun K hK => ?_⟩
       have e95 := xG_ ha 16 rfl (hon 28 rfl) rfl rfl
       have e91 := xG_ ha 12 rfl (hon 21 rfl) rfl rfl
       replace ha := AZ.mk ha
       have ALL7 := AZ.mk (Q_ALL7 (hon 27 rfl) hb_)
       obtain ⟨A_, n_, c_, hr_⟩ := (shapes ALL7.out).2.2.2.2.2.2.2
       subst hr_
       have hc_ : w'.cell? ⟨gC, 5, none⟩ = some (vI) := (bc (All.boxC ALL7.out) 5).trans rfl
       have hf_ := bf (All.boxC ALL7.out) 5
       refine skip_ (w1 := ?_) (by rfl) rfl ?_ ?_
       rotate_left
       ·go_simp
        rfl
       refine hK.out _ _ ⟨r6, r11, r16, (.slice A_ n_ c_), b5, b10, b15, b20, (xJ_ ha.out rfl), xD_ (hon 6 rfl), xC_ (hon 11 rfl), xC_ (hon 16 rfl), xC_ (hon 21 rfl), xC_ (hon 23 rfl), xC_ (hon 25 rfl), xC_ (hon 27 rfl), xC_ (Yd b 29), fun _ => (All.set bap ALL7.out 5 _), xD_ (hon 23 rfl), xC_ (hon 6 rfl), xC_ (hon 11 rfl), xC_ (hon 16 rfl), xC_ (hon 21 rfl)⟩
      exact steps_nil
     ·rintro b a w' hall ⟨r6, r11, r16, r21, b5, b10, b15, b20, ha, Q_ALL0, Q_ALL1, Q_ALL2, Q_ALL3, Q_ALL4, Q_ALL5, Q_ALL6, Q_ALL7, Q_ALL8, Q_BX, Q_BK5, Q_BK10, Q_BK15, Q_BK20⟩
      clear ALL0 BX
      have hb1_ := hall 1 (by kernel_rfl)
      have hb4_ := hall 4 (by kernel_rfl)
      have hb5_ := hall 5 (by kernel_rfl)
      have hb6_ := hall 6 (by kernel_rfl)
      have hb8_ := hall 8 (by kernel_rfl)
      have hb10_ := hall 10 (by kernel_rfl)
      have hb11_ := hall 11 (by kernel_rfl)
      have hb13_ := hall 13 (by kernel_rfl)
      have hb15_ := hall 15 (by kernel_rfl)
      have hb16_ := hall 16 (by kernel_rfl)
      have hb18_ := hall 18 (by kernel_rfl)
      have hb20_ := hall 20 (by kernel_rfl)
      have hb21_ := hall 21 (by kernel_rfl)
      have hb22_ := hall 22 (by kernel_rfl)
      have hb23_ := hall 23 (by kernel_rfl)
      have hb24_ := hall 24 (by kernel_rfl)
      have hb25_ := hall 25 (by kernel_rfl)
      have hb26_ := hall 26 (by kernel_rfl)
      have hb27_ := hall 27 (by kernel_rfl)
      have hb28_ := hall 28 (by kernel_rfl)
      have hb29_ := hall 29 (by kernel_rfl)
      subst ha
      simp only [Zz, hb1_, hb4_, hb5_, hb6_, hb8_, hb10_, hb11_, hb13_, hb15_, hb16_, hb18_, hb20_, hb21_, hb22_, hb23_, hb24_, hb25_, hb26_, hb27_, hb28_, hb29_, if_true, Act.put, sA, sB, sC]
      clear Q_ALL0
      clear Q_ALL1
      clear Q_ALL2
      clear Q_ALL3
      clear Q_ALL4
      clear Q_ALL5
      clear Q_ALL6
      clear Q_ALL7
      have ALL8 := AZ.mk (Q_ALL8 hb29_)
      clear Q_ALL8
      clear Q_BX
      clear Q_BK5
      clear Q_BK10
      clear Q_BK15
      clear Q_BK20
      clear hall hb1_ hb4_ hb5_ hb6_ hb8_ hb10_ hb11_ hb13_ hb15_ hb16_ hb18_ hb20_ hb21_ hb22_ hb23_ hb24_ hb25_ hb26_ hb27_ hb28_ hb29_
      go_wp2
      go_roundg gk0
      case measure => have := HK0.out; omega
      case rel => exact ⟨s + 1, r6, r11, r16, r21, by simp only [Value.int.injEq, true_and]; rw [bw _ (by omega) (by have := HN.out; have := HL0.out; omega)]; omega, ⟨by have := HK0.out; omega⟩, ⟨by have := HL0.out; omega⟩, ⟨by rw [LAs_succ, LCs_succ, LRs_succ, LIs_succ]; exact ALL8.out⟩⟩
  ·have HX := AZ.mk (show s = n by have := HS.out; omega)
   have c1 : decide ((s : Int) < (n : Int)) = false := dF (by omega)
   have c2 : decide (s < n) = false := dF hlt
   clear hlt
   obtain rfl := HX.out
   go_wp2_with (first | ((with_reducible refine gate_ (.load 27 (.tmp 15)) rfl ?_); refine load27 rfl 15 rfl (g := gC) rfl (All.boxC HO.out) rfl ?_) | ((with_reducible refine gate_ (.store 27 (.tmp 14) (.tmp 97)) rfl ?_); refine store27 rfl 14 97 rfl (g := gZ) (old := cZ) (cs := cellsC m st vA vC vR vI) rfl rfl (All.boxZ HO.out) rfl rfl (cells_one HO.out) ?_; intro w9 hbx hB hfar))
   refine bodyPost_ret (results_cell_row rfl _ _ gZ 27 (cellsC m st vA vC vR vI) (0, 0) _ rfl hbx Try.underlying27 rfl (by kernel_rfl)) rfl ?_
   exact ⟨vA, vC, vR, vI, rfl, own_out HO.out hfar, hB _ _ (All.blw HO.out) HO.out.2.2.2.1.2.1⟩
end
def upI (a : Int) (n : Nat) : List Int := (List.range n).map fun (i : Nat) => a + (i : Int)
def upP (a : Int) (n : Nat) : List S47 := (List.range n).map fun (i : Nat) => ⟨a + 2 * (i : Int), a + 2 * (i : Int) + 1⟩
def upB (a : Int) (n : Nat) : List Bool := (List.range n).map fun (i : Nat) => (Int.tmod (a + (i : Int)) 3 == 0)
theorem upI_succ (a : Int) (n : Nat) : upI a (n + 1) = upI a n ++ [a + (n : Int)] := by simp [upI, List.range_succ]
theorem upP_succ (a : Int) (n : Nat) : upP a (n + 1) = upP a n ++ [⟨a + 2 * (n : Int), a + 2 * (n : Int) + 1⟩] := by simp [upP, List.range_succ]
theorem upB_succ (a : Int) (n : Nat) : upB a (n + 1) = upB a n ++ [(Int.tmod (a + (n : Int)) 3 == 0)] := by simp [upB, List.range_succ]
theorem upI_len (a : Int) (n : Nat) : (upI a n).length = n := by simp [upI]
theorem upP_len (a : Int) (n : Nat) : (upP a n).length = n := by simp [upP]
theorem upB_len (a : Int) (n : Nat) : (upB a n).length = n := by simp [upB]
theorem upI_get (a : Int) (n j : Nat) (h : j < n) : rd (upI a n) j = a + j := by
 unfold rd upI
 rw [Int.toNat_natCast, List.getD_eq_getElem?_getD, List.getElem?_map, List.getElem?_range h]; rfl
theorem upP_get (a : Int) (n j : Nat) (h : j < n) : Zb (upP a n) j = ⟨a + 2 * (j : Int), a + 2 * (j : Int) + 1⟩ := by
 unfold Zb upP
 rw [Int.toNat_natCast, List.getD_eq_getElem?_getD, List.getElem?_map, List.getElem?_range h]; rfl
theorem upB_get (a : Int) (n j : Nat) (h : j < n) : rdOf false (upB a n) j = (Int.tmod (a + (j : Int)) 3 == 0) := by
 unfold rdOf upB
 rw [Int.toNat_natCast, List.getD_eq_getElem?_getD, List.getElem?_map, List.getElem?_range h]; rfl
theorem markI (l : List Int) (hl : l.length ≤ 1048576) (a : Int) (h0 : 0 ≤ a) (h1 : a ≤ 4611686018427387904) : ∀ d i k : Nat, i + d = l.length → d < k →
  laws_markInt64S.l0 k (upI a i ++ l.drop i) (a + i) i = some (a + (l.length : Int), upI a l.length)
 | _, _, 0, _, hk => by omega
 | 0, i, k + 1, hi, _ => by
  obtain rfl : i = l.length := by omega
  have : (upI a l.length ++ l.drop l.length).length = l.length := by simp [upI_len]
  simp only [laws_markInt64S.l0, this, if_neg (show ¬ (l.length : Int) < (l.length : Int) by omega)]
  simp
 | d + 1, i, k + 1, hi, hk => by
  have hnext := markI l hl a h0 h1 d (i + 1) k (by omega) (by omega)
  have hlen : (upI a i ++ l.drop i).length = l.length := by simp [upI_len]; omega
  have hset : (upI a i ++ l.drop i).set i (a + i) = upI a (i + 1) ++ l.drop (i + 1) := by
   rw [List.drop_eq_getElem_cons (by omega : i < l.length), List.set_append_right _ _ (by rw [upI_len]; exact Nat.le_refl _), upI_len, Nat.sub_self, sB, upI_succ, List.append_assoc]
   rfl
  have f3 : wrap64 ((i : Int) + 1) = ((i + 1 : Nat) : Int) := by rw [bw' _ (by omega) (by omega)]; omega
  have f4 : wrap64 (a + (i : Int) + 1) = a + ((i + 1 : Nat) : Int) := by rw [bw' _ (by omega) (by omega)]; omega
  simp only [laws_markInt64S.l0, hlen, if_pos (show (i : Int) < (l.length : Int) by omega), if_pos (show (0 : Int) ≤ (i : Int) by omega), f3, f4, Int.toNat_natCast, hset]
  exact hnext
theorem markP (l : List S47) (hl : l.length ≤ 1048576) (a : Int) (h0 : 0 ≤ a) (h1 : a ≤ 4611686018427387904) : ∀ d i k : Nat, i + d = l.length → d < k →
  laws_markPushS.l0 k (upP a i ++ l.drop i) (a + 2 * (i : Int)) i = some (a + 2 * (l.length : Int), upP a l.length)
 | _, _, 0, _, hk => by omega
 | 0, i, k + 1, hi, _ => by
  obtain rfl : i = l.length := by omega
  have : (upP a l.length ++ l.drop l.length).length = l.length := by simp [upP_len]
  simp only [laws_markPushS.l0, this, if_neg (show ¬ (l.length : Int) < (l.length : Int) by omega)]
  simp
 | d + 1, i, k + 1, hi, hk => by
  have hnext := markP l hl a h0 h1 d (i + 1) k (by omega) (by omega)
  have hlen : (upP a i ++ l.drop i).length = l.length := by simp [upP_len]; omega
  have hset : ∀ u z, ((upP a i ++ l.drop i).set i u).set i z = upP a i ++ z :: l.drop (i + 1) := by
   intro u z
   rw [List.set_set, List.drop_eq_getElem_cons (by omega : i < l.length), List.set_append_right _ _ (by rw [upP_len]; exact Nat.le_refl _), upP_len, Nat.sub_self, sB]
  have hget : ∀ u, Zb ((upP a i ++ l.drop i).set i u) i = u := by
   intro u
   unfold Zb
   rw [Int.toNat_natCast, List.getD_eq_getElem?_getD, List.getElem?_set_self (by rw [hlen]; omega)]; rfl
  have f3 : wrap64 ((i : Int) + 1) = ((i + 1 : Nat) : Int) := by rw [bw' _ (by omega) (by omega)]; omega
  have f4 : wrap64 (a + 2 * (i : Int) + 1) = a + 2 * (i : Int) + 1 := bw' _ (by omega) (by omega)
  have f5 : wrap64 (a + 2 * (i : Int) + 1 + 1) = a + 2 * ((i + 1 : Nat) : Int) := by rw [bw' _ (by omega) (by omega)]; omega
  simp only [laws_markPushS.l0, hlen, if_pos (show (i : Int) < (l.length : Int) by omega), if_pos (show (0 : Int) ≤ (i : Int) by omega), f3, f4, f5, Int.toNat_natCast, hset, hget, Option.bind_some]
  rw [upP_succ, List.append_assoc] at hnext
  exact hnext
theorem markB (l : List Bool) (hl : l.length ≤ 1048576) (a : Int) (h0 : 0 ≤ a) (h1 : a ≤ 4611686018427387904) : ∀ d i k : Nat, i + d = l.length → d < k →
  laws_markBoolS.l0 k (upB a i ++ l.drop i) (a + i) i = some (a + (l.length : Int), upB a l.length)
 | _, _, 0, _, hk => by omega
 | 0, i, k + 1, hi, _ => by
  obtain rfl : i = l.length := by omega
  have : (upB a l.length ++ l.drop l.length).length = l.length := by simp [upB_len]
  simp only [laws_markBoolS.l0, this, if_neg (show ¬ (l.length : Int) < (l.length : Int) by omega)]
  simp
 | d + 1, i, k + 1, hi, hk => by
  have hnext := markB l hl a h0 h1 d (i + 1) k (by omega) (by omega)
  have hlen : (upB a i ++ l.drop i).length = l.length := by simp [upB_len]; omega
  have hset : ∀ z, (upB a i ++ l.drop i).set i z = upB a i ++ z :: l.drop (i + 1) := by
   intro z
   rw [List.drop_eq_getElem_cons (by omega : i < l.length), List.set_append_right _ _ (by rw [upB_len]; exact Nat.le_refl _), upB_len, Nat.sub_self, sB]
  have f3 : wrap64 ((i : Int) + 1) = ((i + 1 : Nat) : Int) := by rw [bw' _ (by omega) (by omega)]; omega
  have f4 : wrap64 (a + (i : Int) + 1) = a + ((i + 1 : Nat) : Int) := by rw [bw' _ (by omega) (by omega)]; omega
  simp only [laws_markBoolS.l0, hlen, if_pos (show (i : Int) < (l.length : Int) by omega), if_pos (show (0 : Int) ≤ (i : Int) by omega), f3, f4, Int.toNat_natCast, hset]
  rw [upB_succ, List.append_assoc] at hnext
  exact hnext
theorem heldI (n : Nat) (hl : n ≤ 1048576) (a : Int) (h0 : 0 ≤ a) (h1 : a ≤ 4611686018427387904) : ∀ d i k : Nat, i + d = n → d < k → laws_heldInt64S.l0 k (upI a n) (a + i) i = some (a + (n : Int))
 | _, _, 0, _, hk => by omega
 | 0, i, k + 1, hi, _ => by
  obtain rfl : i = n := by omega
  simp only [laws_heldInt64S.l0, upI_len, if_neg (show ¬ (i : Int) < (i : Int) by omega)]
 | d + 1, i, k + 1, hi, hk => by
  have hnext := heldI n hl a h0 h1 d (i + 1) k (by omega) (by omega)
  have f3 : wrap64 ((i : Int) + 1) = ((i + 1 : Nat) : Int) := by rw [bw' _ (by omega) (by omega)]; omega
  have f4 : wrap64 (a + (i : Int) + 1) = a + ((i + 1 : Nat) : Int) := by rw [bw' _ (by omega) (by omega)]; omega
  simp only [laws_heldInt64S.l0, upI_len, if_pos (show (i : Int) < (n : Int) by omega), if_pos (show (0 : Int) ≤ (i : Int) by omega), f3, f4, upI_get a n i (by omega), if_true]
  exact hnext
theorem heldP (n : Nat) (hl : n ≤ 1048576) (a : Int) (h0 : 0 ≤ a) (h1 : a ≤ 4611686018427387904) : ∀ d i k : Nat, i + d = n → d < k → laws_heldPushS.l0 k (upP a n) (a + 2 * (i : Int)) i = some (a + 2 * (n : Int))
 | _, _, 0, _, hk => by omega
 | 0, i, k + 1, hi, _ => by
  obtain rfl : i = n := by omega
  simp only [laws_heldPushS.l0, upP_len, if_neg (show ¬ (i : Int) < (i : Int) by omega)]
 | d + 1, i, k + 1, hi, hk => by
  have hnext := heldP n hl a h0 h1 d (i + 1) k (by omega) (by omega)
  have f3 : wrap64 ((i : Int) + 1) = ((i + 1 : Nat) : Int) := by rw [bw' _ (by omega) (by omega)]; omega
  have f4 : wrap64 (a + 2 * (i : Int) + 1) = a + 2 * (i : Int) + 1 := bw' _ (by omega) (by omega)
  have f5 : wrap64 (a + 2 * (i : Int) + 1 + 1) = a + 2 * ((i + 1 : Nat) : Int) := by rw [bw' _ (by omega) (by omega)]; omega
  simp only [laws_heldPushS.l0, upP_len, if_pos (show (i : Int) < (n : Int) by omega), if_pos (show (0 : Int) ≤ (i : Int) by omega), f3, f4, f5, upP_get a n i (by omega), if_true]
  exact hnext
theorem heldB (n : Nat) (hl : n ≤ 1048576) (a : Int) (h0 : 0 ≤ a) (h1 : a ≤ 4611686018427387904) : ∀ d i k : Nat, i + d = n → d < k → laws_heldBoolS.l0 k (upB a n) (a + i) i = some (a + (n : Int))
 | _, _, 0, _, hk => by omega
 | 0, i, k + 1, hi, _ => by
  obtain rfl : i = n := by omega
  simp only [laws_heldBoolS.l0, upB_len, if_neg (show ¬ (i : Int) < (i : Int) by omega)]
 | d + 1, i, k + 1, hi, hk => by
  have hnext := heldB n hl a h0 h1 d (i + 1) k (by omega) (by omega)
  have f3 : wrap64 ((i : Int) + 1) = ((i + 1 : Nat) : Int) := by rw [bw' _ (by omega) (by omega)]; omega
  have f4 : wrap64 (a + (i : Int) + 1) = a + ((i + 1 : Nat) : Int) := by rw [bw' _ (by omega) (by omega)]; omega
  simp only [laws_heldBoolS.l0, upB_len, if_pos (show (i : Int) < (n : Int) by omega), if_pos (show (0 : Int) ≤ (i : Int) by omega), f3, f4, upB_get a n i (by omega), bne_self_eq_false, Bool.false_eq_true, if_false]
  exact hnext
section
variable {α : Type} (sz : α → Nat) (mk : α → Int → α)
theorem mks_get (xs : List α) (a : Int) (i : Nat) (h : i < xs.length) (z : α) : (mks sz mk xs a).getD i z = mk xs[i] (a + (tot sz (xs.take i) : Int)) := by
 have h1 : (mks sz mk (xs.take i) a).length = i := by rw [mks_length, lT]; omega
 conv => lhs; rw [← List.take_append_drop i xs, List.drop_eq_getElem_cons h, mks_append, mks]
 rw [List.getD_eq_getElem?_getD, List.getElem?_append_right (by omega), h1, Nat.sub_self]
 rfl
theorem helds {β : Type} (L : Nat → List β → Int → Int → Option Int) (f : Nat → β → Int → Option Int) (rdg : List β → Int → β) (z : β) (hrd : ∀ l (j : Nat), rdg l (j : Int) = l.getD j z)
  (hL : ∀ k x0 x1 x5, L (k + 1) x0 x1 x5 = if x5 < (x0.length : Int) then (if 0 ≤ x5 then ((f k (rdg x0 x5) x1).bind fun t => (if t < 0 then (some (-1)) else (L k x0 t (wrap64 (x5 + 1))))) else none) else some x1)
  (sz : β → Nat) (mk : β → Int → β) (xs : List β) (hl : xs.length ≤ 1048576) (a : Int) (h0 : 0 ≤ a) (M : Nat)
  (hf : ∀ i (h : i < xs.length) k, M ≤ k → f k (mk xs[i] (a + (tot sz (xs.take i) : Int))) (a + (tot sz (xs.take i) : Int)) = some (a + (tot sz (xs.take i) : Int) + (sz xs[i] : Int))) :
  ∀ d i k : Nat, i + d = xs.length → d + M < k → L k (mks sz mk xs a) (a + (tot sz (xs.take i) : Int)) i = some (a + (tot sz xs : Int))
 | _, _, 0, _, hk => by omega
 | 0, i, k + 1, hi, _ => by
  obtain rfl : i = xs.length := by omega
  rw [hL, mks_length, if_neg (by omega), List.take_length]
 | d + 1, i, k + 1, hi, hk => by
  have hnext := helds L f rdg z hrd hL sz mk xs hl a h0 M hf d (i + 1) k (by omega) (by omega)
  have f3 : wrap64 ((i : Int) + 1) = ((i + 1 : Nat) : Int) := by rw [bw' _ (by omega) (by omega)]; omega
  rw [hL, mks_length, if_pos (by omega), if_pos (by omega), hrd, mks_get sz mk xs a i (by omega), hf i (by omega) k (by omega), Option.bind_some, if_neg (by omega), f3]
  rw [tot_succ sz xs i (by omega)] at hnext
  rw [Int.natCast_add, ← Int.add_assoc] at hnext
  exact hnext
end
def szI (x : List Int) : Nat := x.length
def szP (x : List S47) : Nat := 2 * x.length
def mkI (x : List Int) (a : Int) : List Int := upI a x.length
def mkP (x : List S47) (a : Int) : List S47 := upP a x.length
def szII : List (List Int) → Nat := tot szI
def mkII : List (List Int) → Int → List (List Int) := mks szI mkI
def okI (x : List Int) : Prop := x.length ≤ 1048576
def okP (x : List S47) : Prop := x.length ≤ 1048576
def okII (x : List (List Int)) : Prop := x.length ≤ 1048576 ∧ ∀ y ∈ x, okI y
theorem heldPP (xs : List (List S47)) (hl : xs.length ≤ 1048576) (hx : ∀ x ∈ xs, okP x) (a : Int) (h0 : 0 ≤ a) (h1 : a + (tot szP xs : Int) ≤ 4611686018427387904) (k : Nat) (hk : 3000000 < k) : laws_heldPushSS.f k (mks szP mkP xs a) a = some (a + (tot szP xs : Int)) := by
 show laws_heldPushSS.l0 k (mks szP mkP xs a) a 0 = _
 have := helds laws_heldPushSS.l0 laws_heldPushS.f Zd [] (fun l j => by unfold Zd; rw [Int.toNat_natCast]) (fun _ _ _ _ => rfl) szP mkP xs hl a h0 1048577 (fun i h k hk => ?_) xs.length 0 k (by omega) (by omega)
 ·simpa [tot] using this
 ·have ht := tot_take_le szP xs i
  have ho : xs[i].length ≤ 1048576 := hx _ (List.getElem_mem h)
  have := heldP xs[i].length ho (a + (tot szP (xs.take i) : Int)) (by omega) (by omega) xs[i].length 0 k (by omega) (by omega)
  simpa [laws_heldPushS.f, mkP, szP] using this
theorem heldII (xs : List (List Int)) (hx : okII xs) (a : Int) (h0 : 0 ≤ a) (h1 : a + (tot szI xs : Int) ≤ 4611686018427387904) (k : Nat) (hk : 3000000 < k) : laws_heldInt64SS.f k (mkII xs a) a = some (a + (szII xs : Int)) := by
 show laws_heldInt64SS.l0 k (mks szI mkI xs a) a 0 = some (a + (tot szI xs : Int))
 have := helds laws_heldInt64SS.l0 laws_heldInt64S.f rd_L4 [] (fun l j => by unfold rd_L4; rw [Int.toNat_natCast]) (fun _ _ _ _ => rfl) szI mkI xs hx.1 a h0 1048577 (fun i h k hk => ?_) xs.length 0 k (by omega) (by have := hx.1; omega)
 ·simpa [tot] using this
 ·have ht := tot_take_le szI xs i
  have ho : xs[i].length ≤ 1048576 := hx.2 _ (List.getElem_mem h)
  have := heldI xs[i].length ho (a + (tot szI (xs.take i) : Int)) (by omega) (by omega) xs[i].length 0 k (by omega) (by omega)
  simpa [laws_heldInt64S.f, mkI, szI] using this
theorem tot_le {α : Type} (sz : α → Nat) : ∀ (xs : List α) (i : Nat) (h : i < xs.length), tot sz (xs.take i) + sz xs[i] ≤ tot sz xs := by
 intro xs i h
 rw [← tot_succ sz xs i h]
 exact tot_take_le sz xs (i + 1)
theorem heldIII (xs : List (List (List Int))) (hl : xs.length ≤ 1048576) (hx : ∀ x ∈ xs, okII x) (a : Int) (h0 : 0 ≤ a) (h1 : a + (tot szII xs : Int) ≤ 4611686018427387904) (k : Nat) (hk : 6000000 < k) : laws_heldInt64SSS.f k (mks szII mkII xs a) a = some (a + (tot szII xs : Int)) := by
 show laws_heldInt64SSS.l0 k (mks szII mkII xs a) a 0 = _
 have := helds laws_heldInt64SSS.l0 laws_heldInt64SS.f rd_L5 [] (fun l j => by unfold rd_L5; rw [Int.toNat_natCast]) (fun _ _ _ _ => rfl) szII mkII xs hl a h0 3000001 (fun i h k hk => ?_) xs.length 0 k (by omega) (by omega)
 ·simpa [tot] using this
 ·have ht := tot_le szII xs i h
  exact heldII xs[i] (hx _ (List.getElem_mem h)) _ (by omega) (by show a + (tot szII (xs.take i) : Int) + (szII xs[i] : Int) ≤ _; omega) k (by omega)
theorem ownB {α : Type} {d : Kd α} {e : TypeId} {W W' : World} {w0 : World} {u : Value} {x y : List α} {oki : Nat → Prop} (hd : ∀ {ok1 ok2 : Nat → Prop} {x : α} {cs : List Value}, d.M W' w0.heap.size ok1 x cs → d.M W' w0.heap.size ok2 x cs) (h : d.R e W w0.heap.size oki u x) (h' : d.R e W' w0.heap.size (fun k_ => (oki k_ ∨ W.heap.size ≤ k_)) u y) : d.R e W' w0.heap.size oki u y :=
 Kd.R_flat hd h' (fun k hk _ => h.1 k hk)
theorem markPushSS_calls (w0 : World) (v : Value) (xs : List (List S47)) (a : Int) (ok : Nat → Prop) (w : World) (hlen : xs.length ≤ 1048576) (hx : ∀ x ∈ xs, okP x) (h0 : 0 ≤ a) (h1 : a + (tot szP xs : Int) ≤ 4611686018427387904) (hB : Below w0.heap.size w0 w) (hS : Kd.S (Kd.slice 47 k47) 48 w w0.heap.size ok v xs) :
  Calls Try.prog 39 #[v, .int .i64 a] w fun e w' => e = .returned (.int .i64 (a + (tot szP xs : Int))) ∧ Kd.S (Kd.slice 47 k47) 48 w' w0.heap.size ok v (mks szP mkP xs a) ∧ Below w0.heap.size w0 w' ∧ Kept w w' ok := by
 refine markPushSS_walk szP mkP (fun x a => okP x ∧ 0 ≤ a ∧ a ≤ 4611686018427387904) w0 (fun W u x a oki hp hB hR => ?_) v xs a ok w (fun i h => ⟨hx _ (List.getElem_mem h), by omega, by have := tot_le szP xs i h; omega⟩) hlen hB hS
 have hm := markP x hp.1 a hp.2.1 hp.2.2 x.length 0 (x.length + 1) (by omega) (by omega)
 refine (laws_markPushS.calls (x.length + 1) oki u x a (a + 2 * (x.length : Int)) (upP a x.length) w0 W hB hR (by simpa [laws_markPushS.f, upP] using hm)).mono ?_
 rintro e W' ⟨rfl, hR2, hB2, hK⟩
 exact ⟨by unfold szP; simp, ownB (fun h => h) hR hR2, hB2, hK⟩
theorem markInt64SS_calls (w0 : World) (v : Value) (xs : List (List Int)) (a : Int) (ok : Nat → Prop) (w : World) (hx : okII xs) (h0 : 0 ≤ a) (h1 : a + (szII xs : Int) ≤ 4611686018427387904) (hB : Below w0.heap.size w0 w) (hS : Kd.S (Kd.slice 2 (Kd.int .i64)) 49 w w0.heap.size ok v xs) :
  Calls Try.prog 41 #[v, .int .i64 a] w fun e w' => e = .returned (.int .i64 (a + (szII xs : Int))) ∧ Kd.S (Kd.slice 2 (Kd.int .i64)) 49 w' w0.heap.size ok v (mkII xs a) ∧ Below w0.heap.size w0 w' ∧ Kept w w' ok := by
 refine markInt64SS_walk szI mkI (fun x a => okI x ∧ 0 ≤ a ∧ a ≤ 4611686018427387904) w0 (fun W u x a oki hp hB hR => ?_) v xs a ok w (fun i h => ⟨hx.2 _ (List.getElem_mem h), by omega, by have := tot_le szI xs i h; have : szII xs = tot szI xs := rfl; omega⟩) hx.1 hB hS
 have hm := markI x hp.1 a hp.2.1 hp.2.2 x.length 0 (x.length + 1) (by omega) (by omega)
 refine (laws_markInt64S.calls (x.length + 1) oki u x a (a + (x.length : Int)) (upI a x.length) w0 W hB hR (by simpa [laws_markInt64S.f, upI] using hm)).mono ?_
 rintro e W' ⟨rfl, hR2, hB2, hK⟩
 exact ⟨rfl, ownB (fun h => h) hR hR2, hB2, hK⟩
theorem markInt64SSS_calls (w0 : World) (v : Value) (xs : List (List (List Int))) (a : Int) (ok : Nat → Prop) (w : World) (hlen : xs.length ≤ 1048576) (hx : ∀ x ∈ xs, okII x) (h0 : 0 ≤ a) (h1 : a + (tot szII xs : Int) ≤ 4611686018427387904) (hB : Below w0.heap.size w0 w) (hS : Kd.S (sliceS 49 (Kd.slice 2 (Kd.int .i64))) 25 w w0.heap.size ok v xs) :
  Calls Try.prog 40 #[v, .int .i64 a] w fun e w' => e = .returned (.int .i64 (a + (tot szII xs : Int))) ∧ Kd.S (sliceS 49 (Kd.slice 2 (Kd.int .i64))) 25 w' w0.heap.size ok v (mks szII mkII xs a) ∧ Below w0.heap.size w0 w' ∧ Kept w w' ok := by
 refine markInt64SSS_walk szII mkII (fun x a => okII x ∧ 0 ≤ a ∧ a + (szII x : Int) ≤ 4611686018427387904) w0 (fun W u x a oki hp hB hR => ?_) v xs a ok w (fun i h => ⟨hx _ (List.getElem_mem h), by omega, by have := tot_le szII xs i h; omega⟩) hlen hB hS
 exact markInt64SS_calls w0 u x a oki W hp.1 hp.2.1 hp.2.2 hB hR
theorem markBoolS_calls (w0 : World) (v : Value) (xs : List Bool) (a : Int) (ok : Nat → Prop) (w : World) (hlen : xs.length ≤ 1048576) (h0 : 0 ≤ a) (h1 : a ≤ 4611686018427387904) (hB : Below w0.heap.size w0 w) (hS : Kd.bool.R 4 w w0.heap.size ok v xs) :
  Calls Try.prog 38 #[v, .int .i64 a] w fun e w' => e = .returned (.int .i64 (a + (xs.length : Int))) ∧ Kd.bool.R 4 w' w0.heap.size ok v (upB a xs.length) ∧ Below w0.heap.size w0 w' ∧ Kept w w' ok := by
 have hm := markB xs hlen a h0 h1 xs.length 0 (xs.length + 1) (by omega) (by omega)
 refine (laws_markBoolS.calls (xs.length + 1) ok v xs a (a + (xs.length : Int)) (upB a xs.length) w0 w hB hS (by simpa [laws_markBoolS.f, upB] using hm)).mono ?_
 rintro e W' ⟨rfl, hR2, hB2, hK⟩
 exact ⟨rfl, ownB (fun h => h) hS hR2, hB2, hK⟩
structure okC (LA : List Bool) (LC : List (List S47)) (LR : List (List (List Int))) (LI : List (List Int)) : Prop where
 a : LA.length ≤ 1048576
 c : LC.length ≤ 1048576
 c1 : ∀ x ∈ LC, okP x
 r : LR.length ≤ 1048576
 r1 : ∀ x ∈ LR, okII x
 i : okII LI
 s : LA.length + tot szP LC + tot szII LR + szII LI ≤ 2305843009213693952
def markA (LA : List Bool) : List Bool := upB 1 LA.length
def numC (LA : List Bool) : Int := 1 + (LA.length : Int)
def numR (LA : List Bool) (LC : List (List S47)) : Int := numC LA + (tot szP LC : Int)
def numI (LA : List Bool) (LC : List (List S47)) (LR : List (List (List Int))) : Int := numR LA LC + (tot szII LR : Int)
def numE (LA : List Bool) (LC : List (List S47)) (LR : List (List (List Int))) (LI : List (List Int)) : Int := numI LA LC LR + (szII LI : Int)
def tgN (f : Nat → Nat) (N g i : Nat) : Nat → Prop := fun k => (f k = i ∧ k < N) ∧ k ≠ g
end Go.Proofs.Ytepkfigcnnfoaaa.P
namespace Go.Proofs.Ytepkfigcnnfoaaa.P
open Go.RowKit Go.Proofs.YtepkfigcnnfoaaaW.PrintWords Go.Proofs.YtepkfigcnnfoaaaW.PrintLast Go.Proofs.YtepkfigcnnfoaaaW.PrintMore
attribute [local go_sem] Zn Zp Zw Zx Zj Zk Zq Zr
def laws_eqBoolS.l0 : Nat → List Bool → List Bool → Int → Option (Bool)
 | 0, _, _, _ => none
 | k + 1, x0, x1, x5 => if x5 < (x0.length : Int) then (if 0 ≤ x5 then (if x5 < (x1.length : Int) then (if ((rdOf false x0 x5) != (rdOf false x1 x5)) = true then (some false) else (laws_eqBoolS.l0 k x0 x1 (wrap64 (x5 + 1)))) else (none)) else (none)) else (some true)
def laws_eqBoolS.f (k : Nat) (l0 : List Bool) (l1 : List Bool) : Option (Bool) := if (l0.length : Int) = (l1.length : Int) then (laws_eqBoolS.l0 k l0 l1 0) else (some false)
theorem laws_eqBoolS.calls (k : Nat) (A0 : Option Addr) (c0 : Nat) (l0 : List Bool) (A1 : Option Addr) (c1 : Nat) (l1 : List Bool) (r : Bool) (w : World) (hr0 : Kd.C Kd.bool w A0 l0.length l0) (hc0 : l0.length ≤ c0) (hr1 : Kd.C Kd.bool w A1 l1.length l1) (hc1 : l1.length ≤ c1) (h : laws_eqBoolS.f k l0 l1 = some r) :
  Calls Try.prog 34 #[.slice A0 l0.length c0, .slice A1 l1.length c1] w fun e w' => e = .returned (.bool r) ∧ Drawn0 w w' := by
 have HR0 := AZ.mk hr0
 have HC0 := AZ.mk hc0
 clear hr0 hc0
 have HR1 := AZ.mk hr1
 have HC1 := AZ.mk hc1
 clear hr1 hc1
 have H : (if (l0.length : Int) = (l1.length : Int) then (laws_eqBoolS.l0 k l0 l1 0) else (some false)) = some r := h
 clear h
 by_cases c3 : (l0.length : Int) = (l1.length : Int)
 rotate_left
 ·rw [if_neg c3] at H
  have c3b0 : ((l0.length : Int) == (l1.length : Int)) = false := beq_eq_false_iff_ne.mpr c3
  have c3b1 : ((l0.length : Int) != (l1.length : Int)) = true := bne_iff_ne.mpr c3
  have c3b2 : (l0.length == l1.length) = false := by first | simpa using c3 | (simp at c3 ⊢; omega)
  obtain rfl := oJ H
  go_enter Try.func34, Try.ntmps34
  go_wp2
  repeat (go_quiet (fail); try go_wp2)
  go_ret
  exact ⟨by first | rfl | (simp; done) | (simp [*]; done), by repeat (first | exact Drawn0.refl _ | apply Drawn0.step)⟩
 rw [if_pos c3] at H
 have c3b0 : ((l0.length : Int) == (l1.length : Int)) = true := beq_iff_eq.mpr c3
 have c3b1 : ((l0.length : Int) != (l1.length : Int)) = false := bne_eq_false_iff_eq.mpr c3
 have c3b2 : (l0.length == l1.length) = true := by first | simpa using c3 | (simp at c3 ⊢; omega)
 clear c3
 have H' := AZ.mk H
 clear H
 go_enter Try.func34, Try.ntmps34
 go_wp2
 repeat (go_quiet (fail); try go_wp2)
 go_loopg [5] k (fun kq v5 w' => ∃ (x5_1 : Int), v5 = .int .i64 x5_1 ∧ AZ (laws_eqBoolS.l0 kq l0 l1 x5_1 = some r) ∧ AZ (kq ≤ k) ∧ Drawn0 w w')
 case atStart => exact ⟨(0), (by first | rfl | (simp; done) | (simp [*]; done)), H', ⟨Nat.le_refl _⟩, by repeat (first | exact Drawn0.refl _ | apply Drawn0.step)⟩
 case round =>
  clear H'
  try clear c1
  try clear p2
  try clear c3
  try clear c3b0
  try clear c3b1
  try clear c3b2
  obtain ⟨x5_1, rfl, HA, HK1, ⟨m1, rfl⟩⟩ := hrel
  cases gk with
  | zero => exact absurd HA.out (by simp [laws_eqBoolS.l0])
  | succ k1 =>
   have H := HA.out
   clear HA
   simp only [laws_eqBoolS.l0] at H
   by_cases c4 : x5_1 < (l0.length : Int)
   rotate_left
   ·rw [if_neg c4] at H
    have c4b0 : decide (x5_1 < (l0.length : Int)) = false := dF c4
    clear c4
    obtain rfl := oJ H
    go_wp2
    repeat (go_quiet (fail); try go_wp2)
    go_ret
    exact ⟨by first | rfl | (simp; done) | (simp [*]; done), by repeat (first | exact Drawn0.refl _ | apply Drawn0.step)⟩
   rw [if_pos c4] at H
   have c4b0 : decide (x5_1 < (l0.length : Int)) = true := dT c4
   clear c4
   by_cases c5 : 0 ≤ x5_1
   rotate_left
   ·rw [if_neg c5] at H
    exact absurd H (by simp)
   rw [if_pos c5] at H
   have c5b0 : decide (0 ≤ x5_1) = true := dT c5
   clear c5
   by_cases c6 : x5_1 < (l1.length : Int)
   rotate_left
   ·rw [if_neg c6] at H
    exact absurd H (by simp)
   rw [if_pos c6] at H
   have c6b0 : decide (x5_1 < (l1.length : Int)) = true := dT c6
   clear c6
   by_cases c7 : ((rdOf false l0 x5_1) != (rdOf false l1 x5_1)) = true
   ·rw [if_pos c7] at H
    have c7b0 : ((rdOf false l0 x5_1) != (rdOf false l1 x5_1)) = true := c7
    (try (have c7b1 : decide ((rdOf false l0 x5_1) = (rdOf false l1 x5_1)) = false := by simpa using c7))
    (try (have c7b2 : ((rdOf false l0 x5_1) == (rdOf false l1 x5_1)) = false := by simpa using c7))
    (try (have c7b3 : ¬ ((rdOf false l0 x5_1) = (rdOf false l1 x5_1)) := by simpa using c7))
    clear c7
    obtain rfl := oJ H
    have p145 : 0 ≤ (x5_1 : Int) := oT (by first | (with_reducible assumption) | assumption)
    have q145 : x5_1 < (l0.length : Int) := oT (by first | (with_reducible assumption) | assumption)
    obtain ⟨ad145, e145, hx145_0⟩ := Kd.at_bool HR0.out x5_1 p145 q145
    cases e145
    replace p145 := eq_true p145
    replace q145 := eq_true q145
    have p146 : 0 ≤ (x5_1 : Int) := oT (by first | (with_reducible assumption) | assumption)
    have q146 : x5_1 < (l1.length : Int) := oT (by first | (with_reducible assumption) | assumption)
    obtain ⟨ad146, e146, hx146_0⟩ := Kd.at_bool HR1.out x5_1 p146 q146
    cases e146
    replace p146 := eq_true p146
    replace q146 := eq_true q146
    go_wp2
    repeat (go_quiet (fail); try go_wp2)
    go_ret
    exact ⟨by first | rfl | (simp; done) | (simp [*]; done), by repeat (first | exact Drawn0.refl _ | apply Drawn0.step)⟩
   rw [if_neg c7] at H
   have c7b0 : ((rdOf false l0 x5_1) != (rdOf false l1 x5_1)) = false := by simpa using c7
   (try (have c7b1 : decide ((rdOf false l0 x5_1) = (rdOf false l1 x5_1)) = true := by simpa using c7))
   (try (have c7b2 : ((rdOf false l0 x5_1) == (rdOf false l1 x5_1)) = true := by simpa using c7))
   clear c7
   have H' := AZ.mk H
   clear H
   have p145 : 0 ≤ (x5_1 : Int) := oT (by first | (with_reducible assumption) | assumption)
   have q145 : x5_1 < (l0.length : Int) := oT (by first | (with_reducible assumption) | assumption)
   obtain ⟨ad145, e145, hx145_0⟩ := Kd.at_bool HR0.out x5_1 p145 q145
   cases e145
   replace p145 := eq_true p145
   replace q145 := eq_true q145
   have p146 : 0 ≤ (x5_1 : Int) := oT (by first | (with_reducible assumption) | assumption)
   have q146 : x5_1 < (l1.length : Int) := oT (by first | (with_reducible assumption) | assumption)
   obtain ⟨ad146, e146, hx146_0⟩ := Kd.at_bool HR1.out x5_1 p146 q146
   cases e146
   replace p146 := eq_true p146
   replace q146 := eq_true q146
   go_wp2
   repeat (go_quiet (fail); try go_wp2)
   go_roundg k1
   case measure => have := HK1.out; omega
   case rel => exact ⟨(wrap64 (x5_1 + 1)), (by first | rfl | (simp; done) | (simp [*]; done)), H', ⟨by have := HK1.out; omega⟩, by repeat (first | exact Drawn0.refl _ | apply Drawn0.step)⟩
attribute [local go_sem] Zn Zp Zw Zx Zj Zk Zq Zr
def laws_eqPush.f (a0_0 : Int) (a0_1 : Int) (a1_0 : Int) (a1_1 : Int) : Option (Bool) := if a0_0 = a1_0 then (if a0_1 = a1_1 then (some true) else (some false)) else (some false)
theorem laws_eqPush.calls (a0_0 : Int) (a0_1 : Int) (a1_0 : Int) (a1_1 : Int) (r : Bool) (w : World) (h : laws_eqPush.f a0_0 a0_1 a1_0 a1_1 = some r) :
  Calls Try.prog 114 #[.agg #[.int .i64 a0_0, .int .i64 a0_1], .agg #[.int .i64 a1_0, .int .i64 a1_1]] w fun e w' => e = .returned (.bool r) ∧ Below w.heap.size w w' := by
 have hu47 := Try.underlying47
 have HB := AZ.mk (Below.refl w.heap.size w)
 have H : (if a0_0 = a1_0 then (if a0_1 = a1_1 then (some true) else (some false)) else (some false)) = some r := h
 clear h
 by_cases c3 : a0_0 = a1_0
 rotate_left
 ·rw [if_neg c3] at H
  have c3b0 : (a0_0 == a1_0) = false := beq_eq_false_iff_ne.mpr c3
  have c3b1 : (a0_0 != a1_0) = true := bne_iff_ne.mpr c3
  obtain rfl := oJ H
  go_enter Try.func114, Try.ntmps114
  go_wp2_with (first | ((with_reducible refine Zc (N := 2) rfl ?_); refine Zh ?hg (N := 2) ?hd (cs := #[.int .i64 a0_0, .int .i64 a0_1]) (t := 47) ?hr ?_; (case hd => rfl); (case hg => rfl); (case hr => first | (go_simp; done) | (go_simp; rfl)); intro gb147 hg w15 hbox hb; have n0_ := AZ.mk (pT (by repeat (first | (with_reducible first | exact HB.out | apply pA | apply pN | apply pD) | exact HB.out)) hb); have n1_ := AZ.mk (hbox); have n2_ := AZ.mk ((by rw [hg]; exact (pZ (by repeat (first | (with_reducible first | exact HB.out | apply pA | apply pN | apply pD) | exact HB.out))) : w.heap.size ≤ gb147)); have n3_ := AZ.mk ((by rw [hg]; exact (pZ (by repeat (first | (with_reducible first | exact HB.out | apply pA | apply pN | apply pD) | exact HB.out))) : w.heap.size ≤ gb147)); clear HB; have HB := n0_; have BK147 := n1_; have GW147 := n2_; have GE147 := n3_; clear n0_ n1_ n2_ n3_; clear hb hbox hg) | ((with_reducible refine Zc (N := 3) rfl ?_); refine Zh ?hg (N := 3) ?hd (cs := #[.int .i64 a1_0, .int .i64 a1_1]) (t := 47) ?hr ?_; (case hd => rfl); (case hg => rfl); (case hr => first | (go_simp; done) | (go_simp; rfl)); intro gb148 hg w16 hbox hb; have n0_ := AZ.mk (bb_ (g := gb147) (o := .cells #[.int .i64 a0_0, .int .i64 a0_1] 47 (0, 0)) (by (with_reducible repeat (first | refine bn_ ?_ _ | refine bd_ ?_ | refine ba_ ?_ _)); exact BK147.out) hb); have n1_ := AZ.mk (pT (by repeat (first | (with_reducible first | exact HB.out | apply pA | apply pN | apply pD | refine pS ?_ GE147.out) | exact HB.out)) hb); have n2_ := AZ.mk (hbox); have n3_ := AZ.mk ((by rw [hg]; exact (pZ (by repeat (first | (with_reducible first | exact HB.out | apply pA | apply pN | apply pD | refine pS ?_ GE147.out) | exact HB.out))) : w.heap.size ≤ gb148)); have n4_ := AZ.mk ((by rw [hg]; exact (pZ (by repeat (first | (with_reducible first | exact HB.out | apply pA | apply pN | apply pD | refine pS ?_ GE147.out) | exact HB.out))) : w.heap.size ≤ gb148)); have n5_ := AZ.mk ((by rw [hg]; exact nL (Zv (g := gb147) (o := .cells #[.int .i64 a0_0, .int .i64 a0_1] 47 (0, 0)) (by (with_reducible repeat (first | refine bn_ ?_ _ | refine bd_ ?_ | refine ba_ ?_ _)); exact BK147.out)) : gb147 ≠ gb148)); have n6_ := AZ.mk ((by rw [hg]; exact nG (Zv (g := gb147) (o := .cells #[.int .i64 a0_0, .int .i64 a0_1] 47 (0, 0)) (by (with_reducible repeat (first | refine bn_ ?_ _ | refine bd_ ?_ | refine ba_ ?_ _)); exact BK147.out)) : gb148 ≠ gb147)); clear BK147; clear HB; have BK147 := n0_; have HB := n1_; have BK148 := n2_; have GW148 := n3_; have GE148 := n4_; have NB147_148 := n5_; have NB148_147 := n6_; clear n0_ n1_ n2_ n3_ n4_ n5_ n6_; clear hb hbox hg; have hnb17 := NB147_148.out; have hnc17 := NB148_147.out; have hcz18_0 : w16.cell? ⟨gb147, 0, none⟩ = some (.int .i64 a0_0) := (bc BK147.out 0).trans rfl; have hcz18_1 : w16.cell? ⟨gb147, 1, none⟩ = some (.int .i64 a0_1) := (bc BK147.out 1).trans rfl; have hfz18_0 := bf BK147.out 0; have hfz18_1 := bf BK147.out 1; have hcz19_0 : w16.cell? ⟨gb148, 0, none⟩ = some (.int .i64 a1_0) := (bc BK148.out 0).trans rfl; have hcz19_1 : w16.cell? ⟨gb148, 1, none⟩ = some (.int .i64 a1_1) := (bc BK148.out 1).trans rfl; have hfz19_0 := bf BK148.out 0; have hfz19_1 := bf BK148.out 1))
  go_ret
  exact ⟨by first | rfl | (simp [Ze, Zf] <;> rfl) | (simp [*, Ze, Zf] <;> rfl), by repeat (first | (with_reducible first | exact HB.out | apply pA | apply pN | apply pD | refine pS ?_ GE147.out | refine pS ?_ GE148.out) | exact HB.out)⟩
 rw [if_pos c3] at H
 have c3b0 : (a0_0 == a1_0) = true := beq_iff_eq.mpr c3
 have c3b1 : (a0_0 != a1_0) = false := bne_eq_false_iff_eq.mpr c3
 clear c3
 by_cases c4 : a0_1 = a1_1
 ·rw [if_pos c4] at H
  have c4b0 : (a0_1 == a1_1) = true := beq_iff_eq.mpr c4
  have c4b1 : (a0_1 != a1_1) = false := bne_eq_false_iff_eq.mpr c4
  clear c4
  obtain rfl := oJ H
  go_enter Try.func114, Try.ntmps114
  go_wp2_with (first | ((with_reducible refine Zc (N := 2) rfl ?_); refine Zh ?hg (N := 2) ?hd (cs := #[.int .i64 a0_0, .int .i64 a0_1]) (t := 47) ?hr ?_; (case hd => rfl); (case hg => rfl); (case hr => first | (go_simp; done) | (go_simp; rfl)); intro gb147 hg w5 hbox hb; have n0_ := AZ.mk (pT (by repeat (first | (with_reducible first | exact HB.out | apply pA | apply pN | apply pD) | exact HB.out)) hb); have n1_ := AZ.mk (hbox); have n2_ := AZ.mk ((by rw [hg]; exact (pZ (by repeat (first | (with_reducible first | exact HB.out | apply pA | apply pN | apply pD) | exact HB.out))) : w.heap.size ≤ gb147)); have n3_ := AZ.mk ((by rw [hg]; exact (pZ (by repeat (first | (with_reducible first | exact HB.out | apply pA | apply pN | apply pD) | exact HB.out))) : w.heap.size ≤ gb147)); clear HB; have HB := n0_; have BK147 := n1_; have GW147 := n2_; have GE147 := n3_; clear n0_ n1_ n2_ n3_; clear hb hbox hg) | ((with_reducible refine Zc (N := 3) rfl ?_); refine Zh ?hg (N := 3) ?hd (cs := #[.int .i64 a1_0, .int .i64 a1_1]) (t := 47) ?hr ?_; (case hd => rfl); (case hg => rfl); (case hr => first | (go_simp; done) | (go_simp; rfl)); intro gb148 hg w6 hbox hb; have n0_ := AZ.mk (bb_ (g := gb147) (o := .cells #[.int .i64 a0_0, .int .i64 a0_1] 47 (0, 0)) (by (with_reducible repeat (first | refine bn_ ?_ _ | refine bd_ ?_ | refine ba_ ?_ _)); exact BK147.out) hb); have n1_ := AZ.mk (pT (by repeat (first | (with_reducible first | exact HB.out | apply pA | apply pN | apply pD | refine pS ?_ GE147.out) | exact HB.out)) hb); have n2_ := AZ.mk (hbox); have n3_ := AZ.mk ((by rw [hg]; exact (pZ (by repeat (first | (with_reducible first | exact HB.out | apply pA | apply pN | apply pD | refine pS ?_ GE147.out) | exact HB.out))) : w.heap.size ≤ gb148)); have n4_ := AZ.mk ((by rw [hg]; exact (pZ (by repeat (first | (with_reducible first | exact HB.out | apply pA | apply pN | apply pD | refine pS ?_ GE147.out) | exact HB.out))) : w.heap.size ≤ gb148)); have n5_ := AZ.mk ((by rw [hg]; exact nL (Zv (g := gb147) (o := .cells #[.int .i64 a0_0, .int .i64 a0_1] 47 (0, 0)) (by (with_reducible repeat (first | refine bn_ ?_ _ | refine bd_ ?_ | refine ba_ ?_ _)); exact BK147.out)) : gb147 ≠ gb148)); have n6_ := AZ.mk ((by rw [hg]; exact nG (Zv (g := gb147) (o := .cells #[.int .i64 a0_0, .int .i64 a0_1] 47 (0, 0)) (by (with_reducible repeat (first | refine bn_ ?_ _ | refine bd_ ?_ | refine ba_ ?_ _)); exact BK147.out)) : gb148 ≠ gb147)); clear BK147; clear HB; have BK147 := n0_; have HB := n1_; have BK148 := n2_; have GW148 := n3_; have GE148 := n4_; have NB147_148 := n5_; have NB148_147 := n6_; clear n0_ n1_ n2_ n3_ n4_ n5_ n6_; clear hb hbox hg; have hnb7 := NB147_148.out; have hnc7 := NB148_147.out; have hcz8_0 : w6.cell? ⟨gb147, 0, none⟩ = some (.int .i64 a0_0) := (bc BK147.out 0).trans rfl; have hcz8_1 : w6.cell? ⟨gb147, 1, none⟩ = some (.int .i64 a0_1) := (bc BK147.out 1).trans rfl; have hfz8_0 := bf BK147.out 0; have hfz8_1 := bf BK147.out 1; have hcz9_0 : w6.cell? ⟨gb148, 0, none⟩ = some (.int .i64 a1_0) := (bc BK148.out 0).trans rfl; have hcz9_1 : w6.cell? ⟨gb148, 1, none⟩ = some (.int .i64 a1_1) := (bc BK148.out 1).trans rfl; have hfz9_0 := bf BK148.out 0; have hfz9_1 := bf BK148.out 1))
  go_ret
  exact ⟨by first | rfl | (simp [Ze, Zf] <;> rfl) | (simp [*, Ze, Zf] <;> rfl), by repeat (first | (with_reducible first | exact HB.out | apply pA | apply pN | apply pD | refine pS ?_ GE147.out | refine pS ?_ GE148.out) | exact HB.out)⟩
 rw [if_neg c4] at H
 have c4b0 : (a0_1 == a1_1) = false := beq_eq_false_iff_ne.mpr c4
 have c4b1 : (a0_1 != a1_1) = true := bne_iff_ne.mpr c4
 obtain rfl := oJ H
 go_enter Try.func114, Try.ntmps114
 go_wp2_with (first | ((with_reducible refine Zc (N := 2) rfl ?_); refine Zh ?hg (N := 2) ?hd (cs := #[.int .i64 a0_0, .int .i64 a0_1]) (t := 47) ?hr ?_; (case hd => rfl); (case hg => rfl); (case hr => first | (go_simp; done) | (go_simp; rfl)); intro gb147 hg w10 hbox hb; have n0_ := AZ.mk (pT (by repeat (first | (with_reducible first | exact HB.out | apply pA | apply pN | apply pD) | exact HB.out)) hb); have n1_ := AZ.mk (hbox); have n2_ := AZ.mk ((by rw [hg]; exact (pZ (by repeat (first | (with_reducible first | exact HB.out | apply pA | apply pN | apply pD) | exact HB.out))) : w.heap.size ≤ gb147)); have n3_ := AZ.mk ((by rw [hg]; exact (pZ (by repeat (first | (with_reducible first | exact HB.out | apply pA | apply pN | apply pD) | exact HB.out))) : w.heap.size ≤ gb147)); clear HB; have HB := n0_; have BK147 := n1_; have GW147 := n2_; have GE147 := n3_; clear n0_ n1_ n2_ n3_; clear hb hbox hg) | ((with_reducible refine Zc (N := 3) rfl ?_); refine Zh ?hg (N := 3) ?hd (cs := #[.int .i64 a1_0, .int .i64 a1_1]) (t := 47) ?hr ?_; (case hd => rfl); (case hg => rfl); (case hr => first | (go_simp; done) | (go_simp; rfl)); intro gb148 hg w11 hbox hb; have n0_ := AZ.mk (bb_ (g := gb147) (o := .cells #[.int .i64 a0_0, .int .i64 a0_1] 47 (0, 0)) (by (with_reducible repeat (first | refine bn_ ?_ _ | refine bd_ ?_ | refine ba_ ?_ _)); exact BK147.out) hb); have n1_ := AZ.mk (pT (by repeat (first | (with_reducible first | exact HB.out | apply pA | apply pN | apply pD | refine pS ?_ GE147.out) | exact HB.out)) hb); have n2_ := AZ.mk (hbox); have n3_ := AZ.mk ((by rw [hg]; exact (pZ (by repeat (first | (with_reducible first | exact HB.out | apply pA | apply pN | apply pD | refine pS ?_ GE147.out) | exact HB.out))) : w.heap.size ≤ gb148)); have n4_ := AZ.mk ((by rw [hg]; exact (pZ (by repeat (first | (with_reducible first | exact HB.out | apply pA | apply pN | apply pD | refine pS ?_ GE147.out) | exact HB.out))) : w.heap.size ≤ gb148)); have n5_ := AZ.mk ((by rw [hg]; exact nL (Zv (g := gb147) (o := .cells #[.int .i64 a0_0, .int .i64 a0_1] 47 (0, 0)) (by (with_reducible repeat (first | refine bn_ ?_ _ | refine bd_ ?_ | refine ba_ ?_ _)); exact BK147.out)) : gb147 ≠ gb148)); have n6_ := AZ.mk ((by rw [hg]; exact nG (Zv (g := gb147) (o := .cells #[.int .i64 a0_0, .int .i64 a0_1] 47 (0, 0)) (by (with_reducible repeat (first | refine bn_ ?_ _ | refine bd_ ?_ | refine ba_ ?_ _)); exact BK147.out)) : gb148 ≠ gb147)); clear BK147; clear HB; have BK147 := n0_; have HB := n1_; have BK148 := n2_; have GW148 := n3_; have GE148 := n4_; have NB147_148 := n5_; have NB148_147 := n6_; clear n0_ n1_ n2_ n3_ n4_ n5_ n6_; clear hb hbox hg; have hnb12 := NB147_148.out; have hnc12 := NB148_147.out; have hcz13_0 : w11.cell? ⟨gb147, 0, none⟩ = some (.int .i64 a0_0) := (bc BK147.out 0).trans rfl; have hcz13_1 : w11.cell? ⟨gb147, 1, none⟩ = some (.int .i64 a0_1) := (bc BK147.out 1).trans rfl; have hfz13_0 := bf BK147.out 0; have hfz13_1 := bf BK147.out 1; have hcz14_0 : w11.cell? ⟨gb148, 0, none⟩ = some (.int .i64 a1_0) := (bc BK148.out 0).trans rfl; have hcz14_1 : w11.cell? ⟨gb148, 1, none⟩ = some (.int .i64 a1_1) := (bc BK148.out 1).trans rfl; have hfz14_0 := bf BK148.out 0; have hfz14_1 := bf BK148.out 1))
 go_ret
 exact ⟨by first | rfl | (simp [Ze, Zf] <;> rfl) | (simp [*, Ze, Zf] <;> rfl), by repeat (first | (with_reducible first | exact HB.out | apply pA | apply pN | apply pD | refine pS ?_ GE147.out | refine pS ?_ GE148.out) | exact HB.out)⟩
attribute [local go_sem] Zn Zp Zw Zx Zj Zk Zq Zr
def laws_eqPushS.l0 : Nat → List (S47) → List (S47) → Int → Option (Bool)
 | 0, _, _, _ => none
 | k + 1, x0, x1, x5 => if x5 < (x0.length : Int) then (if 0 ≤ x5 then (if x5 < (x1.length : Int) then ((laws_eqPush.f ((Zb x0 x5).f0) ((Zb x0 x5).f1) ((Zb x1 x5).f0) ((Zb x1 x5).f1)).bind fun t151 => (if t151 = true then (laws_eqPushS.l0 k x0 x1 (wrap64 (x5 + 1))) else (some false))) else (none)) else (none)) else (some true)
def laws_eqPushS.f (k : Nat) (l0 : List (S47)) (l1 : List (S47)) : Option (Bool) := if (l0.length : Int) = (l1.length : Int) then (laws_eqPushS.l0 k l0 l1 0) else (some false)
def laws_eqPushS.T6 : Bool × List (List Nat × List Nat) := (true, [([], []), ([], []), ([0, 1], [0, 1]), ([2], [2]), ([], []), ([], []), ([4, 5], [4, 5]), ([6], [6]), ([3, 7], [3, 7]), ([8], [8])])
def laws_eqPushS.B6 : List Nat := [0, 0, 3, 7, 0, 0, 48, 112, 255, 511]
theorem laws_eqPushS.tab6 : rtab .any (opsOf Try.f84 6) = laws_eqPushS.T6 := by kernel_rfl
theorem laws_eqPushS.bits6 : waitsOk laws_eqPushS.T6.2 laws_eqPushS.B6 = true := by kernel_rfl
def laws_eqPushS.cz0 : List Nat := [0, 1, 2, 4, 5, 6, 403, 407]
theorem laws_eqPushS.calls (k : Nat) (A0 : Option Addr) (c0 : Nat) (l0 : List (S47)) (A1 : Option Addr) (c1 : Nat) (l1 : List (S47)) (r : Bool) (w : World) (hr0 : Kd.C k47 w A0 l0.length l0) (hc0 : l0.length ≤ c0) (hr1 : Kd.C k47 w A1 l1.length l1) (hc1 : l1.length ≤ c1) (h : laws_eqPushS.f k l0 l1 = some r) :
  Calls Try.prog 84 #[.slice A0 l0.length c0, .slice A1 l1.length c1] w fun e w' => e = .returned (.bool r) ∧ Below w.heap.size w w' := by
 have hu47 := Try.underlying47
 have HR0 := AZ.mk hr0
 have HC0 := AZ.mk hc0
 clear hr0 hc0
 have HR1 := AZ.mk hr1
 have HC1 := AZ.mk hc1
 clear hr1 hc1
 have HB := AZ.mk (Below.refl w.heap.size w)
 have H : (if (l0.length : Int) = (l1.length : Int) then (laws_eqPushS.l0 k l0 l1 0) else (some false)) = some r := h
 clear h
 by_cases c3 : (l0.length : Int) = (l1.length : Int)
 rotate_left
 ·rw [if_neg c3] at H
  have c3b0 : ((l0.length : Int) == (l1.length : Int)) = false := beq_eq_false_iff_ne.mpr c3
  have c3b1 : ((l0.length : Int) != (l1.length : Int)) = true := bne_iff_ne.mpr c3
  have c3b2 : (l0.length == l1.length) = false := by first | simpa using c3 | (simp at c3 ⊢; omega)
  obtain rfl := oJ H
  go_enter Try.func84, Try.ntmps84
  go_wp2
  go_ret
  exact ⟨by first | rfl | (simp [Ze, Zf] <;> rfl) | (simp [*, Ze, Zf] <;> rfl), by repeat (first | (with_reducible first | exact HB.out | apply pA | apply pN | apply pD) | exact HB.out)⟩
 rw [if_pos c3] at H
 have c3b0 : ((l0.length : Int) == (l1.length : Int)) = true := beq_iff_eq.mpr c3
 have c3b1 : ((l0.length : Int) != (l1.length : Int)) = false := bne_eq_false_iff_eq.mpr c3
 have c3b2 : (l0.length == l1.length) = true := by first | simpa using c3 | (simp at c3 ⊢; omega)
 clear c3
 have H' := AZ.mk H
 clear H
 go_enter Try.func84, Try.ntmps84
 go_wp2
 go_loopg [5] k (fun kq v5 w' => ∃ (x5_1 : Int), v5 = .int .i64 x5_1 ∧ AZ (laws_eqPushS.l0 kq l0 l1 x5_1 = some r) ∧ AZ (kq ≤ k) ∧ AZ (Below w.heap.size w w'))
 case atStart => exact ⟨(0), (by first | rfl | (simp; done) | (simp [*]; done)), H', ⟨Nat.le_refl _⟩, ⟨by repeat (first | (with_reducible first | exact HB.out | apply pA | apply pN | apply pD) | exact HB.out)⟩⟩
 case round =>
  clear H'
  try clear c1
  try clear p2
  try clear c3
  try clear c3b0
  try clear c3b1
  try clear c3b2
  obtain ⟨x5_1, rfl, HA, HK1, HB⟩ := hrel
  cases gk with
  | zero => exact absurd HA.out (by simp [laws_eqPushS.l0])
  | succ k1 =>
   have H := HA.out
   clear HA
   simp only [laws_eqPushS.l0] at H
   by_cases c4 : x5_1 < (l0.length : Int)
   rotate_left
   ·rw [if_neg c4] at H
    have c4b0 : decide (x5_1 < (l0.length : Int)) = false := dF c4
    clear c4
    obtain rfl := oJ H
    go_wp2
    go_ret
    exact ⟨by first | rfl | (simp [Ze, Zf] <;> rfl) | (simp [*, Ze, Zf] <;> rfl), by repeat (first | (with_reducible first | exact HB.out | apply pA | apply pN | apply pD) | exact HB.out)⟩
   rw [if_pos c4] at H
   have c4b0 : decide (x5_1 < (l0.length : Int)) = true := dT c4
   clear c4
   by_cases c5 : 0 ≤ x5_1
   rotate_left
   ·rw [if_neg c5] at H
    exact absurd H (by simp)
   rw [if_pos c5] at H
   have c5b0 : decide (0 ≤ x5_1) = true := dT c5
   clear c5
   by_cases c6 : x5_1 < (l1.length : Int)
   rotate_left
   ·rw [if_neg c6] at H
    exact absurd H (by simp)
   rw [if_pos c6] at H
   have c6b0 : decide (x5_1 < (l1.length : Int)) = true := dT c6
   clear c6
   replace H := Option.bind_eq_some_iff.mp H
   obtain ⟨t151, A70, H⟩ := H
   replace H : (if t151 = true then (laws_eqPushS.l0 k1 l0 l1 (wrap64 (x5_1 + 1))) else (some false)) = some r := H
   have A7 := AZ.mk A70
   clear A70
   by_cases c8 : t151 = true
   rotate_left
   ·replace c8 := Bool.eq_false_iff.mpr c8
    subst c8
    have H1 : (some false) = some r := by rw [if_neg (show ¬ (false = true) by decide)] at H; exact H
    clear H
    have H := H1
    clear H1
    obtain rfl := oJ H
    try go_wp2
    have n0_ := AZ.mk (pD HB.out)
    clear HB
    have HB := n0_
    clear n0_
    have p149 : 0 ≤ (x5_1 : Int) := oT (by first | (with_reducible assumption) | assumption)
    have q149 : x5_1 < (l0.length : Int) := oT (by first | (with_reducible assumption) | assumption)
    obtain ⟨ad149, e149, hx149_0, hx149_1⟩ := at_T47 HR0.out x5_1 p149 q149
    have hw149_1 := hx149_1
    have hw149_0 := hx149_0
    cases e149
    replace hx149_0 := (HB.out.cell (World.block_lt_of_cell? w _ hx149_0)).trans hx149_0
    replace hx149_1 := (HB.out.cell (World.block_lt_of_cell? w _ hx149_1)).trans hx149_1
    replace p149 := eq_true p149
    replace q149 := eq_true q149
    have p150 : 0 ≤ (x5_1 : Int) := oT (by first | (with_reducible assumption) | assumption)
    have q150 : x5_1 < (l1.length : Int) := oT (by first | (with_reducible assumption) | assumption)
    obtain ⟨ad150, e150, hx150_0, hx150_1⟩ := at_T47 HR1.out x5_1 p150 q150
    have hw150_1 := hx150_1
    have hw150_0 := hx150_0
    cases e150
    replace hx150_0 := (HB.out.cell (World.block_lt_of_cell? w _ hx150_0)).trans hx150_0
    replace hx150_1 := (HB.out.cell (World.block_lt_of_cell? w _ hx150_1)).trans hx150_1
    replace p150 := eq_true p150
    replace q150 := eq_true q150
    refine start_ (n := 10) (S := fun w' => w'.cell? (ad149.add ((x5_1).toNat * 2)) = some (.int .i64 ((Zb l0 x5_1).f0)) ∧ w'.cell? ⟨(ad149.add ((x5_1).toNat * 2)).block, (ad149.add ((x5_1).toNat * 2)).off + 1, none⟩ = some (.int .i64 ((Zb l0 x5_1).f1)) ∧ w'.cell? (ad150.add ((x5_1).toNat * 2)) = some (.int .i64 ((Zb l1 x5_1).f0)) ∧ w'.cell? ⟨(ad150.add ((x5_1).toNat * 2)).block, (ad150.add ((x5_1).toNat * 2)).off + 1, none⟩ = some (.int .i64 ((Zb l1 x5_1).f1))) (ds := []) (bz 10 0) (by kernel_rfl) rfl rfl ⟨((HB.out.cell (World.block_lt_of_cell? w _ hw149_0)).trans hw149_0), ((HB.out.cell (World.block_lt_of_cell? w _ hw149_1)).trans hw149_1), ((HB.out.cell (World.block_lt_of_cell? w _ hw150_0)).trans hw150_0), ((HB.out.cell (World.block_lt_of_cell? w _ hw150_1)).trans hw150_1)⟩ (fun hHeld => ?_); refine Yh laws_eqPushS.tab6 laws_eqPushS.bits6 (fun HT_ HW_ => ?_)
    generalize wr.drew = w11 at HB hx149_0 hx149_1 hx150_0 hx150_1 hHeld ⊢
    iterate 8 (first | (refine pz_ HT_ laws_eqPushS.cz0 rfl rfl rfl (v := ?_) (a' := ?_) (by kernel_rfl) (fun _ _ _ h => h) (Or.inl ⟨by rfl, ?_⟩) ?_ ?_; rotate_left; (intro w'; go_simp; with_reducible rfl); rotate_left; (simp only [Act.put, sA, sB, sC, i64_w, i32_w]; rfl)) | (refine tz_ HT_ HW_ laws_eqPushS.cz0 rfl rfl rfl (v := ?_) (a' := ?_) (by kernel_rfl) (fun _ _ _ h => h) (Or.inl ⟨by rfl, ?_⟩) hHeld ?_ ?_; rotate_left; (rintro w' ⟨s0, s1, s2, s3⟩; go_simp; with_reducible rfl); rotate_left; (simp only [Act.put, sA, sB, sC, i64_w, i32_w]; rfl)))
    refine one_ (i := 8) (N := some 25) (bz 10 511) rfl rfl (one_of HT_.out (by kernel_rfl)) (by decide) (fun K hK => ?_)
    refine goes_ Try.func114 (by kernel_rfl) rfl #[.agg #[.int .i64 ((Zb l0 x5_1).f0), .int .i64 ((Zb l0 x5_1).f1)], .agg #[.int .i64 ((Zb l1 x5_1).f0), .int .i64 ((Zb l1 x5_1).f1)]] (by rfl) rfl rfl (by (try simp only [mA, mB, mC]); first | done | rfl | (simp only [lD, lT]; rfl)) ?_
    with_reducible refine (laws_eqPush.calls ((Zb l0 x5_1).f0) ((Zb l0 x5_1).f1) ((Zb l1 x5_1).f0) ((Zb l1 x5_1).f1) false _ A7.out).mono ?_
    rintro e w12 ⟨rfl, hb⟩
    refine ⟨_, rfl, ?_⟩
    have n0_ := AZ.mk (pT (by repeat (first | (with_reducible first | exact HB.out | apply pA | apply pN | apply pD) | exact HB.out)) hb)
    clear HB
    have HB := n0_
    clear n0_
    (try clear hb)
    (try clear hb2)
    (try clear hk)
    (try clear hi)
    refine hK.out _ _ ⟨((HB.out.cell (World.block_lt_of_cell? w _ hw149_0)).trans hw149_0), ((HB.out.cell (World.block_lt_of_cell? w _ hw149_1)).trans hw149_1), ((HB.out.cell (World.block_lt_of_cell? w _ hw150_0)).trans hw150_0), ((HB.out.cell (World.block_lt_of_cell? w _ hw150_1)).trans hw150_1)⟩ (fun hHeld => ?_)
    clear hK K
    refine norm_ (a' := ?_) ?_ ?_
    rotate_left
    ·show Act.put _ (some 25) _ = _
     simp only [Act.put, sA, sB, sC, i64_w, i32_w]
     rfl
    refine Ya (i := 9) (N := some 26) (v := ?_) (a' := ?_) (bz 10 1023) rfl rfl (Zm HT_.out (by kernel_rfl)) (fun _ _ _ h => h) (Or.inl ⟨by rfl, ?_⟩) ?_ ?_
    rotate_left
    ·intro w'
     go_simp
     with_reducible rfl
    rotate_left
    ·simp only [Act.put, sA, sB, sC, i64_w, i32_w]
     rfl
    refine done_ (done_of HT_.out (by kernel_rfl)) ?_
    try go_wp2
    go_ret
    exact ⟨by first | rfl | (simp [Ze, Zf] <;> rfl) | (simp [*, Ze, Zf] <;> rfl), by repeat (first | (with_reducible first | exact HB.out | apply pA | apply pN | apply pD) | exact HB.out)⟩
   subst c8
   have H1 : (laws_eqPushS.l0 k1 l0 l1 (wrap64 (x5_1 + 1))) = some r := by rw [if_pos rfl] at H; exact H
   clear H
   have H := H1
   clear H1
   have H' := AZ.mk H
   clear H
   try go_wp2
   have n0_ := AZ.mk (pD HB.out)
   clear HB
   have HB := n0_
   clear n0_
   have p149 : 0 ≤ (x5_1 : Int) := oT (by first | (with_reducible assumption) | assumption)
   have q149 : x5_1 < (l0.length : Int) := oT (by first | (with_reducible assumption) | assumption)
   obtain ⟨ad149, e149, hx149_0, hx149_1⟩ := at_T47 HR0.out x5_1 p149 q149
   have hw149_1 := hx149_1
   have hw149_0 := hx149_0
   cases e149
   replace hx149_0 := (HB.out.cell (World.block_lt_of_cell? w _ hx149_0)).trans hx149_0
   replace hx149_1 := (HB.out.cell (World.block_lt_of_cell? w _ hx149_1)).trans hx149_1
   replace p149 := eq_true p149
   replace q149 := eq_true q149
   have p150 : 0 ≤ (x5_1 : Int) := oT (by first | (with_reducible assumption) | assumption)
   have q150 : x5_1 < (l1.length : Int) := oT (by first | (with_reducible assumption) | assumption)
   obtain ⟨ad150, e150, hx150_0, hx150_1⟩ := at_T47 HR1.out x5_1 p150 q150
   have hw150_1 := hx150_1
   have hw150_0 := hx150_0
   cases e150
   replace hx150_0 := (HB.out.cell (World.block_lt_of_cell? w _ hx150_0)).trans hx150_0
   replace hx150_1 := (HB.out.cell (World.block_lt_of_cell? w _ hx150_1)).trans hx150_1
   replace p150 := eq_true p150
   replace q150 := eq_true q150
   refine start_ (n := 10) (S := fun w' => w'.cell? (ad149.add ((x5_1).toNat * 2)) = some (.int .i64 ((Zb l0 x5_1).f0)) ∧ w'.cell? ⟨(ad149.add ((x5_1).toNat * 2)).block, (ad149.add ((x5_1).toNat * 2)).off + 1, none⟩ = some (.int .i64 ((Zb l0 x5_1).f1)) ∧ w'.cell? (ad150.add ((x5_1).toNat * 2)) = some (.int .i64 ((Zb l1 x5_1).f0)) ∧ w'.cell? ⟨(ad150.add ((x5_1).toNat * 2)).block, (ad150.add ((x5_1).toNat * 2)).off + 1, none⟩ = some (.int .i64 ((Zb l1 x5_1).f1))) (ds := []) (bz 10 0) (by kernel_rfl) rfl rfl ⟨((HB.out.cell (World.block_lt_of_cell? w _ hw149_0)).trans hw149_0), ((HB.out.cell (World.block_lt_of_cell? w _ hw149_1)).trans hw149_1), ((HB.out.cell (World.block_lt_of_cell? w _ hw150_0)).trans hw150_0), ((HB.out.cell (World.block_lt_of_cell? w _ hw150_1)).trans hw150_1)⟩ (fun hHeld => ?_); refine Yh laws_eqPushS.tab6 laws_eqPushS.bits6 (fun HT_ HW_ => ?_)
   generalize wr.drew = w9 at HB hx149_0 hx149_1 hx150_0 hx150_1 hHeld ⊢
   iterate 8 (first | (refine pz_ HT_ laws_eqPushS.cz0 rfl rfl rfl (v := ?_) (a' := ?_) (by kernel_rfl) (fun _ _ _ h => h) (Or.inl ⟨by rfl, ?_⟩) ?_ ?_; rotate_left; (intro w'; go_simp; with_reducible rfl); rotate_left; (simp only [Act.put, sA, sB, sC, i64_w, i32_w]; rfl)) | (refine tz_ HT_ HW_ laws_eqPushS.cz0 rfl rfl rfl (v := ?_) (a' := ?_) (by kernel_rfl) (fun _ _ _ h => h) (Or.inl ⟨by rfl, ?_⟩) hHeld ?_ ?_; rotate_left; (rintro w' ⟨s0, s1, s2, s3⟩; go_simp; with_reducible rfl); rotate_left; (simp only [Act.put, sA, sB, sC, i64_w, i32_w]; rfl)))
   refine one_ (i := 8) (N := some 25) (bz 10 511) rfl rfl (one_of HT_.out (by kernel_rfl)) (by decide) (fun K hK => ?_)
   refine goes_ Try.func114 (by kernel_rfl) rfl #[.agg #[.int .i64 ((Zb l0 x5_1).f0), .int .i64 ((Zb l0 x5_1).f1)], .agg #[.int .i64 ((Zb l1 x5_1).f0), .int .i64 ((Zb l1 x5_1).f1)]] (by rfl) rfl rfl (by (try simp only [mA, mB, mC]); first | done | rfl | (simp only [lD, lT]; rfl)) ?_
   with_reducible refine (laws_eqPush.calls ((Zb l0 x5_1).f0) ((Zb l0 x5_1).f1) ((Zb l1 x5_1).f0) ((Zb l1 x5_1).f1) true _ A7.out).mono ?_
   rintro e w10 ⟨rfl, hb⟩
   refine ⟨_, rfl, ?_⟩
   have n0_ := AZ.mk (pT (by repeat (first | (with_reducible first | exact HB.out | apply pA | apply pN | apply pD) | exact HB.out)) hb)
   clear HB
   have HB := n0_
   clear n0_
   (try clear hb)
   (try clear hb2)
   (try clear hk)
   (try clear hi)
   refine hK.out _ _ ⟨((HB.out.cell (World.block_lt_of_cell? w _ hw149_0)).trans hw149_0), ((HB.out.cell (World.block_lt_of_cell? w _ hw149_1)).trans hw149_1), ((HB.out.cell (World.block_lt_of_cell? w _ hw150_0)).trans hw150_0), ((HB.out.cell (World.block_lt_of_cell? w _ hw150_1)).trans hw150_1)⟩ (fun hHeld => ?_)
   clear hK K
   refine norm_ (a' := ?_) ?_ ?_
   rotate_left
   ·show Act.put _ (some 25) _ = _
    simp only [Act.put, sA, sB, sC, i64_w, i32_w]
    rfl
   refine Ya (i := 9) (N := some 26) (v := ?_) (a' := ?_) (bz 10 1023) rfl rfl (Zm HT_.out (by kernel_rfl)) (fun _ _ _ h => h) (Or.inl ⟨by rfl, ?_⟩) ?_ ?_
   rotate_left
   ·intro w'
    go_simp
    with_reducible rfl
   rotate_left
   ·simp only [Act.put, sA, sB, sC, i64_w, i32_w]
    rfl
   refine done_ (done_of HT_.out (by kernel_rfl)) ?_
   try go_wp2
   go_roundg k1
   case measure => have := HK1.out; omega
   case rel => exact ⟨(wrap64 (x5_1 + 1)), (by first | rfl | (simp; done) | (simp [*]; done)), H', ⟨by have := HK1.out; omega⟩, ⟨by repeat (first | (with_reducible first | exact HB.out | apply pA | apply pN | apply pD) | exact HB.out)⟩⟩
attribute [local go_sem] Zn Zp Zw Zx Zj Zk Zq Zr
def laws_eqPushSS.l0 : Nat → List (List (S47)) → List (List (S47)) → Int → Option (Bool)
 | 0, _, _, _ => none
 | k + 1, x0, x1, x5 => if x5 < (x0.length : Int) then (if 0 ≤ x5 then (if x5 < (x1.length : Int) then ((laws_eqPushS.f k (Zd x0 x5) (Zd x1 x5)).bind fun t154 => (if t154 = true then (laws_eqPushSS.l0 k x0 x1 (wrap64 (x5 + 1))) else (some false))) else (none)) else (none)) else (some true)
def laws_eqPushSS.f (k : Nat) (l0 : List (List (S47))) (l1 : List (List (S47))) : Option (Bool) := if (l0.length : Int) = (l1.length : Int) then (laws_eqPushSS.l0 k l0 l1 0) else (some false)
def laws_eqPushSS.T6 : Bool × List (List Nat × List Nat) := (true, [([], []), ([], []), ([0, 1], [0, 1]), ([2], [2]), ([], []), ([], []), ([4, 5], [4, 5]), ([6], [6]), ([3, 7], [3, 7]), ([8], [8])])
def laws_eqPushSS.B6 : List Nat := [0, 0, 3, 7, 0, 0, 48, 112, 255, 511]
theorem laws_eqPushSS.tab6 : rtab .any (opsOf Try.f35 6) = laws_eqPushSS.T6 := by kernel_rfl
theorem laws_eqPushSS.bits6 : waitsOk laws_eqPushSS.T6.2 laws_eqPushSS.B6 = true := by kernel_rfl
def laws_eqPushSS.cz0 : List Nat := [0, 1, 2, 4, 5, 6, 403, 407]
theorem laws_eqPushSS.calls (k : Nat) (A0 : Option Addr) (c0 : Nat) (l0 : List (List (S47))) (A1 : Option Addr) (c1 : Nat) (l1 : List (List (S47))) (r : Bool) (w : World) (hr0 : Kd.C (Kd.slice 47 k47) w A0 l0.length l0) (hc0 : l0.length ≤ c0) (hr1 : Kd.C (Kd.slice 47 k47) w A1 l1.length l1) (hc1 : l1.length ≤ c1) (h : laws_eqPushSS.f k l0 l1 = some r) :
  Calls Try.prog 35 #[.slice A0 l0.length c0, .slice A1 l1.length c1] w fun e w' => e = .returned (.bool r) ∧ Below w.heap.size w w' := by
 have HR0 := AZ.mk hr0
 have HC0 := AZ.mk hc0
 clear hr0 hc0
 have HR1 := AZ.mk hr1
 have HC1 := AZ.mk hc1
 clear hr1 hc1
 have HB := AZ.mk (Below.refl w.heap.size w)
 have H : (if (l0.length : Int) = (l1.length : Int) then (laws_eqPushSS.l0 k l0 l1 0) else (some false)) = some r := h
 clear h
 by_cases c3 : (l0.length : Int) = (l1.length : Int)
 rotate_left
 ·rw [if_neg c3] at H
  have c3b0 : ((l0.length : Int) == (l1.length : Int)) = false := beq_eq_false_iff_ne.mpr c3
  have c3b1 : ((l0.length : Int) != (l1.length : Int)) = true := bne_iff_ne.mpr c3
  have c3b2 : (l0.length == l1.length) = false := by first | simpa using c3 | (simp at c3 ⊢; omega)
  obtain rfl := oJ H
  go_enter Try.func35, Try.ntmps35
  go_wp2
  go_ret
  exact ⟨by first | rfl | (simp [Ze, Zf] <;> rfl) | (simp [*, Ze, Zf] <;> rfl), by repeat (first | (with_reducible first | exact HB.out | apply pA | apply pN | apply pD) | exact HB.out)⟩
 rw [if_pos c3] at H
 have c3b0 : ((l0.length : Int) == (l1.length : Int)) = true := beq_iff_eq.mpr c3
 have c3b1 : ((l0.length : Int) != (l1.length : Int)) = false := bne_eq_false_iff_eq.mpr c3
 have c3b2 : (l0.length == l1.length) = true := by first | simpa using c3 | (simp at c3 ⊢; omega)
 clear c3
 have H' := AZ.mk H
 clear H
 go_enter Try.func35, Try.ntmps35
 go_wp2
 go_loopg [5] k (fun kq v5 w' => ∃ (x5_1 : Int), v5 = .int .i64 x5_1 ∧ AZ (laws_eqPushSS.l0 kq l0 l1 x5_1 = some r) ∧ AZ (kq ≤ k) ∧ AZ (Below w.heap.size w w'))
 case atStart => exact ⟨(0), (by first | rfl | (simp; done) | (simp [*]; done)), H', ⟨Nat.le_refl _⟩, ⟨by repeat (first | (with_reducible first | exact HB.out | apply pA | apply pN | apply pD) | exact HB.out)⟩⟩
 case round =>
  clear H'
  try clear c1
  try clear p2
  try clear c3
  try clear c3b0
  try clear c3b1
  try clear c3b2
  obtain ⟨x5_1, rfl, HA, HK1, HB⟩ := hrel
  cases gk with
  | zero => exact absurd HA.out (by simp [laws_eqPushSS.l0])
  | succ k1 =>
   have H := HA.out
   clear HA
   simp only [laws_eqPushSS.l0] at H
   by_cases c4 : x5_1 < (l0.length : Int)
   rotate_left
   ·rw [if_neg c4] at H
    have c4b0 : decide (x5_1 < (l0.length : Int)) = false := dF c4
    clear c4
    obtain rfl := oJ H
    go_wp2
    go_ret
    exact ⟨by first | rfl | (simp [Ze, Zf] <;> rfl) | (simp [*, Ze, Zf] <;> rfl), by repeat (first | (with_reducible first | exact HB.out | apply pA | apply pN | apply pD) | exact HB.out)⟩
   rw [if_pos c4] at H
   have c4b0 : decide (x5_1 < (l0.length : Int)) = true := dT c4
   clear c4
   by_cases c5 : 0 ≤ x5_1
   rotate_left
   ·rw [if_neg c5] at H
    exact absurd H (by simp)
   rw [if_pos c5] at H
   have c5b0 : decide (0 ≤ x5_1) = true := dT c5
   clear c5
   by_cases c6 : x5_1 < (l1.length : Int)
   rotate_left
   ·rw [if_neg c6] at H
    exact absurd H (by simp)
   rw [if_pos c6] at H
   have c6b0 : decide (x5_1 < (l1.length : Int)) = true := dT c6
   clear c6
   replace H := Option.bind_eq_some_iff.mp H
   obtain ⟨t154, A70, H⟩ := H
   replace H : (if t154 = true then (laws_eqPushSS.l0 k1 l0 l1 (wrap64 (x5_1 + 1))) else (some false)) = some r := H
   have A7 := AZ.mk A70
   clear A70
   by_cases c8 : t154 = true
   rotate_left
   ·replace c8 := Bool.eq_false_iff.mpr c8
    subst c8
    have H1 : (some false) = some r := by rw [if_neg (show ¬ (false = true) by decide)] at H; exact H
    clear H
    have H := H1
    clear H1
    obtain rfl := oJ H
    try go_wp2
    have n0_ := AZ.mk (pD HB.out)
    clear HB
    have HB := n0_
    clear n0_
    have p152 : 0 ≤ (x5_1 : Int) := oT (by first | (with_reducible assumption) | assumption)
    have q152 : x5_1 < (l0.length : Int) := oT (by first | (with_reducible assumption) | assumption)
    obtain ⟨ad152, A152_0, c152_0, e152, hx152_0, hl152_0, hi152_0⟩ := at_L3 HR0.out x5_1 p152 q152
    have hw152_0 := hx152_0
    cases e152
    replace hx152_0 := (HB.out.cell (World.block_lt_of_cell? w _ hx152_0)).trans hx152_0
    have HR152_0 := AZ.mk hi152_0
    have HC152_0 := AZ.mk hl152_0
    clear hi152_0 hl152_0
    replace p152 := eq_true p152
    replace q152 := eq_true q152
    have p153 : 0 ≤ (x5_1 : Int) := oT (by first | (with_reducible assumption) | assumption)
    have q153 : x5_1 < (l1.length : Int) := oT (by first | (with_reducible assumption) | assumption)
    obtain ⟨ad153, A153_0, c153_0, e153, hx153_0, hl153_0, hi153_0⟩ := at_L3 HR1.out x5_1 p153 q153
    have hw153_0 := hx153_0
    cases e153
    replace hx153_0 := (HB.out.cell (World.block_lt_of_cell? w _ hx153_0)).trans hx153_0
    have HR153_0 := AZ.mk hi153_0
    have HC153_0 := AZ.mk hl153_0
    clear hi153_0 hl153_0
    replace p153 := eq_true p153
    replace q153 := eq_true q153
    refine start_ (n := 10) (S := fun w' => w'.cell? (ad152.add (x5_1).toNat) = some (.slice A152_0 (Zd l0 x5_1).length c152_0) ∧ w'.cell? (ad153.add (x5_1).toNat) = some (.slice A153_0 (Zd l1 x5_1).length c153_0)) (ds := []) (bz 10 0) (by kernel_rfl) rfl rfl ⟨((HB.out.cell (World.block_lt_of_cell? w _ hw152_0)).trans hw152_0), ((HB.out.cell (World.block_lt_of_cell? w _ hw153_0)).trans hw153_0)⟩ (fun hHeld => ?_); refine Yh laws_eqPushSS.tab6 laws_eqPushSS.bits6 (fun HT_ HW_ => ?_)
    generalize wr.drew = w11 at HB HR152_0 HR153_0 hx152_0 hx153_0 hHeld ⊢
    iterate 8 (first | (refine pz_ HT_ laws_eqPushSS.cz0 rfl rfl rfl (v := ?_) (a' := ?_) (by kernel_rfl) (fun _ _ _ h => h) (Or.inl ⟨by rfl, ?_⟩) ?_ ?_; rotate_left; (intro w'; go_simp; with_reducible rfl); rotate_left; (simp only [Act.put, sA, sB, sC, i64_w, i32_w]; rfl)) | (refine tz_ HT_ HW_ laws_eqPushSS.cz0 rfl rfl rfl (v := ?_) (a' := ?_) (by kernel_rfl) (fun _ _ _ h => h) (Or.inl ⟨by rfl, ?_⟩) hHeld ?_ ?_; rotate_left; (rintro w' ⟨s0, s1⟩; go_simp; with_reducible rfl); rotate_left; (simp only [Act.put, sA, sB, sC, i64_w, i32_w]; rfl)))
    refine one_ (i := 8) (N := some 25) (bz 10 511) rfl rfl (one_of HT_.out (by kernel_rfl)) (by decide) (fun K hK => ?_)
    refine goes_ Try.func84 (by kernel_rfl) rfl #[.slice A152_0 (Zd l0 x5_1).length c152_0, .slice A153_0 (Zd l1 x5_1).length c153_0] (by rfl) rfl rfl (by (try simp only [mA, mB, mC]); first | done | rfl | (simp only [lD, lT]; rfl)) ?_
    with_reducible refine (laws_eqPushS.calls k1 _ _ (Zd l0 x5_1) _ _ (Zd l1 x5_1) false _ ?side1 ?side2 ?side3 ?side4 A7.out).mono ?_
    (case side1 => repeat (first | exact (Kd.C_below HR152_0.out HB.out) | (with_reducible refine Kd.C_alloc ?_ _) | (with_reducible refine Kd.C_drewN ?_ _) | (with_reducible refine Kd.C_drew ?_)))
    (case side2 => exact HC152_0.out)
    (case side3 => repeat (first | exact (Kd.C_below HR153_0.out HB.out) | (with_reducible refine Kd.C_alloc ?_ _) | (with_reducible refine Kd.C_drewN ?_ _) | (with_reducible refine Kd.C_drew ?_)))
    (case side4 => exact HC153_0.out)
    rintro e w12 ⟨rfl, hb⟩
    refine ⟨_, rfl, ?_⟩
    have n0_ := AZ.mk (pT (by repeat (first | (with_reducible first | exact HB.out | apply pA | apply pN | apply pD) | exact HB.out)) hb)
    clear HB
    have HB := n0_
    clear n0_
    (try clear hb)
    (try clear hb2)
    (try clear hk)
    (try clear hi)
    refine hK.out _ _ ⟨((HB.out.cell (World.block_lt_of_cell? w _ hw152_0)).trans hw152_0), ((HB.out.cell (World.block_lt_of_cell? w _ hw153_0)).trans hw153_0)⟩ (fun hHeld => ?_)
    clear hK K
    refine norm_ (a' := ?_) ?_ ?_
    rotate_left
    ·show Act.put _ (some 25) _ = _
     simp only [Act.put, sA, sB, sC, i64_w, i32_w]
     rfl
    refine Ya (i := 9) (N := some 26) (v := ?_) (a' := ?_) (bz 10 1023) rfl rfl (Zm HT_.out (by kernel_rfl)) (fun _ _ _ h => h) (Or.inl ⟨by rfl, ?_⟩) ?_ ?_
    rotate_left
    ·intro w'
     go_simp
     with_reducible rfl
    rotate_left
    ·simp only [Act.put, sA, sB, sC, i64_w, i32_w]
     rfl
    refine done_ (done_of HT_.out (by kernel_rfl)) ?_
    try go_wp2
    go_ret
    exact ⟨by first | rfl | (simp [Ze, Zf] <;> rfl) | (simp [*, Ze, Zf] <;> rfl), by repeat (first | (with_reducible first | exact HB.out | apply pA | apply pN | apply pD) | exact HB.out)⟩
   subst c8
   have H1 : (laws_eqPushSS.l0 k1 l0 l1 (wrap64 (x5_1 + 1))) = some r := by rw [if_pos rfl] at H; exact H
   clear H
   have H := H1
   clear H1
   have H' := AZ.mk H
   clear H
   try go_wp2
   have n0_ := AZ.mk (pD HB.out)
   clear HB
   have HB := n0_
   clear n0_
   have p152 : 0 ≤ (x5_1 : Int) := oT (by first | (with_reducible assumption) | assumption)
   have q152 : x5_1 < (l0.length : Int) := oT (by first | (with_reducible assumption) | assumption)
   obtain ⟨ad152, A152_0, c152_0, e152, hx152_0, hl152_0, hi152_0⟩ := at_L3 HR0.out x5_1 p152 q152
   have hw152_0 := hx152_0
   cases e152
   replace hx152_0 := (HB.out.cell (World.block_lt_of_cell? w _ hx152_0)).trans hx152_0
   have HR152_0 := AZ.mk hi152_0
   have HC152_0 := AZ.mk hl152_0
   clear hi152_0 hl152_0
   replace p152 := eq_true p152
   replace q152 := eq_true q152
   have p153 : 0 ≤ (x5_1 : Int) := oT (by first | (with_reducible assumption) | assumption)
   have q153 : x5_1 < (l1.length : Int) := oT (by first | (with_reducible assumption) | assumption)
   obtain ⟨ad153, A153_0, c153_0, e153, hx153_0, hl153_0, hi153_0⟩ := at_L3 HR1.out x5_1 p153 q153
   have hw153_0 := hx153_0
   cases e153
   replace hx153_0 := (HB.out.cell (World.block_lt_of_cell? w _ hx153_0)).trans hx153_0
   have HR153_0 := AZ.mk hi153_0
   have HC153_0 := AZ.mk hl153_0
   clear hi153_0 hl153_0
   replace p153 := eq_true p153
   replace q153 := eq_true q153
   refine start_ (n := 10) (S := fun w' => w'.cell? (ad152.add (x5_1).toNat) = some (.slice A152_0 (Zd l0 x5_1).length c152_0) ∧ w'.cell? (ad153.add (x5_1).toNat) = some (.slice A153_0 (Zd l1 x5_1).length c153_0)) (ds := []) (bz 10 0) (by kernel_rfl) rfl rfl ⟨((HB.out.cell (World.block_lt_of_cell? w _ hw152_0)).trans hw152_0), ((HB.out.cell (World.block_lt_of_cell? w _ hw153_0)).trans hw153_0)⟩ (fun hHeld => ?_); refine Yh laws_eqPushSS.tab6 laws_eqPushSS.bits6 (fun HT_ HW_ => ?_)
   generalize wr.drew = w9 at HB HR152_0 HR153_0 hx152_0 hx153_0 hHeld ⊢
   iterate 8 (first | (refine pz_ HT_ laws_eqPushSS.cz0 rfl rfl rfl (v := ?_) (a' := ?_) (by kernel_rfl) (fun _ _ _ h => h) (Or.inl ⟨by rfl, ?_⟩) ?_ ?_; rotate_left; (intro w'; go_simp; with_reducible rfl); rotate_left; (simp only [Act.put, sA, sB, sC, i64_w, i32_w]; rfl)) | (refine tz_ HT_ HW_ laws_eqPushSS.cz0 rfl rfl rfl (v := ?_) (a' := ?_) (by kernel_rfl) (fun _ _ _ h => h) (Or.inl ⟨by rfl, ?_⟩) hHeld ?_ ?_; rotate_left; (rintro w' ⟨s0, s1⟩; go_simp; with_reducible rfl); rotate_left; (simp only [Act.put, sA, sB, sC, i64_w, i32_w]; rfl)))
   refine one_ (i := 8) (N := some 25) (bz 10 511) rfl rfl (one_of HT_.out (by kernel_rfl)) (by decide) (fun K hK => ?_)
   refine goes_ Try.func84 (by kernel_rfl) rfl #[.slice A152_0 (Zd l0 x5_1).length c152_0, .slice A153_0 (Zd l1 x5_1).length c153_0] (by rfl) rfl rfl (by (try simp only [mA, mB, mC]); first | done | rfl | (simp only [lD, lT]; rfl)) ?_
   with_reducible refine (laws_eqPushS.calls k1 _ _ (Zd l0 x5_1) _ _ (Zd l1 x5_1) true _ ?side1 ?side2 ?side3 ?side4 A7.out).mono ?_
   (case side1 => repeat (first | exact (Kd.C_below HR152_0.out HB.out) | (with_reducible refine Kd.C_alloc ?_ _) | (with_reducible refine Kd.C_drewN ?_ _) | (with_reducible refine Kd.C_drew ?_)))
   (case side2 => exact HC152_0.out)
   (case side3 => repeat (first | exact (Kd.C_below HR153_0.out HB.out) | (with_reducible refine Kd.C_alloc ?_ _) | (with_reducible refine Kd.C_drewN ?_ _) | (with_reducible refine Kd.C_drew ?_)))
   (case side4 => exact HC153_0.out)
   rintro e w10 ⟨rfl, hb⟩
   refine ⟨_, rfl, ?_⟩
   have n0_ := AZ.mk (pT (by repeat (first | (with_reducible first | exact HB.out | apply pA | apply pN | apply pD) | exact HB.out)) hb)
   clear HB
   have HB := n0_
   clear n0_
   (try clear hb)
   (try clear hb2)
   (try clear hk)
   (try clear hi)
   refine hK.out _ _ ⟨((HB.out.cell (World.block_lt_of_cell? w _ hw152_0)).trans hw152_0), ((HB.out.cell (World.block_lt_of_cell? w _ hw153_0)).trans hw153_0)⟩ (fun hHeld => ?_)
   clear hK K
   refine norm_ (a' := ?_) ?_ ?_
   rotate_left
   ·show Act.put _ (some 25) _ = _
    simp only [Act.put, sA, sB, sC, i64_w, i32_w]
    rfl
   refine Ya (i := 9) (N := some 26) (v := ?_) (a' := ?_) (bz 10 1023) rfl rfl (Zm HT_.out (by kernel_rfl)) (fun _ _ _ h => h) (Or.inl ⟨by rfl, ?_⟩) ?_ ?_
   rotate_left
   ·intro w'
    go_simp
    with_reducible rfl
   rotate_left
   ·simp only [Act.put, sA, sB, sC, i64_w, i32_w]
    rfl
   refine done_ (done_of HT_.out (by kernel_rfl)) ?_
   try go_wp2
   go_roundg k1
   case measure => have := HK1.out; omega
   case rel => exact ⟨(wrap64 (x5_1 + 1)), (by first | rfl | (simp; done) | (simp [*]; done)), H', ⟨by have := HK1.out; omega⟩, ⟨by repeat (first | (with_reducible first | exact HB.out | apply pA | apply pN | apply pD) | exact HB.out)⟩⟩
attribute [local go_sem] Zn Zp Zw Zx Zj Zk Zq Zr
def laws_eqInt64S.l0 : Nat → List Int → List Int → Int → Option (Bool)
 | 0, _, _, _ => none
 | k + 1, x0, x1, x5 => if x5 < (x0.length : Int) then (if 0 ≤ x5 then (if x5 < (x1.length : Int) then (if (rd x0 x5) = (rd x1 x5) then (laws_eqInt64S.l0 k x0 x1 (wrap64 (x5 + 1))) else (some false)) else (none)) else (none)) else (some true)
def laws_eqInt64S.f (k : Nat) (l0 : List Int) (l1 : List Int) : Option (Bool) := if (l0.length : Int) = (l1.length : Int) then (laws_eqInt64S.l0 k l0 l1 0) else (some false)
theorem laws_eqInt64S.calls (k : Nat) (A0 : Option Addr) (c0 : Nat) (l0 : List Int) (A1 : Option Addr) (c1 : Nat) (l1 : List Int) (r : Bool) (w : World) (hr0 : Kd.C (Kd.int .i64) w A0 l0.length l0) (hc0 : l0.length ≤ c0) (hr1 : Kd.C (Kd.int .i64) w A1 l1.length l1) (hc1 : l1.length ≤ c1) (h : laws_eqInt64S.f k l0 l1 = some r) :
  Calls Try.prog 85 #[.slice A0 l0.length c0, .slice A1 l1.length c1] w fun e w' => e = .returned (.bool r) ∧ Drawn0 w w' := by
 have HR0 := AZ.mk hr0
 have HC0 := AZ.mk hc0
 clear hr0 hc0
 have HR1 := AZ.mk hr1
 have HC1 := AZ.mk hc1
 clear hr1 hc1
 have H : (if (l0.length : Int) = (l1.length : Int) then (laws_eqInt64S.l0 k l0 l1 0) else (some false)) = some r := h
 clear h
 by_cases c3 : (l0.length : Int) = (l1.length : Int)
 rotate_left
 ·rw [if_neg c3] at H
  have c3b0 : ((l0.length : Int) == (l1.length : Int)) = false := beq_eq_false_iff_ne.mpr c3
  have c3b1 : ((l0.length : Int) != (l1.length : Int)) = true := bne_iff_ne.mpr c3
  have c3b2 : (l0.length == l1.length) = false := by first | simpa using c3 | (simp at c3 ⊢; omega)
  obtain rfl := oJ H
  go_enter Try.func85, Try.ntmps85
  go_wp2
  repeat (go_quiet (fail); try go_wp2)
  go_ret
  exact ⟨by first | rfl | (simp; done) | (simp [*]; done), by repeat (first | exact Drawn0.refl _ | apply Drawn0.step)⟩
 rw [if_pos c3] at H
 have c3b0 : ((l0.length : Int) == (l1.length : Int)) = true := beq_iff_eq.mpr c3
 have c3b1 : ((l0.length : Int) != (l1.length : Int)) = false := bne_eq_false_iff_eq.mpr c3
 have c3b2 : (l0.length == l1.length) = true := by first | simpa using c3 | (simp at c3 ⊢; omega)
 clear c3
 have H' := AZ.mk H
 clear H
 go_enter Try.func85, Try.ntmps85
 go_wp2
 repeat (go_quiet (fail); try go_wp2)
 go_loopg [5] k (fun kq v5 w' => ∃ (x5_1 : Int), v5 = .int .i64 x5_1 ∧ AZ (laws_eqInt64S.l0 kq l0 l1 x5_1 = some r) ∧ AZ (kq ≤ k) ∧ Drawn0 w w')
 case atStart => exact ⟨(0), (by first | rfl | (simp; done) | (simp [*]; done)), H', ⟨Nat.le_refl _⟩, by repeat (first | exact Drawn0.refl _ | apply Drawn0.step)⟩
 case round =>
  clear H'
  try clear c1
  try clear p2
  try clear c3
  try clear c3b0
  try clear c3b1
  try clear c3b2
  obtain ⟨x5_1, rfl, HA, HK1, ⟨m1, rfl⟩⟩ := hrel
  cases gk with
  | zero => exact absurd HA.out (by simp [laws_eqInt64S.l0])
  | succ k1 =>
   have H := HA.out
   clear HA
   simp only [laws_eqInt64S.l0] at H
   by_cases c4 : x5_1 < (l0.length : Int)
   rotate_left
   ·rw [if_neg c4] at H
    have c4b0 : decide (x5_1 < (l0.length : Int)) = false := dF c4
    clear c4
    obtain rfl := oJ H
    go_wp2
    repeat (go_quiet (fail); try go_wp2)
    go_ret
    exact ⟨by first | rfl | (simp; done) | (simp [*]; done), by repeat (first | exact Drawn0.refl _ | apply Drawn0.step)⟩
   rw [if_pos c4] at H
   have c4b0 : decide (x5_1 < (l0.length : Int)) = true := dT c4
   clear c4
   by_cases c5 : 0 ≤ x5_1
   rotate_left
   ·rw [if_neg c5] at H
    exact absurd H (by simp)
   rw [if_pos c5] at H
   have c5b0 : decide (0 ≤ x5_1) = true := dT c5
   clear c5
   by_cases c6 : x5_1 < (l1.length : Int)
   rotate_left
   ·rw [if_neg c6] at H
    exact absurd H (by simp)
   rw [if_pos c6] at H
   have c6b0 : decide (x5_1 < (l1.length : Int)) = true := dT c6
   clear c6
   by_cases c7 : (rd l0 x5_1) = (rd l1 x5_1)
   rotate_left
   ·rw [if_neg c7] at H
    have c7b0 : ((rd l0 x5_1) == (rd l1 x5_1)) = false := beq_eq_false_iff_ne.mpr c7
    have c7b1 : ((rd l0 x5_1) != (rd l1 x5_1)) = true := bne_iff_ne.mpr c7
    obtain rfl := oJ H
    have p155 : 0 ≤ (x5_1 : Int) := oT (by first | (with_reducible assumption) | assumption)
    have q155 : x5_1 < (l0.length : Int) := oT (by first | (with_reducible assumption) | assumption)
    obtain ⟨ad155, e155, hx155_0⟩ := Kd.at_int HR0.out x5_1 p155 q155
    cases e155
    replace p155 := eq_true p155
    replace q155 := eq_true q155
    have p156 : 0 ≤ (x5_1 : Int) := oT (by first | (with_reducible assumption) | assumption)
    have q156 : x5_1 < (l1.length : Int) := oT (by first | (with_reducible assumption) | assumption)
    obtain ⟨ad156, e156, hx156_0⟩ := Kd.at_int HR1.out x5_1 p156 q156
    cases e156
    replace p156 := eq_true p156
    replace q156 := eq_true q156
    go_wp2
    repeat (go_quiet (fail); try go_wp2)
    go_ret
    exact ⟨by first | rfl | (simp; done) | (simp [*]; done), by repeat (first | exact Drawn0.refl _ | apply Drawn0.step)⟩
   rw [if_pos c7] at H
   have c7b0 : ((rd l0 x5_1) == (rd l1 x5_1)) = true := beq_iff_eq.mpr c7
   have c7b1 : ((rd l0 x5_1) != (rd l1 x5_1)) = false := bne_eq_false_iff_eq.mpr c7
   clear c7
   have H' := AZ.mk H
   clear H
   have p155 : 0 ≤ (x5_1 : Int) := oT (by first | (with_reducible assumption) | assumption)
   have q155 : x5_1 < (l0.length : Int) := oT (by first | (with_reducible assumption) | assumption)
   obtain ⟨ad155, e155, hx155_0⟩ := Kd.at_int HR0.out x5_1 p155 q155
   cases e155
   replace p155 := eq_true p155
   replace q155 := eq_true q155
   have p156 : 0 ≤ (x5_1 : Int) := oT (by first | (with_reducible assumption) | assumption)
   have q156 : x5_1 < (l1.length : Int) := oT (by first | (with_reducible assumption) | assumption)
   obtain ⟨ad156, e156, hx156_0⟩ := Kd.at_int HR1.out x5_1 p156 q156
   cases e156
   replace p156 := eq_true p156
   replace q156 := eq_true q156
   go_wp2
   repeat (go_quiet (fail); try go_wp2)
   go_roundg k1
   case measure => have := HK1.out; omega
   case rel => exact ⟨(wrap64 (x5_1 + 1)), (by first | rfl | (simp; done) | (simp [*]; done)), H', ⟨by have := HK1.out; omega⟩, by repeat (first | exact Drawn0.refl _ | apply Drawn0.step)⟩
attribute [local go_sem] Zn Zp Zw Zx Zj Zk Zq Zr
def laws_eqInt64SS.l0 : Nat → List (List Int) → List (List Int) → Int → Option (Bool)
 | 0, _, _, _ => none
 | k + 1, x0, x1, x5 => if x5 < (x0.length : Int) then (if 0 ≤ x5 then (if x5 < (x1.length : Int) then ((laws_eqInt64S.f k (rd_L4 x0 x5) (rd_L4 x1 x5)).bind fun t159 => (if t159 = true then (laws_eqInt64SS.l0 k x0 x1 (wrap64 (x5 + 1))) else (some false))) else (none)) else (none)) else (some true)
def laws_eqInt64SS.f (k : Nat) (l0 : List (List Int)) (l1 : List (List Int)) : Option (Bool) := if (l0.length : Int) = (l1.length : Int) then (laws_eqInt64SS.l0 k l0 l1 0) else (some false)
theorem laws_eqInt64SS.calls (k : Nat) (A0 : Option Addr) (c0 : Nat) (l0 : List (List Int)) (A1 : Option Addr) (c1 : Nat) (l1 : List (List Int)) (r : Bool) (w : World) (hr0 : Kd.C (Kd.slice 2 (Kd.int .i64)) w A0 l0.length l0) (hc0 : l0.length ≤ c0) (hr1 : Kd.C (Kd.slice 2 (Kd.int .i64)) w A1 l1.length l1) (hc1 : l1.length ≤ c1) (h : laws_eqInt64SS.f k l0 l1 = some r) :
  Calls Try.prog 37 #[.slice A0 l0.length c0, .slice A1 l1.length c1] w fun e w' => e = .returned (.bool r) ∧ Drawn0 w w' := by
 have HR0 := AZ.mk hr0
 have HC0 := AZ.mk hc0
 clear hr0 hc0
 have HR1 := AZ.mk hr1
 have HC1 := AZ.mk hc1
 clear hr1 hc1
 have H : (if (l0.length : Int) = (l1.length : Int) then (laws_eqInt64SS.l0 k l0 l1 0) else (some false)) = some r := h
 clear h
 by_cases c3 : (l0.length : Int) = (l1.length : Int)
 rotate_left
 ·rw [if_neg c3] at H
  have c3b0 : ((l0.length : Int) == (l1.length : Int)) = false := beq_eq_false_iff_ne.mpr c3
  have c3b1 : ((l0.length : Int) != (l1.length : Int)) = true := bne_iff_ne.mpr c3
  have c3b2 : (l0.length == l1.length) = false := by first | simpa using c3 | (simp at c3 ⊢; omega)
  obtain rfl := oJ H
  go_enter Try.func37, Try.ntmps37
  go_wp2
  repeat (go_quiet (fail); try go_wp2)
  go_ret
  exact ⟨by first | rfl | (simp; done) | (simp [*]; done), by repeat (first | exact Drawn0.refl _ | apply Drawn0.step)⟩
 rw [if_pos c3] at H
 have c3b0 : ((l0.length : Int) == (l1.length : Int)) = true := beq_iff_eq.mpr c3
 have c3b1 : ((l0.length : Int) != (l1.length : Int)) = false := bne_eq_false_iff_eq.mpr c3
 have c3b2 : (l0.length == l1.length) = true := by first | simpa using c3 | (simp at c3 ⊢; omega)
 clear c3
 have H' := AZ.mk H
 clear H
 go_enter Try.func37, Try.ntmps37
 go_wp2
 repeat (go_quiet (fail); try go_wp2)
 go_loopg [5] k (fun kq v5 w' => ∃ (x5_1 : Int), v5 = .int .i64 x5_1 ∧ AZ (laws_eqInt64SS.l0 kq l0 l1 x5_1 = some r) ∧ AZ (kq ≤ k) ∧ Drawn0 w w')
 case atStart => exact ⟨(0), (by first | rfl | (simp; done) | (simp [*]; done)), H', ⟨Nat.le_refl _⟩, by repeat (first | exact Drawn0.refl _ | apply Drawn0.step)⟩
 case round =>
  clear H'
  try clear c1
  try clear p2
  try clear c3
  try clear c3b0
  try clear c3b1
  try clear c3b2
  obtain ⟨x5_1, rfl, HA, HK1, ⟨m1, rfl⟩⟩ := hrel
  cases gk with
  | zero => exact absurd HA.out (by simp [laws_eqInt64SS.l0])
  | succ k1 =>
   have H := HA.out
   clear HA
   simp only [laws_eqInt64SS.l0] at H
   by_cases c4 : x5_1 < (l0.length : Int)
   rotate_left
   ·rw [if_neg c4] at H
    have c4b0 : decide (x5_1 < (l0.length : Int)) = false := dF c4
    clear c4
    obtain rfl := oJ H
    go_wp2
    repeat (go_quiet (fail); try go_wp2)
    go_ret
    exact ⟨by first | rfl | (simp; done) | (simp [*]; done), by repeat (first | exact Drawn0.refl _ | apply Drawn0.step)⟩
   rw [if_pos c4] at H
   have c4b0 : decide (x5_1 < (l0.length : Int)) = true := dT c4
   clear c4
   by_cases c5 : 0 ≤ x5_1
   rotate_left
   ·rw [if_neg c5] at H
    exact absurd H (by simp)
   rw [if_pos c5] at H
   have c5b0 : decide (0 ≤ x5_1) = true := dT c5
   clear c5
   by_cases c6 : x5_1 < (l1.length : Int)
   rotate_left
   ·rw [if_neg c6] at H
    exact absurd H (by simp)
   rw [if_pos c6] at H
   have c6b0 : decide (x5_1 < (l1.length : Int)) = true := dT c6
   clear c6
   replace H := Option.bind_eq_some_iff.mp H
   obtain ⟨t159, A70, H⟩ := H
   replace H : (if t159 = true then (laws_eqInt64SS.l0 k1 l0 l1 (wrap64 (x5_1 + 1))) else (some false)) = some r := H
   have A7 := AZ.mk A70
   clear A70
   by_cases c8 : t159 = true
   rotate_left
   ·replace c8 := Bool.eq_false_iff.mpr c8
    subst c8
    have H1 : (some false) = some r := by rw [if_neg (show ¬ (false = true) by decide)] at H; exact H
    clear H
    have H := H1
    clear H1
    obtain rfl := oJ H
    have p157 : 0 ≤ (x5_1 : Int) := oT (by first | (with_reducible assumption) | assumption)
    have q157 : x5_1 < (l0.length : Int) := oT (by first | (with_reducible assumption) | assumption)
    obtain ⟨ad157, A157_0, c157_0, e157, hx157_0, hl157_0, hi157_0⟩ := at_L4 HR0.out x5_1 p157 q157
    cases e157
    have HR157_0 := AZ.mk hi157_0
    have HC157_0 := AZ.mk hl157_0
    clear hi157_0 hl157_0
    replace p157 := eq_true p157
    replace q157 := eq_true q157
    have p158 : 0 ≤ (x5_1 : Int) := oT (by first | (with_reducible assumption) | assumption)
    have q158 : x5_1 < (l1.length : Int) := oT (by first | (with_reducible assumption) | assumption)
    obtain ⟨ad158, A158_0, c158_0, e158, hx158_0, hl158_0, hi158_0⟩ := at_L4 HR1.out x5_1 p158 q158
    cases e158
    have HR158_0 := AZ.mk hi158_0
    have HC158_0 := AZ.mk hl158_0
    clear hi158_0 hl158_0
    replace p158 := eq_true p158
    replace q158 := eq_true q158
    go_wp2_with (first | (go_at_call 85; (with_reducible refine (laws_eqInt64S.calls k1 _ _ (rd_L4 l0 x5_1) _ _ (rd_L4 l1 x5_1) false _ ?side1 ?side2 ?side3 ?side4 A7.out).mono ?_); (case side1 => repeat (first | exact HR157_0.out | (with_reducible refine Kd.C_alloc ?_ _) | (with_reducible refine Kd.C_drewN ?_ _) | (with_reducible refine Kd.C_drew ?_))); (case side2 => exact HC157_0.out); (case side3 => repeat (first | exact HR158_0.out | (with_reducible refine Kd.C_alloc ?_ _) | (with_reducible refine Kd.C_drewN ?_ _) | (with_reducible refine Kd.C_drew ?_))); (case side4 => exact HC158_0.out); rintro e w' ⟨rfl, ⟨nd, rfl⟩⟩; (try first | exact ⟨rfl, _, World.drewN_drewN _ _ _⟩ | exact ⟨rfl, _, Eq.trans (World.drewN_drewN _ _ _) (congrArg (World.drewN _) (Nat.add_assoc _ _ _))⟩)))
    repeat (go_quiet (first | (go_at_call 85; (with_reducible refine (laws_eqInt64S.calls k1 _ _ (rd_L4 l0 x5_1) _ _ (rd_L4 l1 x5_1) false _ ?side1 ?side2 ?side3 ?side4 A7.out).mono ?_); (case side1 => repeat (first | exact HR157_0.out | (with_reducible refine Kd.C_alloc ?_ _) | (with_reducible refine Kd.C_drewN ?_ _) | (with_reducible refine Kd.C_drew ?_))); (case side2 => exact HC157_0.out); (case side3 => repeat (first | exact HR158_0.out | (with_reducible refine Kd.C_alloc ?_ _) | (with_reducible refine Kd.C_drewN ?_ _) | (with_reducible refine Kd.C_drew ?_))); (case side4 => exact HC158_0.out); rintro e w' ⟨rfl, ⟨nd, rfl⟩⟩; (try first | exact ⟨rfl, _, World.drewN_drewN _ _ _⟩ | exact ⟨rfl, _, Eq.trans (World.drewN_drewN _ _ _) (congrArg (World.drewN _) (Nat.add_assoc _ _ _))⟩))); try go_wp2_with (first | (go_at_call 85; (with_reducible refine (laws_eqInt64S.calls k1 _ _ (rd_L4 l0 x5_1) _ _ (rd_L4 l1 x5_1) false _ ?side1 ?side2 ?side3 ?side4 A7.out).mono ?_); (case side1 => repeat (first | exact HR157_0.out | (with_reducible refine Kd.C_alloc ?_ _) | (with_reducible refine Kd.C_drewN ?_ _) | (with_reducible refine Kd.C_drew ?_))); (case side2 => exact HC157_0.out); (case side3 => repeat (first | exact HR158_0.out | (with_reducible refine Kd.C_alloc ?_ _) | (with_reducible refine Kd.C_drewN ?_ _) | (with_reducible refine Kd.C_drew ?_))); (case side4 => exact HC158_0.out); rintro e w' ⟨rfl, ⟨nd, rfl⟩⟩; (try first | exact ⟨rfl, _, World.drewN_drewN _ _ _⟩ | exact ⟨rfl, _, Eq.trans (World.drewN_drewN _ _ _) (congrArg (World.drewN _) (Nat.add_assoc _ _ _))⟩))))
    go_ret
    exact ⟨by first | rfl | (simp; done) | (simp [*]; done), by repeat (first | exact Drawn0.refl _ | apply Drawn0.step)⟩
   subst c8
   have H1 : (laws_eqInt64SS.l0 k1 l0 l1 (wrap64 (x5_1 + 1))) = some r := by rw [if_pos rfl] at H; exact H
   clear H
   have H := H1
   clear H1
   have H' := AZ.mk H
   clear H
   have p157 : 0 ≤ (x5_1 : Int) := oT (by first | (with_reducible assumption) | assumption)
   have q157 : x5_1 < (l0.length : Int) := oT (by first | (with_reducible assumption) | assumption)
   obtain ⟨ad157, A157_0, c157_0, e157, hx157_0, hl157_0, hi157_0⟩ := at_L4 HR0.out x5_1 p157 q157
   cases e157
   have HR157_0 := AZ.mk hi157_0
   have HC157_0 := AZ.mk hl157_0
   clear hi157_0 hl157_0
   replace p157 := eq_true p157
   replace q157 := eq_true q157
   have p158 : 0 ≤ (x5_1 : Int) := oT (by first | (with_reducible assumption) | assumption)
   have q158 : x5_1 < (l1.length : Int) := oT (by first | (with_reducible assumption) | assumption)
   obtain ⟨ad158, A158_0, c158_0, e158, hx158_0, hl158_0, hi158_0⟩ := at_L4 HR1.out x5_1 p158 q158
   cases e158
   have HR158_0 := AZ.mk hi158_0
   have HC158_0 := AZ.mk hl158_0
   clear hi158_0 hl158_0
   replace p158 := eq_true p158
   replace q158 := eq_true q158
   go_wp2_with (first | (go_at_call 85; (with_reducible refine (laws_eqInt64S.calls k1 _ _ (rd_L4 l0 x5_1) _ _ (rd_L4 l1 x5_1) true _ ?side1 ?side2 ?side3 ?side4 A7.out).mono ?_); (case side1 => repeat (first | exact HR157_0.out | (with_reducible refine Kd.C_alloc ?_ _) | (with_reducible refine Kd.C_drewN ?_ _) | (with_reducible refine Kd.C_drew ?_))); (case side2 => exact HC157_0.out); (case side3 => repeat (first | exact HR158_0.out | (with_reducible refine Kd.C_alloc ?_ _) | (with_reducible refine Kd.C_drewN ?_ _) | (with_reducible refine Kd.C_drew ?_))); (case side4 => exact HC158_0.out); rintro e w' ⟨rfl, ⟨nd, rfl⟩⟩; (try first | exact ⟨rfl, _, World.drewN_drewN _ _ _⟩ | exact ⟨rfl, _, Eq.trans (World.drewN_drewN _ _ _) (congrArg (World.drewN _) (Nat.add_assoc _ _ _))⟩)))
   repeat (go_quiet (first | (go_at_call 85; (with_reducible refine (laws_eqInt64S.calls k1 _ _ (rd_L4 l0 x5_1) _ _ (rd_L4 l1 x5_1) true _ ?side1 ?side2 ?side3 ?side4 A7.out).mono ?_); (case side1 => repeat (first | exact HR157_0.out | (with_reducible refine Kd.C_alloc ?_ _) | (with_reducible refine Kd.C_drewN ?_ _) | (with_reducible refine Kd.C_drew ?_))); (case side2 => exact HC157_0.out); (case side3 => repeat (first | exact HR158_0.out | (with_reducible refine Kd.C_alloc ?_ _) | (with_reducible refine Kd.C_drewN ?_ _) | (with_reducible refine Kd.C_drew ?_))); (case side4 => exact HC158_0.out); rintro e w' ⟨rfl, ⟨nd, rfl⟩⟩; (try first | exact ⟨rfl, _, World.drewN_drewN _ _ _⟩ | exact ⟨rfl, _, Eq.trans (World.drewN_drewN _ _ _) (congrArg (World.drewN _) (Nat.add_assoc _ _ _))⟩))); try go_wp2_with (first | (go_at_call 85; (with_reducible refine (laws_eqInt64S.calls k1 _ _ (rd_L4 l0 x5_1) _ _ (rd_L4 l1 x5_1) true _ ?side1 ?side2 ?side3 ?side4 A7.out).mono ?_); (case side1 => repeat (first | exact HR157_0.out | (with_reducible refine Kd.C_alloc ?_ _) | (with_reducible refine Kd.C_drewN ?_ _) | (with_reducible refine Kd.C_drew ?_))); (case side2 => exact HC157_0.out); (case side3 => repeat (first | exact HR158_0.out | (with_reducible refine Kd.C_alloc ?_ _) | (with_reducible refine Kd.C_drewN ?_ _) | (with_reducible refine Kd.C_drew ?_))); (case side4 => exact HC158_0.out); rintro e w' ⟨rfl, ⟨nd, rfl⟩⟩; (try first | exact ⟨rfl, _, World.drewN_drewN _ _ _⟩ | exact ⟨rfl, _, Eq.trans (World.drewN_drewN _ _ _) (congrArg (World.drewN _) (Nat.add_assoc _ _ _))⟩))))
   go_roundg k1
   case measure => have := HK1.out; omega
   case rel => exact ⟨(wrap64 (x5_1 + 1)), (by first | rfl | (simp; done) | (simp [*]; done)), H', ⟨by have := HK1.out; omega⟩, by repeat (first | exact Drawn0.refl _ | apply Drawn0.step)⟩
end Go.Proofs.Ytepkfigcnnfoaaa.P
