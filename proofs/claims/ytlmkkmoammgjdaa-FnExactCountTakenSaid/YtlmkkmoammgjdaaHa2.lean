/- Texts that this law leans on, several in one; written by programs of these sessions (print, wip/deep, gather.py). -/
import Derived.Test.YtlmkkmoammgjdaaHa1
import Derived.Lib.SliceRun
namespace Go.Proofs.Ytlmkkmoammgjdaa.P
open Go.RowKit Go.Proofs.YtlmkkmoammgjdaaW.PrintWords Go.Proofs.YtlmkkmoammgjdaaW.PrintLast Go.Proofs.YtlmkkmoammgjdaaW.PrintMore
attribute [local go_sem] max2_int min2_int max_two min_two max_three min_three max_four min_four
set_option linter.unusedVariables false
set_option linter.unusedSimpArgs false
def laws_toPushS.l0 : Nat → List (S112) → List (S92) → Int → Option ((List (S92)))
 | 0, _, _, _ => none
 | k + 1, x0, x3, x4 => if x4 < (x0.length : Int) then (if 0 ≤ x4 then ((laws_toPush.f ((rd_T112 x0 x4).f0) ((rd_T112 x0 x4).f1)).bind fun bt222 => (if x4 < (x3.length : Int) then (laws_toPushS.l0 k x0 (x3.set (x4 : Int).toNat (⟨bt222.1, bt222.2⟩ : S92)) (wrap64 (x4 + 1))) else (none))) else (none)) else (some x3)
def laws_toPushS.f (k : Nat) (l0 : List (S112)) : Option ((List (S92))) := if 0 ≤ (l0.length : Int) then (if ((l0.length : Int) : Int).toNat ≤ 17592186044416 then (laws_toPushS.l0 k l0 (List.replicate ((l0.length : Int) : Int).toNat z92) 0) else (none)) else (none)
set_option maxHeartbeats 8000000 in
set_option maxRecDepth 100000 in
theorem laws_toPushS.calls (k : Nat) (A0 : Option Addr) (c0 : Nat) (l0 : List (S112)) (r : List (S92)) (w : World) (hr0 : Kd.C k112 w A0 l0.length l0) (hc0 : l0.length ≤ c0) (h : laws_toPushS.f k l0 = some r) :
  Calls Try.prog 46 #[.slice A0 l0.length c0] w fun e w' => ∃ v0_ : Value, e = .returned (v0_) ∧ Kd.R k92 92 w' w.heap.size (fun _ => True) v0_ r ∧ Below w.heap.size w w' := by
 have hu112 := Try.underlying112
 have hu92 := Try.underlying92
 have HR0 := AZ.mk hr0
 have HC0 := AZ.mk hc0
 clear hr0 hc0
 have HB := AZ.mk (Below.refl w.heap.size w)
 have H : (if 0 ≤ (l0.length : Int) then (if ((l0.length : Int) : Int).toNat ≤ 17592186044416 then (laws_toPushS.l0 k l0 (List.replicate ((l0.length : Int) : Int).toNat z92) 0) else (none)) else (none)) = some r := h
 clear h
 by_cases c2 : 0 ≤ (l0.length : Int)
 rotate_left
 ·rw [if_neg c2] at H
  exact absurd H (by simp)
 rw [if_pos c2] at H
 have c2b0 := eq_true c2
 have c2b1 : decide (0 ≤ (l0.length : Int)) = true := decide_eq_true c2
 clear c2
 by_cases c3 : ((l0.length : Int) : Int).toNat ≤ 17592186044416
 rotate_left
 ·rw [if_neg c3] at H
  exact absurd H (by simp)
 rw [if_pos c3] at H
 have c3b0 := eq_true c3
 have c3b1 : decide (((l0.length : Int) : Int).toNat ≤ 17592186044416) = true := decide_eq_true c3
 clear c3
 obtain ⟨y218, hy218⟩ : ∃ y_ : List (S92), y_ = (List.replicate ((l0.length : Int) : Int).toNat z92) := ⟨_, rfl⟩
 replace H : (laws_toPushS.l0 k l0 y218 0) = some r := by first | (rw [hy218]; with_reducible exact H) | (have H2_ := (Option.bind_some _ _).symm.trans H; rw [hy218]; with_reducible exact H2_) | (have H2_ := (Option.bind_some _ _).symm.trans H; with_reducible exact H2_) | with_reducible exact H | (rw [hy218]; exact H) | exact H
 have Ny218 := AZ.mk hy218
 clear hy218
 have H' := AZ.mk H
 clear H
 go_enter Try.func46, Try.ntmps46
 go_wp2_with (first | ((with_reducible refine gate_dst (N := 7) rfl ?_); refine Kd.R_make k92 _ 92 rfl (N := 7) rfl 89 _ _ rfl (l0.length : Int) rfl rfl Try.underlying89 (.agg #[(.int .i64 0), (.int .i64 0)]) 16 info92 rfl (by decide) (by omega) z92 (ok := fun _ => True) (okp := fun _ => True) (k92_mkM _ _ _ z92 ) (fun _ hk => hk) trivial (oT (by first | (with_reducible assumption) | assumption)) (Nat.le_trans (Nat.mul_le_mul_right _ (oT (by first | (with_reducible assumption) | assumption) : (l0.length : Int).toNat ≤ 17592186044416)) (by omega)) (Below.refl _ _) (Nat.le_refl _) ?_; intro v219 w4 ho5 hb hg_ hnew_; clear hg_ hnew_; (first | rw [← Ny218.out] at ho5 | (simp only [Int.reduceToNat] at ho5; rw [← Ny218.out] at ho5)); have n0_ := AZ.mk (Kd.R_lower ho5 (pZ (by repeat (first | (with_reducible first | exact HB.out | apply pA | apply pN | apply pD) | exact HB.out)))); have n1_ := AZ.mk (pT (by repeat (first | (with_reducible first | exact HB.out | apply pA | apply pN | apply pD) | exact HB.out)) hb); clear HB; have HO220 := n0_; have HB := n1_; clear n0_ n1_; clear hb ho5))
 go_loopg [4] k (fun kq v4 w' => ∃ (x3_1 : List (S92)) (x4_1 : Int), v4 = .int .i64 x4_1 ∧ AZ (laws_toPushS.l0 kq l0 x3_1 x4_1 = some r) ∧ AZ (kq ≤ k) ∧ AZ (Kd.R k92 92 w' w.heap.size (fun _ => True) v219 x3_1) ∧ AZ (Below w.heap.size w w'))
 case atStart => exact ⟨(y218), (0), (by first | rfl | (simp; done) | (simp [*]; done)), H', ⟨Nat.le_refl _⟩, ⟨by (with_reducible repeat (first | apply Kd.R_alloc | apply Kd.R_drewN | apply Kd.R_drew)); exact HO220.out⟩, ⟨by repeat (first | (with_reducible first | exact HB.out | apply pA | apply pN | apply pD) | exact HB.out)⟩⟩
 case round =>
  clear H'
  try clear c2
  try clear c2b0
  try clear c2b1
  try clear p2
  try clear c3
  try clear c3b0
  try clear c3b1
  try clear c4
  obtain ⟨x3_1, x4_1, rfl, HA, HK1, HO_3, HB⟩ := hrel
  cases gk with
  | zero => exact absurd HA.out (by simp [laws_toPushS.l0])
  | succ k1 =>
   have H := HA.out
   clear HA
   simp only [laws_toPushS.l0] at H
   by_cases c6 : x4_1 < (l0.length : Int)
   rotate_left
   ·rw [if_neg c6] at H
    have c6b0 : decide (x4_1 < (l0.length : Int)) = false := decide_eq_false c6
    clear c6
    obtain rfl := Option.some.inj H
    go_wp2
    go_ret
    exact ⟨_, by first | rfl | (simp [errW_none, errW_some] <;> rfl) | (simp [*, errW_none, errW_some] <;> rfl), by (with_reducible repeat (first | apply Kd.R_alloc | apply Kd.R_drewN | apply Kd.R_drew)); exact HO_3.out, by repeat (first | (with_reducible first | exact HB.out | apply pA | apply pN | apply pD) | exact HB.out)⟩
   rw [if_pos c6] at H
   have c6b0 : decide (x4_1 < (l0.length : Int)) = true := decide_eq_true c6
   clear c6
   by_cases c7 : 0 ≤ x4_1
   rotate_left
   ·rw [if_neg c7] at H
    exact absurd H (by simp)
   rw [if_pos c7] at H
   have c7b0 : decide (0 ≤ x4_1) = true := decide_eq_true c7
   clear c7
   replace H := Option.bind_eq_some_iff.mp H
   obtain ⟨⟨t222, t223⟩, A80, H⟩ := H
   replace H : (if x4_1 < (x3_1.length : Int) then (laws_toPushS.l0 k1 l0 (x3_1.set (x4_1 : Int).toNat (⟨t222, t223⟩ : S92)) (wrap64 (x4_1 + 1))) else (none)) = some r := H
   have A8 := AZ.mk A80
   clear A80
   by_cases c9 : x4_1 < (x3_1.length : Int)
   rotate_left
   ·rw [if_neg c9] at H
    exact absurd H (by simp)
   rw [if_pos c9] at H
   have c9b0 : decide (x4_1 < (x3_1.length : Int)) = true := decide_eq_true c9
   clear c9
   obtain ⟨y224, hy224⟩ : ∃ y_ : List (S92), y_ = (x3_1.set (x4_1 : Int).toNat (⟨t222, t223⟩ : S92)) := ⟨_, rfl⟩
   replace H : (laws_toPushS.l0 k1 l0 y224 (wrap64 (x4_1 + 1))) = some r := by first | (rw [hy224]; with_reducible exact H) | (have H2_ := (Option.bind_some _ _).symm.trans H; rw [hy224]; with_reducible exact H2_) | (have H2_ := (Option.bind_some _ _).symm.trans H; with_reducible exact H2_) | with_reducible exact H | (rw [hy224]; exact H) | exact H
   have Ny224 := AZ.mk hy224
   clear hy224
   have H' := AZ.mk H
   clear H
   have p221 : 0 ≤ (x4_1 : Int) := oT (by first | (with_reducible assumption) | assumption)
   have q221 : x4_1 < (l0.length : Int) := oT (by first | (with_reducible assumption) | assumption)
   obtain ⟨ad221, e221, hx221_0, hx221_1⟩ := at_T112 HR0.out x4_1 p221 q221
   cases e221
   replace hx221_0 := (HB.out.cell (World.block_lt_of_cell? w _ hx221_0)).trans hx221_0
   replace hx221_1 := (HB.out.cell (World.block_lt_of_cell? w _ hx221_1)).trans hx221_1
   replace p221 := eq_true p221
   replace q221 := eq_true q221
   go_wp2_with (first | ((with_reducible refine gate_callee (f := 69) rfl ?_); refine goesL_ (some 20) rfl rfl Try.func69 (by kernel_rfl) rfl #[.agg #[.int .i64 ((rd_T112 l0 x4_1).f0), .int .i64 ((rd_T112 l0 x4_1).f1)]] rfl (by (try simp only [List.map_toArray, List.map_cons, List.map_nil]); first | done | rfl | (simp only [List.length_drop, List.length_take]; rfl)) ?_; (with_reducible refine (laws_toPush.calls ((rd_T112 l0 x4_1).f0) ((rd_T112 l0 x4_1).f1) t222 t223 _ A8.out).mono ?_); rintro e w11 ⟨rfl, hb⟩; refine ⟨_, rfl, ?_⟩; have n0_ := AZ.mk (Kd.R_below (by (with_reducible repeat (first | apply Kd.R_alloc | apply Kd.R_drewN | apply Kd.R_drew)); exact HO_3.out) hb); have n1_ := AZ.mk (pT (by repeat (first | (with_reducible first | exact HB.out | apply pA | apply pN | apply pD) | exact HB.out)) hb); clear HO_3; clear HB; have HO_3 := n0_; have HB := n1_; clear n0_ n1_; (try clear hb); (try clear hb2); (try clear hk); (try clear hi); have p10 : 0 ≤ (x4_1 : Int) := oT (by first | (with_reducible assumption) | assumption); have q10 : (x4_1 : Int) < ((x3_1.length : Int) : Int) := oT (by first | (with_reducible assumption) | assumption); obtain ⟨go10, co10, eo10, gb10, gl10, cl10, HG10⟩ := Kd.R_form HO_3.out (by omega); (first | cases eo10 | (injection eo10 with ea_ en_ ec_; (first | subst ea_ | (injection ea_ with ea_; subst ea_)); subst ec_; clear en_)); have GB10 := AZ.mk gb10; have GG10 := AZ.mk HG10; clear gb10 gl10 HG10; obtain ⟨ce10, hcl10, hM10, hcc10, hfr10⟩ := Kd.R_elem HO_3.out z92 (x4_1 : Int) p10 q10; obtain rfl := k92_openM hM10; have hx10_0 : w11.cell? ⟨go10, (x4_1 : Int).toNat * 2, none⟩ = some (.int .i64 ((rd_T92 x3_1 x4_1).f0)) := hcc10 0 _ rfl; have hx10_1 : w11.cell? ⟨go10, (x4_1 : Int).toNat * 2 + 1, none⟩ = some (.int .i64 ((rd_T92 x3_1 x4_1).f1)) := hcc10 1 _ rfl; have hf10_0 : w11.frozen? ⟨go10, (x4_1 : Int).toNat * 2, none⟩ = false := hfr10 0; have hf10_1 : w11.frozen? ⟨go10, (x4_1 : Int).toNat * 2 + 1, none⟩ = false := hfr10 1; clear hcl10 hcc10 hfr10; (try clear hM10); replace p10 := eq_true p10; replace q10 := eq_true q10; have HX12 := AZ.mk (show Kd.R k92 92 w11 w.heap.size (fun _ => True) (.slice (some ⟨go10, 0, none⟩) x3_1.length co10) x3_1 from (by (with_reducible repeat (first | apply Kd.R_alloc | apply Kd.R_drewN | apply Kd.R_drew)); exact HO_3.out)); obtain ⟨ce12, hcl12, hM12, hcc12, hfr12⟩ := Kd.R_elem HX12.out z92 (x4_1 : Int) (oT (by first | (with_reducible assumption) | assumption)) (by have h_ : (x4_1 : Int) < ((x3_1.length : Int) : Int) := oT (by first | (with_reducible assumption) | assumption); first | exact h_ | (have e_ := (Kd.R_reads' HO_3.out).1; omega) | simpa using h_); obtain rfl := k92_openM hM12; have HP12 := Kd.R_seg HX12.out (x4_1 : Int) (oT (by first | (with_reducible assumption) | assumption)) (by have h_ : (x4_1 : Int) < ((x3_1.length : Int) : Int) := oT (by first | (with_reducible assumption) | assumption); first | exact h_ | (have e_ := (Kd.R_reads' HO_3.out).1; omega) | simpa using h_) (seg := [.int .i64 t222, .int .i64 t223]) (j := 0) hcl12 hcc12 (show 2 ≤ 2 from by decide) (x' := (⟨t222, t223⟩ : S92)) (k92_mkM _ _ _ (⟨t222, t223⟩ : S92) ) (fun _ hk => hk); have hx12_0 := hcc12 0 _ rfl; (try simp only [show (k92).sz = 2 from rfl, Nat.mul_one, Nat.add_zero] at hx12_0); have hf12_0 := hfr12 0; (try simp only [show (k92).sz = 2 from rfl, Nat.mul_one, Nat.add_zero] at hf12_0); have hx12_1 := hcc12 1 _ rfl; (try simp only [show (k92).sz = 2 from rfl, Nat.mul_one, Nat.add_zero] at hx12_1); have hf12_1 := hfr12 1; (try simp only [show (k92).sz = 2 from rfl, Nat.mul_one, Nat.add_zero] at hf12_1); clear hcl12 hcc12 hfr12; (try clear hM12)) | ((with_reducible refine gate_store (t := 92) (p := 21) rfl ?_); refine store_event (t := 92) (p := 21) (v := ?vo_w13) (w1 := ((w11.setCell ⟨go10, (x4_1 : Int).toNat * 2, none⟩ (.int .i64 t222)).setCell ⟨go10, (x4_1 : Int).toNat * 2 + 1, none⟩ (.int .i64 t223))) ?hg ?ho ?hn ?hr ?_; (case ho => rfl); (case hg => rfl); (case hn => rfl); (case hr => first | (go_simp; done) | (go_simp; rfl)); intro w13 hw; have hg : w11.grownBy w13 (some go10) := (by rw [hw]; exact HP12.2); have hp_ : Kd.R k92 92 w13 w.heap.size (fun _ => True) (.slice (some ⟨go10, 0, none⟩) x3_1.length co10) y224 := (by rw [hw, Ny224.out]; exact HP12.1); clear HP12; have n0_ := AZ.mk (hp_); have n1_ := AZ.mk ((by rw [hw]; exact pS (pS (HB.out) GB10.out) GB10.out : Below w.heap.size w w13)); clear HO_3; clear HB; have HO_3 := n0_; have HB := n1_; clear n0_ n1_; clear hg hw hp_))
   go_roundg k1
   case measure => have := HK1.out; omega
   case rel => exact ⟨(y224), (wrap64 (x4_1 + 1)), (by first | rfl | (simp; done) | (simp [*]; done)), H', ⟨by have := HK1.out; omega⟩, ⟨by (with_reducible repeat (first | apply Kd.R_alloc | apply Kd.R_drewN | apply Kd.R_drew)); exact HO_3.out⟩, ⟨by repeat (first | (with_reducible first | exact HB.out | apply pA | apply pN | apply pD) | exact HB.out)⟩⟩
end Go.Proofs.Ytlmkkmoammgjdaa.P
namespace Go.Proofs.Ytlmkkmoammgjdaa.P
open Go.RowKit Go.Proofs.YtlmkkmoammgjdaaW.PrintWords Go.Proofs.YtlmkkmoammgjdaaW.PrintLast Go.Proofs.YtlmkkmoammgjdaaW.PrintMore
attribute [local go_sem] max2_int min2_int max_two min_two max_three min_three max_four min_four
set_option linter.unusedVariables false
set_option linter.unusedSimpArgs false
def laws_toPushSS.l0 : Nat → List (List (S112)) → List (List (S92)) → Int → Option ((List (List (S92))))
 | 0, _, _, _ => none
 | k + 1, x0, x3, x4 => if x4 < (x0.length : Int) then (if 0 ≤ x4 then ((laws_toPushS.f k (rd_L5 x0 x4)).bind fun t229 => (if x4 < (x3.length : Int) then (laws_toPushSS.l0 k x0 (x3.set (x4 : Int).toNat t229) (wrap64 (x4 + 1))) else (none))) else (none)) else (some x3)
def laws_toPushSS.f (k : Nat) (l0 : List (List (S112))) : Option ((List (List (S92)))) := if 0 ≤ (l0.length : Int) then (if ((l0.length : Int) : Int).toNat ≤ 11728124029610 then (laws_toPushSS.l0 k l0 (List.replicate ((l0.length : Int) : Int).toNat []) 0) else (none)) else (none)
set_option maxHeartbeats 8000000 in
set_option maxRecDepth 100000 in
theorem laws_toPushSS.calls (k : Nat) (A0 : Option Addr) (c0 : Nat) (l0 : List (List (S112))) (r : List (List (S92))) (w : World) (hr0 : Kd.C (Kd.slice 112 k112) w A0 l0.length l0) (hc0 : l0.length ≤ c0) (h : laws_toPushSS.f k l0 = some r) :
  Calls Try.prog 27 #[.slice A0 l0.length c0] w fun e w' => ∃ v0_ : Value, e = .returned (v0_) ∧ Kd.S (Kd.slice 92 k92) 89 w' w.heap.size (fun _ => True) v0_ r ∧ Below w.heap.size w w' := by
 have HR0 := AZ.mk hr0
 have HC0 := AZ.mk hc0
 clear hr0 hc0
 have HB := AZ.mk (Below.refl w.heap.size w)
 have H : (if 0 ≤ (l0.length : Int) then (if ((l0.length : Int) : Int).toNat ≤ 11728124029610 then (laws_toPushSS.l0 k l0 (List.replicate ((l0.length : Int) : Int).toNat []) 0) else (none)) else (none)) = some r := h
 clear h
 by_cases c2 : 0 ≤ (l0.length : Int)
 rotate_left
 ·rw [if_neg c2] at H
  exact absurd H (by simp)
 rw [if_pos c2] at H
 have c2b0 := eq_true c2
 have c2b1 : decide (0 ≤ (l0.length : Int)) = true := decide_eq_true c2
 clear c2
 by_cases c3 : ((l0.length : Int) : Int).toNat ≤ 11728124029610
 rotate_left
 ·rw [if_neg c3] at H
  exact absurd H (by simp)
 rw [if_pos c3] at H
 have c3b0 := eq_true c3
 have c3b1 : decide (((l0.length : Int) : Int).toNat ≤ 11728124029610) = true := decide_eq_true c3
 clear c3
 obtain ⟨y225, hy225⟩ : ∃ y_ : List (List (S92)), y_ = (List.replicate ((l0.length : Int) : Int).toNat []) := ⟨_, rfl⟩
 replace H : (laws_toPushSS.l0 k l0 y225 0) = some r := by first | (rw [hy225]; with_reducible exact H) | (have H2_ := (Option.bind_some _ _).symm.trans H; rw [hy225]; with_reducible exact H2_) | (have H2_ := (Option.bind_some _ _).symm.trans H; with_reducible exact H2_) | with_reducible exact H | (rw [hy225]; exact H) | exact H
 have Ny225 := AZ.mk hy225
 clear hy225
 have H' := AZ.mk H
 clear H
 go_enter Try.func27, Try.ntmps27
 go_wp2_with (first | ((with_reducible refine gate_dst (N := 7) rfl ?_); refine Kd.S_make (Kd.slice 92 k92) _ 89 rfl (N := 7) rfl 34 _ _ rfl (l0.length : Int) rfl rfl Try.underlying34 (.slice none 0 0) 24 info89 rfl (by decide) (by omega) [] (ok := fun _ => True) (okp := fun _ => True) ⟨_, rfl, Kd.R_nil _ _ _ _ _⟩ (fun _ hk => hk) trivial (oT (by first | (with_reducible assumption) | assumption)) (Nat.le_trans (Nat.mul_le_mul_right _ (oT (by first | (with_reducible assumption) | assumption) : (l0.length : Int).toNat ≤ 11728124029610)) (by omega)) (Below.refl _ _) (Nat.le_refl _) ?_; intro v226 w4 ho5 hb hg_ hnew_; clear hg_ hnew_; (first | rw [← Ny225.out] at ho5 | (simp only [Int.reduceToNat] at ho5; rw [← Ny225.out] at ho5)); have n0_ := AZ.mk (Kd.S_lower ho5 (pZ (by repeat (first | (with_reducible first | exact HB.out | apply pA | apply pN | apply pD) | exact HB.out)))); have n1_ := AZ.mk (pT (by repeat (first | (with_reducible first | exact HB.out | apply pA | apply pN | apply pD) | exact HB.out)) hb); clear HB; have HO227 := n0_; have HB := n1_; clear n0_ n1_; clear hb ho5))
 go_loopg [4] k (fun kq v4 w' => ∃ (x3_1 : List (List (S92))) (x4_1 : Int), v4 = .int .i64 x4_1 ∧ AZ (laws_toPushSS.l0 kq l0 x3_1 x4_1 = some r) ∧ AZ (kq ≤ k) ∧ AZ (Kd.S (Kd.slice 92 k92) 89 w' w.heap.size (fun _ => True) v226 x3_1) ∧ AZ (Below w.heap.size w w'))
 case atStart => exact ⟨(y225), (0), (by first | rfl | (simp; done) | (simp [*]; done)), H', ⟨Nat.le_refl _⟩, ⟨by (with_reducible repeat (first | apply Kd.S_alloc | apply Kd.S_drewN | apply Kd.S_drew)); exact HO227.out⟩, ⟨by repeat (first | (with_reducible first | exact HB.out | apply pA | apply pN | apply pD) | exact HB.out)⟩⟩
 case round =>
  clear H'
  try clear c2
  try clear c2b0
  try clear c2b1
  try clear p2
  try clear c3
  try clear c3b0
  try clear c3b1
  obtain ⟨x3_1, x4_1, rfl, HA, HK1, HO_3, HB⟩ := hrel
  cases gk with
  | zero => exact absurd HA.out (by simp [laws_toPushSS.l0])
  | succ k1 =>
   have H := HA.out
   clear HA
   simp only [laws_toPushSS.l0] at H
   by_cases c6 : x4_1 < (l0.length : Int)
   rotate_left
   ·rw [if_neg c6] at H
    have c6b0 : decide (x4_1 < (l0.length : Int)) = false := decide_eq_false c6
    clear c6
    obtain rfl := Option.some.inj H
    go_wp2
    go_ret
    exact ⟨_, by first | rfl | (simp [errW_none, errW_some] <;> rfl) | (simp [*, errW_none, errW_some] <;> rfl), by (with_reducible repeat (first | apply Kd.S_alloc | apply Kd.S_drewN | apply Kd.S_drew)); exact HO_3.out, by repeat (first | (with_reducible first | exact HB.out | apply pA | apply pN | apply pD) | exact HB.out)⟩
   rw [if_pos c6] at H
   have c6b0 : decide (x4_1 < (l0.length : Int)) = true := decide_eq_true c6
   clear c6
   by_cases c7 : 0 ≤ x4_1
   rotate_left
   ·rw [if_neg c7] at H
    exact absurd H (by simp)
   rw [if_pos c7] at H
   have c7b0 : decide (0 ≤ x4_1) = true := decide_eq_true c7
   clear c7
   replace H := Option.bind_eq_some_iff.mp H
   obtain ⟨t229, A80, H⟩ := H
   replace H : (if x4_1 < (x3_1.length : Int) then (laws_toPushSS.l0 k1 l0 (x3_1.set (x4_1 : Int).toNat t229) (wrap64 (x4_1 + 1))) else (none)) = some r := H
   have A8 := AZ.mk A80
   clear A80
   by_cases c9 : x4_1 < (x3_1.length : Int)
   rotate_left
   ·rw [if_neg c9] at H
    exact absurd H (by simp)
   rw [if_pos c9] at H
   have c9b0 : decide (x4_1 < (x3_1.length : Int)) = true := decide_eq_true c9
   clear c9
   obtain ⟨y232, hy232⟩ : ∃ y_ : List (List (S92)), y_ = (x3_1.set (x4_1 : Int).toNat t229) := ⟨_, rfl⟩
   replace H : (laws_toPushSS.l0 k1 l0 y232 (wrap64 (x4_1 + 1))) = some r := by first | (rw [hy232]; with_reducible exact H) | (have H2_ := (Option.bind_some _ _).symm.trans H; rw [hy232]; with_reducible exact H2_) | (have H2_ := (Option.bind_some _ _).symm.trans H; with_reducible exact H2_) | with_reducible exact H | (rw [hy232]; exact H) | exact H
   have Ny232 := AZ.mk hy232
   clear hy232
   have H' := AZ.mk H
   clear H
   have p228 : 0 ≤ (x4_1 : Int) := oT (by first | (with_reducible assumption) | assumption)
   have q228 : x4_1 < (l0.length : Int) := oT (by first | (with_reducible assumption) | assumption)
   obtain ⟨ad228, A228_0, c228_0, e228, hx228_0, hl228_0, hi228_0⟩ := at_L5 HR0.out x4_1 p228 q228
   cases e228
   replace hx228_0 := (HB.out.cell (World.block_lt_of_cell? w _ hx228_0)).trans hx228_0
   have HR228_0 := AZ.mk hi228_0
   have HC228_0 := AZ.mk hl228_0
   clear hi228_0 hl228_0
   replace p228 := eq_true p228
   replace q228 := eq_true q228
   go_wp2_with (first | ((with_reducible refine gate_callee (f := 46) rfl ?_); refine goesL_ (some 20) rfl rfl Try.func46 (by kernel_rfl) rfl #[.slice A228_0 (rd_L5 l0 x4_1).length c228_0] rfl (by (try simp only [List.map_toArray, List.map_cons, List.map_nil]); first | done | rfl | (simp only [List.length_drop, List.length_take]; rfl)) ?_; (with_reducible refine (laws_toPushS.calls k1 _ _ (rd_L5 l0 x4_1) t229 _ ?side1 ?side2 A8.out).mono ?_); (case side1 => repeat (first | exact (Kd.C_below HR228_0.out HB.out) | (with_reducible refine Kd.C_alloc ?_ _) | (with_reducible refine Kd.C_drewN ?_ _) | (with_reducible refine Kd.C_drew ?_))); (case side2 => exact HC228_0.out); rintro e w11 ⟨v230, rfl, ho0, hb⟩; refine ⟨_, rfl, ?_⟩; have n0_ := AZ.mk (Kd.S_elder' (by (with_reducible repeat (first | apply Kd.S_alloc | apply Kd.S_drewN | apply Kd.S_drew)); exact HO_3.out) (Kd.R_base ho0) hb); have n1_ := AZ.mk (Kd.R_lower ho0 (pZ (by repeat (first | (with_reducible first | exact HB.out | apply pA | apply pN | apply pD) | exact HB.out)))); have n2_ := AZ.mk (pT (by repeat (first | (with_reducible first | exact HB.out | apply pA | apply pN | apply pD) | exact HB.out)) hb); clear HO_3; clear HB; have HO_3 := n0_; have HO231 := n1_; have HB := n2_; clear n0_ n1_ n2_; (try clear hb); (try clear hb2); (try clear hk); (try clear hi); (try clear ho0); have p10 : 0 ≤ (x4_1 : Int) := oT (by first | (with_reducible assumption) | assumption); have q10 : (x4_1 : Int) < ((x3_1.length : Int) : Int) := oT (by first | (with_reducible assumption) | assumption); obtain ⟨go10, co10, eo10, gb10, gl10, cl10, HG10⟩ := Kd.S_form HO_3.out (by omega); (first | cases eo10 | (injection eo10 with ea_ en_ ec_; (first | subst ea_ | (injection ea_ with ea_; subst ea_)); subst ec_; clear en_)); have GB10 := AZ.mk gb10; have GG10 := AZ.mk HG10; clear gb10 gl10 HG10; obtain ⟨_, ce10, hcl10, hM10, hcc10, hfr10, _, _⟩ := Kd.S_elem HO_3.out [] (x4_1 : Int) p10 q10; obtain ⟨ve10_0, rfl, ge10_0⟩ := hM10; have hx10_0 := hcc10 0 _ rfl; have hf10_0 := hfr10 0; (try simp only [show ((Kd.slice 92 k92)).sz = 1 from rfl, Nat.mul_one, Nat.add_zero] at hx10_0); (try simp only [show ((Kd.slice 92 k92)).sz = 1 from rfl, Nat.mul_one, Nat.add_zero] at hf10_0); clear hcl10 hcc10 hfr10; (try clear hM10); replace p10 := eq_true p10; replace q10 := eq_true q10; obtain ⟨Ao14, co14, eo14⟩ := Kd.R_slice HO231.out; subst eo14; have n_ := AZ.mk (Kd.S_mono (ok' := (fun k_ => some k_ ≠ (.slice Ao14 t229.length co14 : Value).ownBlock)) HO_3.out (fun k_ hk => hk.2)); clear HO_3; have HO_3 := n_; clear n_; have HX12 := AZ.mk (show Kd.S (Kd.slice 92 k92) 89 w11 w.heap.size (fun k_ => ((fun _ => True)) k_ ∧ ¬ ((fun k_ => some k_ = (.slice Ao14 t229.length co14 : Value).ownBlock)) k_) (.slice (some ⟨go10, 0, none⟩) x3_1.length co10) x3_1 from (by (with_reducible repeat (first | apply Kd.S_alloc | apply Kd.S_drewN | apply Kd.S_drew)); exact Kd.S_mono HO_3.out (fun k_ hk => ⟨trivial, fun e_ => hk e_⟩))); obtain ⟨oki12, ce12, hcl12, hM12, hcc12, hfr12, hoki12, hH12⟩ := Kd.S_elem HX12.out [] (x4_1 : Int) (oT (by first | (with_reducible assumption) | assumption)) (by have h_ : (x4_1 : Int) < ((x3_1.length : Int) : Int) := oT (by first | (with_reducible assumption) | assumption); first | exact h_ | (have e_ := (Kd.S_reads' HO_3.out).1; omega) | simpa using h_); obtain ⟨ve12_0, rfl, ge12_0⟩ := hM12; have HP12 := Kd.S_seg hH12 (oT (by first | (with_reducible assumption) | assumption)) (by have h_ : (x4_1 : Int) < ((x3_1.length : Int) : Int) := oT (by first | (with_reducible assumption) | assumption); first | exact h_ | (have e_ := (Kd.S_reads' HO_3.out).1; omega) | simpa using h_) (seg := [.slice Ao14 t229.length co14]) (j := 0) (show 1 ≤ 1 from by decide) (x' := t229) (Kd.M_row (Kd.R_mono (Kd.R_tight rfl (Kd.R_mono (ok' := fun k_ => ((fun _ => True)) k_ ∧ k_ ≠ go10) (Kd.R_apart' (HO231.out) (Kd.S_typed HO_3.out) (by decide)) (fun k_ hk => ⟨trivial, fun e_ => (hk.2) (by rw [e_]; rfl)⟩))) (fun _ h_ => Or.inr (h_)))) (fun _ hk => hk) (fun k_ hk_ => ((Kd.R_mono (ok' := fun k_ => ((fun _ => True)) k_ ∧ k_ ≠ go10) (Kd.R_apart' (HO231.out) (Kd.S_typed HO_3.out) (by decide)) (fun k_ hk => ⟨trivial, fun e_ => (hk.2) (by rw [e_]; rfl)⟩))).1 k_ hk_.symm); have hx12_0 := hcc12 0 _ rfl; (try simp only [show ((Kd.slice 92 k92)).sz = 1 from rfl, Nat.mul_one, Nat.add_zero] at hx12_0); have hf12_0 := hfr12 0; (try simp only [show ((Kd.slice 92 k92)).sz = 1 from rfl, Nat.mul_one, Nat.add_zero] at hf12_0); clear hcl12 hcc12 hfr12; (try clear hM12); clear hoki12 hH12; (try simp only [show ((Kd.slice 92 k92)).sz = 1 from rfl, Nat.mul_one, Nat.add_zero] at HP12)) | ((with_reducible refine gate_store (t := 89) (p := 21) rfl ?_); refine store_event (t := 89) (p := 21) (v := ?vo_w13) (w1 := (w11.setCell ⟨go10, (x4_1 : Int).toNat, none⟩ (.slice Ao14 t229.length co14))) ?hg ?ho ?hn ?hr ?_; (case ho => rfl); (case hg => rfl); (case hn => rfl); (case hr => first | (go_simp; done) | (go_simp; rfl)); intro w13 hw; have hg : w11.grownBy w13 (some go10) := (by rw [hw]; exact HP12.2); have hp_ : Kd.S (Kd.slice 92 k92) 89 w13 w.heap.size (fun _ => True) (.slice (some ⟨go10, 0, none⟩) x3_1.length co10) y232 := (by rw [hw, Ny232.out]; exact HP12.1); clear HP12; have n0_ := AZ.mk (hp_); have n1_ := AZ.mk ((by rw [hw]; exact pS (HB.out) GB10.out : Below w.heap.size w w13)); clear HO_3; clear HB; clear HO231; have HO_3 := n0_; have HB := n1_; clear n0_ n1_; clear hg hw hp_))
   go_roundg k1
   case measure => have := HK1.out; omega
   case rel => exact ⟨(y232), (wrap64 (x4_1 + 1)), (by first | rfl | (simp; done) | (simp [*]; done)), H', ⟨by have := HK1.out; omega⟩, ⟨by (with_reducible repeat (first | apply Kd.S_alloc | apply Kd.S_drewN | apply Kd.S_drew)); exact HO_3.out⟩, ⟨by repeat (first | (with_reducible first | exact HB.out | apply pA | apply pN | apply pD) | exact HB.out)⟩⟩
end Go.Proofs.Ytlmkkmoammgjdaa.P
namespace Go.Proofs.Ytlmkkmoammgjdaa.P
open Go.RowKit Go.Proofs.YtlmkkmoammgjdaaW.PrintWords Go.Proofs.YtlmkkmoammgjdaaW.PrintLast Go.Proofs.YtlmkkmoammgjdaaW.PrintMore
attribute [local go_sem] max2_int min2_int max_two min_two max_three min_three max_four min_four
set_option linter.unusedVariables false
set_option linter.unusedSimpArgs false
def laws_toInt64S.l0 : Nat → List Int → List Int → Int → Option (List Int)
 | 0, _, _, _ => none
 | k + 1, x0, x3, x4 => if x4 < (x0.length : Int) then (if 0 ≤ x4 then (if x4 < (x3.length : Int) then (laws_toInt64S.l0 k x0 (x3.set (x4 : Int).toNat (rd x0 x4)) (wrap64 (x4 + 1))) else (none)) else (none)) else (some x3)
def laws_toInt64S.f (k : Nat) (l0 : List Int) : Option (List Int) := if 0 ≤ (l0.length : Int) then (if ((l0.length : Int) : Int).toNat ≤ 35184372088832 then (laws_toInt64S.l0 k l0 (List.replicate ((l0.length : Int) : Int).toNat 0) 0) else (none)) else (none)
set_option maxHeartbeats 8000000 in
set_option maxRecDepth 100000 in
theorem laws_toInt64S.calls (k : Nat) (A0 : Option Addr) (c0 : Nat) (l0 : List Int) (r : List Int) (w : World) (hr0 : Kd.C (Kd.int .i64) w A0 l0.length l0) (hc0 : l0.length ≤ c0) (h : laws_toInt64S.f k l0 = some r) :
  Calls Try.prog 47 #[.slice A0 l0.length c0] w fun e w' => ∃ v0_ : Value, e = .returned (v0_) ∧ Kd.R (Kd.int .i64) 2 w' w.heap.size (fun _ => True) v0_ r ∧ Below w.heap.size w w' := by
 have HR0 := AZ.mk hr0
 have HC0 := AZ.mk hc0
 clear hr0 hc0
 have HB := AZ.mk (Below.refl w.heap.size w)
 have H : (if 0 ≤ (l0.length : Int) then (if ((l0.length : Int) : Int).toNat ≤ 35184372088832 then (laws_toInt64S.l0 k l0 (List.replicate ((l0.length : Int) : Int).toNat 0) 0) else (none)) else (none)) = some r := h
 clear h
 by_cases c2 : 0 ≤ (l0.length : Int)
 rotate_left
 ·rw [if_neg c2] at H
  exact absurd H (by simp)
 rw [if_pos c2] at H
 have c2b0 := eq_true c2
 have c2b1 : decide (0 ≤ (l0.length : Int)) = true := decide_eq_true c2
 clear c2
 by_cases c3 : ((l0.length : Int) : Int).toNat ≤ 35184372088832
 rotate_left
 ·rw [if_neg c3] at H
  exact absurd H (by simp)
 rw [if_pos c3] at H
 have c3b0 := eq_true c3
 have c3b1 : decide (((l0.length : Int) : Int).toNat ≤ 35184372088832) = true := decide_eq_true c3
 clear c3
 obtain ⟨y233, hy233⟩ : ∃ y_ : List Int, y_ = (List.replicate ((l0.length : Int) : Int).toNat 0) := ⟨_, rfl⟩
 replace H : (laws_toInt64S.l0 k l0 y233 0) = some r := by first | (rw [hy233]; with_reducible exact H) | (have H2_ := (Option.bind_some _ _).symm.trans H; rw [hy233]; with_reducible exact H2_) | (have H2_ := (Option.bind_some _ _).symm.trans H; with_reducible exact H2_) | with_reducible exact H | (rw [hy233]; exact H) | exact H
 have Ny233 := AZ.mk hy233
 clear hy233
 have H' := AZ.mk H
 clear H
 go_enter Try.func47, Try.ntmps47
 go_wp2_with (first | ((with_reducible refine gate_dst (N := 7) rfl ?_); refine Kd.R_make (Kd.int .i64) _ 2 rfl (N := 7) rfl 60 _ _ rfl (l0.length : Int) rfl rfl Try.underlying60 (.int .i64 0) 8 info2 rfl (by decide) (by omega) 0 (ok := fun _ => True) (okp := fun _ => True) rfl (fun _ hk => hk) trivial (oT (by first | (with_reducible assumption) | assumption)) (Nat.le_trans (Nat.mul_le_mul_right _ (oT (by first | (with_reducible assumption) | assumption) : (l0.length : Int).toNat ≤ 35184372088832)) (by omega)) (Below.refl _ _) (Nat.le_refl _) ?_; intro v234 w4 ho5 hb hg_ hnew_; clear hg_ hnew_; (first | rw [← Ny233.out] at ho5 | (simp only [Int.reduceToNat] at ho5; rw [← Ny233.out] at ho5)); have n0_ := AZ.mk (Kd.R_lower ho5 (pZ (by repeat (first | (with_reducible first | exact HB.out | apply pA | apply pN | apply pD) | exact HB.out)))); have n1_ := AZ.mk (pT (by repeat (first | (with_reducible first | exact HB.out | apply pA | apply pN | apply pD) | exact HB.out)) hb); clear HB; have HO235 := n0_; have HB := n1_; clear n0_ n1_; clear hb ho5))
 go_loopg [4] k (fun kq v4 w' => ∃ (x3_1 : List Int) (x4_1 : Int), v4 = .int .i64 x4_1 ∧ AZ (laws_toInt64S.l0 kq l0 x3_1 x4_1 = some r) ∧ AZ (kq ≤ k) ∧ AZ (Kd.R (Kd.int .i64) 2 w' w.heap.size (fun _ => True) v234 x3_1) ∧ AZ (Below w.heap.size w w'))
 case atStart => exact ⟨(y233), (0), (by first | rfl | (simp; done) | (simp [*]; done)), H', ⟨Nat.le_refl _⟩, ⟨by (with_reducible repeat (first | apply Kd.R_alloc | apply Kd.R_drewN | apply Kd.R_drew)); exact HO235.out⟩, ⟨by repeat (first | (with_reducible first | exact HB.out | apply pA | apply pN | apply pD) | exact HB.out)⟩⟩
 case round =>
  clear H'
  try clear c2
  try clear c2b0
  try clear c2b1
  try clear p2
  try clear c3
  try clear c3b0
  try clear c3b1
  try clear c4
  obtain ⟨x3_1, x4_1, rfl, HA, HK1, HO_3, HB⟩ := hrel
  cases gk with
  | zero => exact absurd HA.out (by simp [laws_toInt64S.l0])
  | succ k1 =>
   have H := HA.out
   clear HA
   simp only [laws_toInt64S.l0] at H
   by_cases c6 : x4_1 < (l0.length : Int)
   rotate_left
   ·rw [if_neg c6] at H
    have c6b0 : decide (x4_1 < (l0.length : Int)) = false := decide_eq_false c6
    clear c6
    obtain rfl := Option.some.inj H
    go_wp2
    go_ret
    exact ⟨_, by first | rfl | (simp [errW_none, errW_some] <;> rfl) | (simp [*, errW_none, errW_some] <;> rfl), by (with_reducible repeat (first | apply Kd.R_alloc | apply Kd.R_drewN | apply Kd.R_drew)); exact HO_3.out, by repeat (first | (with_reducible first | exact HB.out | apply pA | apply pN | apply pD) | exact HB.out)⟩
   rw [if_pos c6] at H
   have c6b0 : decide (x4_1 < (l0.length : Int)) = true := decide_eq_true c6
   clear c6
   by_cases c7 : 0 ≤ x4_1
   rotate_left
   ·rw [if_neg c7] at H
    exact absurd H (by simp)
   rw [if_pos c7] at H
   have c7b0 : decide (0 ≤ x4_1) = true := decide_eq_true c7
   clear c7
   by_cases c8 : x4_1 < (x3_1.length : Int)
   rotate_left
   ·rw [if_neg c8] at H
    exact absurd H (by simp)
   rw [if_pos c8] at H
   have c8b0 : decide (x4_1 < (x3_1.length : Int)) = true := decide_eq_true c8
   clear c8
   obtain ⟨y237, hy237⟩ : ∃ y_ : List Int, y_ = (x3_1.set (x4_1 : Int).toNat (rd l0 x4_1)) := ⟨_, rfl⟩
   replace H : (laws_toInt64S.l0 k1 l0 y237 (wrap64 (x4_1 + 1))) = some r := by first | (rw [hy237]; with_reducible exact H) | (have H2_ := (Option.bind_some _ _).symm.trans H; rw [hy237]; with_reducible exact H2_) | (have H2_ := (Option.bind_some _ _).symm.trans H; with_reducible exact H2_) | with_reducible exact H | (rw [hy237]; exact H) | exact H
   have Ny237 := AZ.mk hy237
   clear hy237
   have H' := AZ.mk H
   clear H
   have p236 : 0 ≤ (x4_1 : Int) := oT (by first | (with_reducible assumption) | assumption)
   have q236 : x4_1 < (l0.length : Int) := oT (by first | (with_reducible assumption) | assumption)
   obtain ⟨ad236, e236, hx236_0⟩ := Kd.at_int HR0.out x4_1 p236 q236
   cases e236
   replace hx236_0 := (HB.out.cell (World.block_lt_of_cell? w _ hx236_0)).trans hx236_0
   replace p236 := eq_true p236
   replace q236 := eq_true q236
   have p9 : 0 ≤ (x4_1 : Int) := oT (by first | (with_reducible assumption) | assumption)
   have q9 : (x4_1 : Int) < ((x3_1.length : Int) : Int) := oT (by first | (with_reducible assumption) | assumption)
   obtain ⟨go9, co9, eo9, gb9, gl9, cl9, HG9⟩ := Kd.R_form HO_3.out (by omega)
   (first | cases eo9 | (injection eo9 with ea_ en_ ec_; (first | subst ea_ | (injection ea_ with ea_; subst ea_)); subst ec_; clear en_))
   have GB9 := AZ.mk gb9
   have GG9 := AZ.mk HG9
   clear gb9 gl9 HG9
   obtain ⟨hx9_0, hf9_0⟩ := Kd.R_celln 0 HO_3.out (x4_1 : Int) p9 q9
   replace p9 := eq_true p9
   replace q9 := eq_true q9
   have HP10 := Kd.R_putg HO_3.out (x4_1 : Int) (rd l0 x4_1)
   go_wp2_with (first | ((with_reducible refine gate_store (t := 2) (p := 20) rfl ?_); refine store_event (t := 2) (p := 20) (v := ?vo_w11) (w1 := (wr.setCell ⟨go9, (x4_1 : Int).toNat, none⟩ (.int .i64 (rd l0 x4_1)))) ?hg ?ho ?hn ?hr ?_; (case ho => rfl); (case hg => rfl); (case hn => rfl); (case hr => first | (go_simp; done) | (go_simp; rfl)); intro w11 hw; have hg : wr.grownBy w11 (some go9) := (by rw [hw]; exact HP10.2); have hp_ : Kd.R (Kd.int .i64) 2 w11 w.heap.size (fun _ => True) (.slice (some ⟨go9, 0, none⟩) x3_1.length co9) y237 := (by rw [hw, Ny237.out]; exact HP10.1); clear HP10; have n0_ := AZ.mk (hp_); have n1_ := AZ.mk ((by rw [hw]; exact pS (HB.out) GB9.out : Below w.heap.size w w11)); clear HO_3; clear HB; have HO_3 := n0_; have HB := n1_; clear n0_ n1_; clear hg hw hp_))
   go_roundg k1
   case measure => have := HK1.out; omega
   case rel => exact ⟨(y237), (wrap64 (x4_1 + 1)), (by first | rfl | (simp; done) | (simp [*]; done)), H', ⟨by have := HK1.out; omega⟩, ⟨by (with_reducible repeat (first | apply Kd.R_alloc | apply Kd.R_drewN | apply Kd.R_drew)); exact HO_3.out⟩, ⟨by repeat (first | (with_reducible first | exact HB.out | apply pA | apply pN | apply pD) | exact HB.out)⟩⟩
end Go.Proofs.Ytlmkkmoammgjdaa.P
namespace Go.Proofs.Ytlmkkmoammgjdaa.P
open Go.RowKit Go.Proofs.YtlmkkmoammgjdaaW.PrintWords Go.Proofs.YtlmkkmoammgjdaaW.PrintLast Go.Proofs.YtlmkkmoammgjdaaW.PrintMore
attribute [local go_sem] max2_int min2_int max_two min_two max_three min_three max_four min_four
set_option linter.unusedVariables false
set_option linter.unusedSimpArgs false
def laws_toInt64SS.l0 : Nat → List (List Int) → List (List Int) → Int → Option ((List (List Int)))
 | 0, _, _, _ => none
 | k + 1, x0, x3, x4 => if x4 < (x0.length : Int) then (if 0 ≤ x4 then ((laws_toInt64S.f k (rd_L6 x0 x4)).bind fun t242 => (if x4 < (x3.length : Int) then (laws_toInt64SS.l0 k x0 (x3.set (x4 : Int).toNat t242) (wrap64 (x4 + 1))) else (none))) else (none)) else (some x3)
def laws_toInt64SS.f (k : Nat) (l0 : List (List Int)) : Option ((List (List Int))) := if 0 ≤ (l0.length : Int) then (if ((l0.length : Int) : Int).toNat ≤ 11728124029610 then (laws_toInt64SS.l0 k l0 (List.replicate ((l0.length : Int) : Int).toNat []) 0) else (none)) else (none)
set_option maxHeartbeats 8000000 in
set_option maxRecDepth 100000 in
theorem laws_toInt64SS.calls (k : Nat) (A0 : Option Addr) (c0 : Nat) (l0 : List (List Int)) (r : List (List Int)) (w : World) (hr0 : Kd.C (Kd.slice 2 (Kd.int .i64)) w A0 l0.length l0) (hc0 : l0.length ≤ c0) (h : laws_toInt64SS.f k l0 = some r) :
  Calls Try.prog 29 #[.slice A0 l0.length c0] w fun e w' => ∃ v0_ : Value, e = .returned (v0_) ∧ Kd.S (Kd.slice 2 (Kd.int .i64)) 60 w' w.heap.size (fun _ => True) v0_ r ∧ Below w.heap.size w w' := by
 have HR0 := AZ.mk hr0
 have HC0 := AZ.mk hc0
 clear hr0 hc0
 have HB := AZ.mk (Below.refl w.heap.size w)
 have H : (if 0 ≤ (l0.length : Int) then (if ((l0.length : Int) : Int).toNat ≤ 11728124029610 then (laws_toInt64SS.l0 k l0 (List.replicate ((l0.length : Int) : Int).toNat []) 0) else (none)) else (none)) = some r := h
 clear h
 by_cases c2 : 0 ≤ (l0.length : Int)
 rotate_left
 ·rw [if_neg c2] at H
  exact absurd H (by simp)
 rw [if_pos c2] at H
 have c2b0 := eq_true c2
 have c2b1 : decide (0 ≤ (l0.length : Int)) = true := decide_eq_true c2
 clear c2
 by_cases c3 : ((l0.length : Int) : Int).toNat ≤ 11728124029610
 rotate_left
 ·rw [if_neg c3] at H
  exact absurd H (by simp)
 rw [if_pos c3] at H
 have c3b0 := eq_true c3
 have c3b1 : decide (((l0.length : Int) : Int).toNat ≤ 11728124029610) = true := decide_eq_true c3
 clear c3
 obtain ⟨y238, hy238⟩ : ∃ y_ : List (List Int), y_ = (List.replicate ((l0.length : Int) : Int).toNat []) := ⟨_, rfl⟩
 replace H : (laws_toInt64SS.l0 k l0 y238 0) = some r := by first | (rw [hy238]; with_reducible exact H) | (have H2_ := (Option.bind_some _ _).symm.trans H; rw [hy238]; with_reducible exact H2_) | (have H2_ := (Option.bind_some _ _).symm.trans H; with_reducible exact H2_) | with_reducible exact H | (rw [hy238]; exact H) | exact H
 have Ny238 := AZ.mk hy238
 clear hy238
 have H' := AZ.mk H
 clear H
 go_enter Try.func29, Try.ntmps29
 go_wp2_with (first | ((with_reducible refine gate_dst (N := 7) rfl ?_); refine Kd.S_make (Kd.slice 2 (Kd.int .i64)) _ 60 rfl (N := 7) rfl 28 _ _ rfl (l0.length : Int) rfl rfl Try.underlying28 (.slice none 0 0) 24 info60 rfl (by decide) (by omega) [] (ok := fun _ => True) (okp := fun _ => True) ⟨_, rfl, Kd.R_nil _ _ _ _ _⟩ (fun _ hk => hk) trivial (oT (by first | (with_reducible assumption) | assumption)) (Nat.le_trans (Nat.mul_le_mul_right _ (oT (by first | (with_reducible assumption) | assumption) : (l0.length : Int).toNat ≤ 11728124029610)) (by omega)) (Below.refl _ _) (Nat.le_refl _) ?_; intro v239 w4 ho5 hb hg_ hnew_; clear hg_ hnew_; (first | rw [← Ny238.out] at ho5 | (simp only [Int.reduceToNat] at ho5; rw [← Ny238.out] at ho5)); have n0_ := AZ.mk (Kd.S_lower ho5 (pZ (by repeat (first | (with_reducible first | exact HB.out | apply pA | apply pN | apply pD) | exact HB.out)))); have n1_ := AZ.mk (pT (by repeat (first | (with_reducible first | exact HB.out | apply pA | apply pN | apply pD) | exact HB.out)) hb); clear HB; have HO240 := n0_; have HB := n1_; clear n0_ n1_; clear hb ho5))
 go_loopg [4] k (fun kq v4 w' => ∃ (x3_1 : List (List Int)) (x4_1 : Int), v4 = .int .i64 x4_1 ∧ AZ (laws_toInt64SS.l0 kq l0 x3_1 x4_1 = some r) ∧ AZ (kq ≤ k) ∧ AZ (Kd.S (Kd.slice 2 (Kd.int .i64)) 60 w' w.heap.size (fun _ => True) v239 x3_1) ∧ AZ (Below w.heap.size w w'))
 case atStart => exact ⟨(y238), (0), (by first | rfl | (simp; done) | (simp [*]; done)), H', ⟨Nat.le_refl _⟩, ⟨by (with_reducible repeat (first | apply Kd.S_alloc | apply Kd.S_drewN | apply Kd.S_drew)); exact HO240.out⟩, ⟨by repeat (first | (with_reducible first | exact HB.out | apply pA | apply pN | apply pD) | exact HB.out)⟩⟩
 case round =>
  clear H'
  try clear c2
  try clear c2b0
  try clear c2b1
  try clear p2
  try clear c3
  try clear c3b0
  try clear c3b1
  obtain ⟨x3_1, x4_1, rfl, HA, HK1, HO_3, HB⟩ := hrel
  cases gk with
  | zero => exact absurd HA.out (by simp [laws_toInt64SS.l0])
  | succ k1 =>
   have H := HA.out
   clear HA
   simp only [laws_toInt64SS.l0] at H
   by_cases c6 : x4_1 < (l0.length : Int)
   rotate_left
   ·rw [if_neg c6] at H
    have c6b0 : decide (x4_1 < (l0.length : Int)) = false := decide_eq_false c6
    clear c6
    obtain rfl := Option.some.inj H
    go_wp2
    go_ret
    exact ⟨_, by first | rfl | (simp [errW_none, errW_some] <;> rfl) | (simp [*, errW_none, errW_some] <;> rfl), by (with_reducible repeat (first | apply Kd.S_alloc | apply Kd.S_drewN | apply Kd.S_drew)); exact HO_3.out, by repeat (first | (with_reducible first | exact HB.out | apply pA | apply pN | apply pD) | exact HB.out)⟩
   rw [if_pos c6] at H
   have c6b0 : decide (x4_1 < (l0.length : Int)) = true := decide_eq_true c6
   clear c6
   by_cases c7 : 0 ≤ x4_1
   rotate_left
   ·rw [if_neg c7] at H
    exact absurd H (by simp)
   rw [if_pos c7] at H
   have c7b0 : decide (0 ≤ x4_1) = true := decide_eq_true c7
   clear c7
   replace H := Option.bind_eq_some_iff.mp H
   obtain ⟨t242, A80, H⟩ := H
   replace H : (if x4_1 < (x3_1.length : Int) then (laws_toInt64SS.l0 k1 l0 (x3_1.set (x4_1 : Int).toNat t242) (wrap64 (x4_1 + 1))) else (none)) = some r := H
   have A8 := AZ.mk A80
   clear A80
   by_cases c9 : x4_1 < (x3_1.length : Int)
   rotate_left
   ·rw [if_neg c9] at H
    exact absurd H (by simp)
   rw [if_pos c9] at H
   have c9b0 : decide (x4_1 < (x3_1.length : Int)) = true := decide_eq_true c9
   clear c9
   obtain ⟨y245, hy245⟩ : ∃ y_ : List (List Int), y_ = (x3_1.set (x4_1 : Int).toNat t242) := ⟨_, rfl⟩
   replace H : (laws_toInt64SS.l0 k1 l0 y245 (wrap64 (x4_1 + 1))) = some r := by first | (rw [hy245]; with_reducible exact H) | (have H2_ := (Option.bind_some _ _).symm.trans H; rw [hy245]; with_reducible exact H2_) | (have H2_ := (Option.bind_some _ _).symm.trans H; with_reducible exact H2_) | with_reducible exact H | (rw [hy245]; exact H) | exact H
   have Ny245 := AZ.mk hy245
   clear hy245
   have H' := AZ.mk H
   clear H
   have p241 : 0 ≤ (x4_1 : Int) := oT (by first | (with_reducible assumption) | assumption)
   have q241 : x4_1 < (l0.length : Int) := oT (by first | (with_reducible assumption) | assumption)
   obtain ⟨ad241, A241_0, c241_0, e241, hx241_0, hl241_0, hi241_0⟩ := at_L6 HR0.out x4_1 p241 q241
   cases e241
   replace hx241_0 := (HB.out.cell (World.block_lt_of_cell? w _ hx241_0)).trans hx241_0
   have HR241_0 := AZ.mk hi241_0
   have HC241_0 := AZ.mk hl241_0
   clear hi241_0 hl241_0
   replace p241 := eq_true p241
   replace q241 := eq_true q241
   go_wp2_with (first | ((with_reducible refine gate_callee (f := 47) rfl ?_); refine goesL_ (some 20) rfl rfl Try.func47 (by kernel_rfl) rfl #[.slice A241_0 (rd_L6 l0 x4_1).length c241_0] rfl (by (try simp only [List.map_toArray, List.map_cons, List.map_nil]); first | done | rfl | (simp only [List.length_drop, List.length_take]; rfl)) ?_; (with_reducible refine (laws_toInt64S.calls k1 _ _ (rd_L6 l0 x4_1) t242 _ ?side1 ?side2 A8.out).mono ?_); (case side1 => repeat (first | exact (Kd.C_below HR241_0.out HB.out) | (with_reducible refine Kd.C_alloc ?_ _) | (with_reducible refine Kd.C_drewN ?_ _) | (with_reducible refine Kd.C_drew ?_))); (case side2 => exact HC241_0.out); rintro e w11 ⟨v243, rfl, ho0, hb⟩; refine ⟨_, rfl, ?_⟩; have n0_ := AZ.mk (Kd.S_elder' (by (with_reducible repeat (first | apply Kd.S_alloc | apply Kd.S_drewN | apply Kd.S_drew)); exact HO_3.out) (Kd.R_base ho0) hb); have n1_ := AZ.mk (Kd.R_lower ho0 (pZ (by repeat (first | (with_reducible first | exact HB.out | apply pA | apply pN | apply pD) | exact HB.out)))); have n2_ := AZ.mk (pT (by repeat (first | (with_reducible first | exact HB.out | apply pA | apply pN | apply pD) | exact HB.out)) hb); clear HO_3; clear HB; have HO_3 := n0_; have HO244 := n1_; have HB := n2_; clear n0_ n1_ n2_; (try clear hb); (try clear hb2); (try clear hk); (try clear hi); (try clear ho0); have p10 : 0 ≤ (x4_1 : Int) := oT (by first | (with_reducible assumption) | assumption); have q10 : (x4_1 : Int) < ((x3_1.length : Int) : Int) := oT (by first | (with_reducible assumption) | assumption); obtain ⟨go10, co10, eo10, gb10, gl10, cl10, HG10⟩ := Kd.S_form HO_3.out (by omega); (first | cases eo10 | (injection eo10 with ea_ en_ ec_; (first | subst ea_ | (injection ea_ with ea_; subst ea_)); subst ec_; clear en_)); have GB10 := AZ.mk gb10; have GG10 := AZ.mk HG10; clear gb10 gl10 HG10; obtain ⟨_, ce10, hcl10, hM10, hcc10, hfr10, _, _⟩ := Kd.S_elem HO_3.out [] (x4_1 : Int) p10 q10; obtain ⟨ve10_0, rfl, ge10_0⟩ := hM10; have hx10_0 := hcc10 0 _ rfl; have hf10_0 := hfr10 0; (try simp only [show ((Kd.slice 2 (Kd.int .i64))).sz = 1 from rfl, Nat.mul_one, Nat.add_zero] at hx10_0); (try simp only [show ((Kd.slice 2 (Kd.int .i64))).sz = 1 from rfl, Nat.mul_one, Nat.add_zero] at hf10_0); clear hcl10 hcc10 hfr10; (try clear hM10); replace p10 := eq_true p10; replace q10 := eq_true q10; obtain ⟨Ao14, co14, eo14⟩ := Kd.R_slice HO244.out; subst eo14; have n_ := AZ.mk (Kd.S_mono (ok' := (fun k_ => some k_ ≠ (.slice Ao14 t242.length co14 : Value).ownBlock)) HO_3.out (fun k_ hk => hk.2)); clear HO_3; have HO_3 := n_; clear n_; have HX12 := AZ.mk (show Kd.S (Kd.slice 2 (Kd.int .i64)) 60 w11 w.heap.size (fun k_ => ((fun _ => True)) k_ ∧ ¬ ((fun k_ => some k_ = (.slice Ao14 t242.length co14 : Value).ownBlock)) k_) (.slice (some ⟨go10, 0, none⟩) x3_1.length co10) x3_1 from (by (with_reducible repeat (first | apply Kd.S_alloc | apply Kd.S_drewN | apply Kd.S_drew)); exact Kd.S_mono HO_3.out (fun k_ hk => ⟨trivial, fun e_ => hk e_⟩))); obtain ⟨oki12, ce12, hcl12, hM12, hcc12, hfr12, hoki12, hH12⟩ := Kd.S_elem HX12.out [] (x4_1 : Int) (oT (by first | (with_reducible assumption) | assumption)) (by have h_ : (x4_1 : Int) < ((x3_1.length : Int) : Int) := oT (by first | (with_reducible assumption) | assumption); first | exact h_ | (have e_ := (Kd.S_reads' HO_3.out).1; omega) | simpa using h_); obtain ⟨ve12_0, rfl, ge12_0⟩ := hM12; have HP12 := Kd.S_seg hH12 (oT (by first | (with_reducible assumption) | assumption)) (by have h_ : (x4_1 : Int) < ((x3_1.length : Int) : Int) := oT (by first | (with_reducible assumption) | assumption); first | exact h_ | (have e_ := (Kd.S_reads' HO_3.out).1; omega) | simpa using h_) (seg := [.slice Ao14 t242.length co14]) (j := 0) (show 1 ≤ 1 from by decide) (x' := t242) (Kd.M_row (Kd.R_mono (Kd.R_tight rfl (Kd.R_mono (ok' := fun k_ => ((fun _ => True)) k_ ∧ k_ ≠ go10) (Kd.R_apart' (HO244.out) (Kd.S_typed HO_3.out) (by decide)) (fun k_ hk => ⟨trivial, fun e_ => (hk.2) (by rw [e_]; rfl)⟩))) (fun _ h_ => Or.inr (h_)))) (fun _ hk => hk) (fun k_ hk_ => ((Kd.R_mono (ok' := fun k_ => ((fun _ => True)) k_ ∧ k_ ≠ go10) (Kd.R_apart' (HO244.out) (Kd.S_typed HO_3.out) (by decide)) (fun k_ hk => ⟨trivial, fun e_ => (hk.2) (by rw [e_]; rfl)⟩))).1 k_ hk_.symm); have hx12_0 := hcc12 0 _ rfl; (try simp only [show ((Kd.slice 2 (Kd.int .i64))).sz = 1 from rfl, Nat.mul_one, Nat.add_zero] at hx12_0); have hf12_0 := hfr12 0; (try simp only [show ((Kd.slice 2 (Kd.int .i64))).sz = 1 from rfl, Nat.mul_one, Nat.add_zero] at hf12_0); clear hcl12 hcc12 hfr12; (try clear hM12); clear hoki12 hH12; (try simp only [show ((Kd.slice 2 (Kd.int .i64))).sz = 1 from rfl, Nat.mul_one, Nat.add_zero] at HP12)) | ((with_reducible refine gate_store (t := 60) (p := 21) rfl ?_); refine store_event (t := 60) (p := 21) (v := ?vo_w13) (w1 := (w11.setCell ⟨go10, (x4_1 : Int).toNat, none⟩ (.slice Ao14 t242.length co14))) ?hg ?ho ?hn ?hr ?_; (case ho => rfl); (case hg => rfl); (case hn => rfl); (case hr => first | (go_simp; done) | (go_simp; rfl)); intro w13 hw; have hg : w11.grownBy w13 (some go10) := (by rw [hw]; exact HP12.2); have hp_ : Kd.S (Kd.slice 2 (Kd.int .i64)) 60 w13 w.heap.size (fun _ => True) (.slice (some ⟨go10, 0, none⟩) x3_1.length co10) y245 := (by rw [hw, Ny245.out]; exact HP12.1); clear HP12; have n0_ := AZ.mk (hp_); have n1_ := AZ.mk ((by rw [hw]; exact pS (HB.out) GB10.out : Below w.heap.size w w13)); clear HO_3; clear HB; clear HO244; have HO_3 := n0_; have HB := n1_; clear n0_ n1_; clear hg hw hp_))
   go_roundg k1
   case measure => have := HK1.out; omega
   case rel => exact ⟨(y245), (wrap64 (x4_1 + 1)), (by first | rfl | (simp; done) | (simp [*]; done)), H', ⟨by have := HK1.out; omega⟩, ⟨by (with_reducible repeat (first | apply Kd.S_alloc | apply Kd.S_drewN | apply Kd.S_drew)); exact HO_3.out⟩, ⟨by repeat (first | (with_reducible first | exact HB.out | apply pA | apply pN | apply pD) | exact HB.out)⟩⟩
end Go.Proofs.Ytlmkkmoammgjdaa.P
namespace Go.Proofs.Ytlmkkmoammgjdaa.P
open Go.RowKit Go.Proofs.YtlmkkmoammgjdaaW.PrintWords Go.Proofs.YtlmkkmoammgjdaaW.PrintLast Go.Proofs.YtlmkkmoammgjdaaW.PrintMore
attribute [local go_sem] max2_int min2_int max_two min_two max_three min_three max_four min_four
set_option linter.unusedVariables false
set_option linter.unusedSimpArgs false
def laws_toInt64SSS.l0 : Nat → List (List (List Int)) → List (List (List Int)) → Int → Option ((List (List (List Int))))
 | 0, _, _, _ => none
 | k + 1, x0, x3, x4 => if x4 < (x0.length : Int) then (if 0 ≤ x4 then ((laws_toInt64SS.f k (rd_L7 x0 x4)).bind fun t250 => (if x4 < (x3.length : Int) then (laws_toInt64SSS.l0 k x0 (x3.set (x4 : Int).toNat t250) (wrap64 (x4 + 1))) else (none))) else (none)) else (some x3)
def laws_toInt64SSS.f (k : Nat) (l0 : List (List (List Int))) : Option ((List (List (List Int)))) := if 0 ≤ (l0.length : Int) then (if ((l0.length : Int) : Int).toNat ≤ 11728124029610 then (laws_toInt64SSS.l0 k l0 (List.replicate ((l0.length : Int) : Int).toNat []) 0) else (none)) else (none)
set_option maxHeartbeats 8000000 in
set_option maxRecDepth 100000 in
theorem laws_toInt64SSS.calls (k : Nat) (A0 : Option Addr) (c0 : Nat) (l0 : List (List (List Int))) (r : List (List (List Int))) (w : World) (hr0 : Kd.C (Kd.slice 60 (Kd.slice 2 (Kd.int .i64))) w A0 l0.length l0) (hc0 : l0.length ≤ c0) (h : laws_toInt64SSS.f k l0 = some r) :
  Calls Try.prog 28 #[.slice A0 l0.length c0] w fun e w' => ∃ v0_ : Value, e = .returned (v0_) ∧ Kd.R (Kd.slice 60 (Kd.slice 2 (Kd.int .i64))) 28 w' w.heap.size (fun _ => True) v0_ r ∧ Below w.heap.size w w' := by
 have HR0 := AZ.mk hr0
 have HC0 := AZ.mk hc0
 clear hr0 hc0
 have HB := AZ.mk (Below.refl w.heap.size w)
 have H : (if 0 ≤ (l0.length : Int) then (if ((l0.length : Int) : Int).toNat ≤ 11728124029610 then (laws_toInt64SSS.l0 k l0 (List.replicate ((l0.length : Int) : Int).toNat []) 0) else (none)) else (none)) = some r := h
 clear h
 by_cases c2 : 0 ≤ (l0.length : Int)
 rotate_left
 ·rw [if_neg c2] at H
  exact absurd H (by simp)
 rw [if_pos c2] at H
 have c2b0 := eq_true c2
 have c2b1 : decide (0 ≤ (l0.length : Int)) = true := decide_eq_true c2
 clear c2
 by_cases c3 : ((l0.length : Int) : Int).toNat ≤ 11728124029610
 rotate_left
 ·rw [if_neg c3] at H
  exact absurd H (by simp)
 rw [if_pos c3] at H
 have c3b0 := eq_true c3
 have c3b1 : decide (((l0.length : Int) : Int).toNat ≤ 11728124029610) = true := decide_eq_true c3
 clear c3
 obtain ⟨y246, hy246⟩ : ∃ y_ : List (List (List Int)), y_ = (List.replicate ((l0.length : Int) : Int).toNat []) := ⟨_, rfl⟩
 replace H : (laws_toInt64SSS.l0 k l0 y246 0) = some r := by first | (rw [hy246]; with_reducible exact H) | (have H2_ := (Option.bind_some _ _).symm.trans H; rw [hy246]; with_reducible exact H2_) | (have H2_ := (Option.bind_some _ _).symm.trans H; with_reducible exact H2_) | with_reducible exact H | (rw [hy246]; exact H) | exact H
 have Ny246 := AZ.mk hy246
 clear hy246
 have H' := AZ.mk H
 clear H
 go_enter Try.func28, Try.ntmps28
 go_wp2_with (first | ((with_reducible refine gate_dst (N := 7) rfl ?_); refine Kd.R_make (Kd.slice 60 (Kd.slice 2 (Kd.int .i64))) _ 28 rfl (N := 7) rfl 27 _ _ rfl (l0.length : Int) rfl rfl Try.underlying27 (.slice none 0 0) 24 info28 rfl (by decide) (by omega) [] (ok := fun _ => True) (okp := fun _ => True) ⟨_, rfl, Kd.R_nil _ _ _ _ _⟩ (fun _ hk => hk) trivial (oT (by first | (with_reducible assumption) | assumption)) (Nat.le_trans (Nat.mul_le_mul_right _ (oT (by first | (with_reducible assumption) | assumption) : (l0.length : Int).toNat ≤ 11728124029610)) (by omega)) (Below.refl _ _) (Nat.le_refl _) ?_; intro v247 w4 ho5 hb hg_ hnew_; clear hg_ hnew_; (first | rw [← Ny246.out] at ho5 | (simp only [Int.reduceToNat] at ho5; rw [← Ny246.out] at ho5)); have n0_ := AZ.mk (Kd.R_lower ho5 (pZ (by repeat (first | (with_reducible first | exact HB.out | apply pA | apply pN | apply pD) | exact HB.out)))); have n1_ := AZ.mk (pT (by repeat (first | (with_reducible first | exact HB.out | apply pA | apply pN | apply pD) | exact HB.out)) hb); clear HB; have HO248 := n0_; have HB := n1_; clear n0_ n1_; clear hb ho5))
 go_loopg [4] k (fun kq v4 w' => ∃ (x3_1 : List (List (List Int))) (x4_1 : Int), v4 = .int .i64 x4_1 ∧ AZ (laws_toInt64SSS.l0 kq l0 x3_1 x4_1 = some r) ∧ AZ (kq ≤ k) ∧ AZ (Kd.R (Kd.slice 60 (Kd.slice 2 (Kd.int .i64))) 28 w' w.heap.size (fun _ => True) v247 x3_1) ∧ AZ (Below w.heap.size w w'))
 case atStart => exact ⟨(y246), (0), (by first | rfl | (simp; done) | (simp [*]; done)), H', ⟨Nat.le_refl _⟩, ⟨by (with_reducible repeat (first | apply Kd.R_alloc | apply Kd.R_drewN | apply Kd.R_drew)); exact HO248.out⟩, ⟨by repeat (first | (with_reducible first | exact HB.out | apply pA | apply pN | apply pD) | exact HB.out)⟩⟩
 case round =>
  clear H'
  try clear c2
  try clear c2b0
  try clear c2b1
  try clear p2
  try clear c3
  try clear c3b0
  try clear c3b1
  obtain ⟨x3_1, x4_1, rfl, HA, HK1, HO_3, HB⟩ := hrel
  cases gk with
  | zero => exact absurd HA.out (by simp [laws_toInt64SSS.l0])
  | succ k1 =>
   have H := HA.out
   clear HA
   simp only [laws_toInt64SSS.l0] at H
   by_cases c6 : x4_1 < (l0.length : Int)
   rotate_left
   ·rw [if_neg c6] at H
    have c6b0 : decide (x4_1 < (l0.length : Int)) = false := decide_eq_false c6
    clear c6
    obtain rfl := Option.some.inj H
    go_wp2
    go_ret
    exact ⟨_, by first | rfl | (simp [errW_none, errW_some] <;> rfl) | (simp [*, errW_none, errW_some] <;> rfl), by (with_reducible repeat (first | apply Kd.R_alloc | apply Kd.R_drewN | apply Kd.R_drew)); exact HO_3.out, by repeat (first | (with_reducible first | exact HB.out | apply pA | apply pN | apply pD) | exact HB.out)⟩
   rw [if_pos c6] at H
   have c6b0 : decide (x4_1 < (l0.length : Int)) = true := decide_eq_true c6
   clear c6
   by_cases c7 : 0 ≤ x4_1
   rotate_left
   ·rw [if_neg c7] at H
    exact absurd H (by simp)
   rw [if_pos c7] at H
   have c7b0 : decide (0 ≤ x4_1) = true := decide_eq_true c7
   clear c7
   replace H := Option.bind_eq_some_iff.mp H
   obtain ⟨t250, A80, H⟩ := H
   replace H : (if x4_1 < (x3_1.length : Int) then (laws_toInt64SSS.l0 k1 l0 (x3_1.set (x4_1 : Int).toNat t250) (wrap64 (x4_1 + 1))) else (none)) = some r := H
   have A8 := AZ.mk A80
   clear A80
   by_cases c9 : x4_1 < (x3_1.length : Int)
   rotate_left
   ·rw [if_neg c9] at H
    exact absurd H (by simp)
   rw [if_pos c9] at H
   have c9b0 : decide (x4_1 < (x3_1.length : Int)) = true := decide_eq_true c9
   clear c9
   obtain ⟨y253, hy253⟩ : ∃ y_ : List (List (List Int)), y_ = (x3_1.set (x4_1 : Int).toNat t250) := ⟨_, rfl⟩
   replace H : (laws_toInt64SSS.l0 k1 l0 y253 (wrap64 (x4_1 + 1))) = some r := by first | (rw [hy253]; with_reducible exact H) | (have H2_ := (Option.bind_some _ _).symm.trans H; rw [hy253]; with_reducible exact H2_) | (have H2_ := (Option.bind_some _ _).symm.trans H; with_reducible exact H2_) | with_reducible exact H | (rw [hy253]; exact H) | exact H
   have Ny253 := AZ.mk hy253
   clear hy253
   have H' := AZ.mk H
   clear H
   have p249 : 0 ≤ (x4_1 : Int) := oT (by first | (with_reducible assumption) | assumption)
   have q249 : x4_1 < (l0.length : Int) := oT (by first | (with_reducible assumption) | assumption)
   obtain ⟨ad249, A249_0, c249_0, e249, hx249_0, hl249_0, hi249_0⟩ := at_L7 HR0.out x4_1 p249 q249
   cases e249
   replace hx249_0 := (HB.out.cell (World.block_lt_of_cell? w _ hx249_0)).trans hx249_0
   have HR249_0 := AZ.mk hi249_0
   have HC249_0 := AZ.mk hl249_0
   clear hi249_0 hl249_0
   replace p249 := eq_true p249
   replace q249 := eq_true q249
   go_wp2_with (first | ((with_reducible refine gate_callee (f := 29) rfl ?_); refine goesL_ (some 20) rfl rfl Try.func29 (by kernel_rfl) rfl #[.slice A249_0 (rd_L7 l0 x4_1).length c249_0] rfl (by (try simp only [List.map_toArray, List.map_cons, List.map_nil]); first | done | rfl | (simp only [List.length_drop, List.length_take]; rfl)) ?_; (with_reducible refine (laws_toInt64SS.calls k1 _ _ (rd_L7 l0 x4_1) t250 _ ?side1 ?side2 A8.out).mono ?_); (case side1 => repeat (first | exact (Kd.C_below HR249_0.out HB.out) | (with_reducible refine Kd.C_alloc ?_ _) | (with_reducible refine Kd.C_drewN ?_ _) | (with_reducible refine Kd.C_drew ?_))); (case side2 => exact HC249_0.out); rintro e w11 ⟨v251, rfl, ho0, hb⟩; refine ⟨_, rfl, ?_⟩; have n0_ := AZ.mk (Kd.R_elder' (by (with_reducible repeat (first | apply Kd.R_alloc | apply Kd.R_drewN | apply Kd.R_drew)); exact HO_3.out) (Kd.S_base ho0) hb); have n1_ := AZ.mk (Kd.S_lower ho0 (pZ (by repeat (first | (with_reducible first | exact HB.out | apply pA | apply pN | apply pD) | exact HB.out)))); have n2_ := AZ.mk (pT (by repeat (first | (with_reducible first | exact HB.out | apply pA | apply pN | apply pD) | exact HB.out)) hb); clear HO_3; clear HB; have HO_3 := n0_; have HO252 := n1_; have HB := n2_; clear n0_ n1_ n2_; (try clear hb); (try clear hb2); (try clear hk); (try clear hi); (try clear ho0); have p10 : 0 ≤ (x4_1 : Int) := oT (by first | (with_reducible assumption) | assumption); have q10 : (x4_1 : Int) < ((x3_1.length : Int) : Int) := oT (by first | (with_reducible assumption) | assumption); obtain ⟨go10, co10, eo10, gb10, gl10, cl10, HG10⟩ := Kd.R_form HO_3.out (by omega); (first | cases eo10 | (injection eo10 with ea_ en_ ec_; (first | subst ea_ | (injection ea_ with ea_; subst ea_)); subst ec_; clear en_)); have GB10 := AZ.mk gb10; have GG10 := AZ.mk HG10; clear gb10 gl10 HG10; obtain ⟨ce10, hcl10, hM10, hcc10, hfr10⟩ := Kd.R_elem HO_3.out [] (x4_1 : Int) p10 q10; obtain ⟨ve10_0, rfl, ge10_0⟩ := hM10; have hx10_0 := hcc10 0 _ rfl; have hf10_0 := hfr10 0; (try simp only [show ((Kd.slice 60 (Kd.slice 2 (Kd.int .i64)))).sz = 1 from rfl, Nat.mul_one, Nat.add_zero] at hx10_0); (try simp only [show ((Kd.slice 60 (Kd.slice 2 (Kd.int .i64)))).sz = 1 from rfl, Nat.mul_one, Nat.add_zero] at hf10_0); clear hcl10 hcc10 hfr10; (try clear hM10); replace p10 := eq_true p10; replace q10 := eq_true q10; obtain ⟨Ao14, co14, eo14⟩ := Kd.S_slice HO252.out; subst eo14; have n_ := AZ.mk (Kd.R_mono (ok' := (fun k_ => some k_ ≠ (.slice Ao14 t250.length co14 : Value).ownBlock)) HO_3.out (fun k_ hk => hk.2)); clear HO_3; have HO_3 := n_; clear n_; have HX12 := AZ.mk (show Kd.R (Kd.slice 60 (Kd.slice 2 (Kd.int .i64))) 28 w11 w.heap.size (fun _ => True) (.slice (some ⟨go10, 0, none⟩) x3_1.length co10) x3_1 from (by (with_reducible repeat (first | apply Kd.R_alloc | apply Kd.R_drewN | apply Kd.R_drew)); exact Kd.R_mono HO_3.out (fun _ hk => trivial))); obtain ⟨ce12, hcl12, hM12, hcc12, hfr12⟩ := Kd.R_elem HX12.out [] (x4_1 : Int) (oT (by first | (with_reducible assumption) | assumption)) (by have h_ : (x4_1 : Int) < ((x3_1.length : Int) : Int) := oT (by first | (with_reducible assumption) | assumption); first | exact h_ | (have e_ := (Kd.R_reads' HO_3.out).1; omega) | simpa using h_); obtain ⟨ve12_0, rfl, ge12_0⟩ := hM12; have HP12 := Kd.R_seg HX12.out (x4_1 : Int) (oT (by first | (with_reducible assumption) | assumption)) (by have h_ : (x4_1 : Int) < ((x3_1.length : Int) : Int) := oT (by first | (with_reducible assumption) | assumption); first | exact h_ | (have e_ := (Kd.R_reads' HO_3.out).1; omega) | simpa using h_) (seg := [.slice Ao14 t250.length co14]) (j := 0) hcl12 hcc12 (show 1 ≤ 1 from by decide) (x' := t250) (Kd.M_row (Kd.R_mono (Kd.R_apart' ((Kd.S_R HO252.out)) (Kd.R_typed HO_3.out) (by decide)) (fun k_ hk => ⟨trivial, fun e_ => (hk.2) (by rw [e_]; rfl)⟩))) (fun _ hk => hk); have hx12_0 := hcc12 0 _ rfl; (try simp only [show ((Kd.slice 60 (Kd.slice 2 (Kd.int .i64)))).sz = 1 from rfl, Nat.mul_one, Nat.add_zero] at hx12_0); have hf12_0 := hfr12 0; (try simp only [show ((Kd.slice 60 (Kd.slice 2 (Kd.int .i64)))).sz = 1 from rfl, Nat.mul_one, Nat.add_zero] at hf12_0); clear hcl12 hcc12 hfr12; (try clear hM12); (try simp only [show ((Kd.slice 60 (Kd.slice 2 (Kd.int .i64)))).sz = 1 from rfl, Nat.mul_one, Nat.add_zero] at HP12)) | ((with_reducible refine gate_store (t := 28) (p := 21) rfl ?_); refine store_event (t := 28) (p := 21) (v := ?vo_w13) (w1 := (w11.setCell ⟨go10, (x4_1 : Int).toNat, none⟩ (.slice Ao14 t250.length co14))) ?hg ?ho ?hn ?hr ?_; (case ho => rfl); (case hg => rfl); (case hn => rfl); (case hr => first | (go_simp; done) | (go_simp; rfl)); intro w13 hw; have hg : w11.grownBy w13 (some go10) := (by rw [hw]; exact HP12.2); have hp_ : Kd.R (Kd.slice 60 (Kd.slice 2 (Kd.int .i64))) 28 w13 w.heap.size (fun _ => True) (.slice (some ⟨go10, 0, none⟩) x3_1.length co10) y253 := (by rw [hw, Ny253.out]; exact HP12.1); clear HP12; have n0_ := AZ.mk (hp_); have n1_ := AZ.mk ((by rw [hw]; exact pS (HB.out) GB10.out : Below w.heap.size w w13)); clear HO_3; clear HB; clear HO252; have HO_3 := n0_; have HB := n1_; clear n0_ n1_; clear hg hw hp_))
   go_roundg k1
   case measure => have := HK1.out; omega
   case rel => exact ⟨(y253), (wrap64 (x4_1 + 1)), (by first | rfl | (simp; done) | (simp [*]; done)), H', ⟨by have := HK1.out; omega⟩, ⟨by (with_reducible repeat (first | apply Kd.R_alloc | apply Kd.R_drewN | apply Kd.R_drew)); exact HO_3.out⟩, ⟨by repeat (first | (with_reducible first | exact HB.out | apply pA | apply pN | apply pD) | exact HB.out)⟩⟩
end Go.Proofs.Ytlmkkmoammgjdaa.P
namespace Go.Proofs.Ytlmkkmoammgjdaa.P
open Go.RowKit Go.Proofs.YtlmkkmoammgjdaaW.PrintWords Go.Proofs.YtlmkkmoammgjdaaW.PrintLast Go.Proofs.YtlmkkmoammgjdaaW.PrintMore
attribute [local go_sem] max2_int min2_int max_two min_two max_three min_three max_four min_four
set_option linter.unusedVariables false
set_option linter.unusedSimpArgs false
def laws_toChecker.f (k : Nat) (a0_0 : Int) (a0_1 : Int) (l0_2 : List Bool) (l0_3 : List (List (S112))) (l0_4 : List (List (List Int))) (l0_5 : List (List Int)) : Option (Int × Int × List Bool × (List (List (S92))) × (List (List (List Int))) × (List (List Int))) := (laws_toBoolS.f k l0_2).bind fun t257 => ((laws_toPushSS.f k l0_3).bind fun t260 => ((laws_toInt64SSS.f k l0_4).bind fun t263 => ((laws_toInt64SS.f k l0_5).bind fun t266 => (some (a0_0, a0_1, t257, t260, t263, t266)))))
set_option maxHeartbeats 8000000 in
set_option maxRecDepth 100000 in
theorem laws_toChecker.calls (k : Nat) (a0_0 : Int) (a0_1 : Int) (A0_2 : Option Addr) (c0_2 : Nat) (l0_2 : List Bool) (A0_3 : Option Addr) (c0_3 : Nat) (l0_3 : List (List (S112))) (A0_4 : Option Addr) (c0_4 : Nat) (l0_4 : List (List (List Int))) (A0_5 : Option Addr) (c0_5 : Nat) (l0_5 : List (List Int)) (r1 : Int) (r2 : Int) (r3 : List Bool) (r4 : List (List (S92))) (r5 : List (List (List Int))) (r6 : List (List Int)) (w : World) (hr0_2 : Kd.C Kd.bool w A0_2 l0_2.length l0_2) (hc0_2 : l0_2.length ≤ c0_2) (hr0_3 : Kd.C (Kd.slice 112 k112) w A0_3 l0_3.length l0_3) (hc0_3 : l0_3.length ≤ c0_3) (hr0_4 : Kd.C (Kd.slice 60 (Kd.slice 2 (Kd.int .i64))) w A0_4 l0_4.length l0_4) (hc0_4 : l0_4.length ≤ c0_4) (hr0_5 : Kd.C (Kd.slice 2 (Kd.int .i64)) w A0_5 l0_5.length l0_5) (hc0_5 : l0_5.length ≤ c0_5) (h : laws_toChecker.f k a0_0 a0_1 l0_2 l0_3 l0_4 l0_5 = some (r1, r2, r3, r4, r5, r6)) :
  Calls Try.prog 9 #[.agg #[.int .i64 a0_0, .int .i64 a0_1, .slice A0_2 l0_2.length c0_2, .slice A0_3 l0_3.length c0_3, .slice A0_4 l0_4.length c0_4, .slice A0_5 l0_5.length c0_5]] w fun e w' => ∃ v2_ v3_ v4_ v5_ : Value, e = .returned (.agg #[.int .i64 r1, .int .i64 r2, v2_, v3_, v4_, v5_]) ∧ Kd.R Kd.bool 4 w' w.heap.size (fun _ => True) v2_ r3 ∧ Kd.S (Kd.slice 92 k92) 89 w' w.heap.size (fun _ => True) v3_ r4 ∧ Kd.R (Kd.slice 60 (Kd.slice 2 (Kd.int .i64))) 28 w' w.heap.size (fun k_ => some k_ ≠ (v5_ : Value).ownBlock) v4_ r5 ∧ Kd.S (Kd.slice 2 (Kd.int .i64)) 60 w' w.heap.size (fun _ => True) v5_ r6 ∧ Below w.heap.size w w' := by
 have hu30 := Try.underlying30
 have hu36 := Try.underlying36
 have HR0_2 := AZ.mk hr0_2
 have HC0_2 := AZ.mk hc0_2
 clear hr0_2 hc0_2
 have HR0_3 := AZ.mk hr0_3
 have HC0_3 := AZ.mk hc0_3
 clear hr0_3 hc0_3
 have HR0_4 := AZ.mk hr0_4
 have HC0_4 := AZ.mk hc0_4
 clear hr0_4 hc0_4
 have HR0_5 := AZ.mk hr0_5
 have HC0_5 := AZ.mk hc0_5
 clear hr0_5 hc0_5
 have HB := AZ.mk (Below.refl w.heap.size w)
 have H : ((laws_toBoolS.f k l0_2).bind fun t257 => ((laws_toPushSS.f k l0_3).bind fun t260 => ((laws_toInt64SSS.f k l0_4).bind fun t263 => ((laws_toInt64SS.f k l0_5).bind fun t266 => (some (a0_0, a0_1, t257, t260, t263, t266)))))) = some (r1, r2, r3, r4, r5, r6) := h
 clear h
 replace H := Option.bind_eq_some_iff.mp H
 obtain ⟨t257, A20, H⟩ := H
 replace H : ((laws_toPushSS.f k l0_3).bind fun t260 => ((laws_toInt64SSS.f k l0_4).bind fun t263 => ((laws_toInt64SS.f k l0_5).bind fun t266 => (some (a0_0, a0_1, t257, t260, t263, t266))))) = some (r1, r2, r3, r4, r5, r6) := H
 have A2 := AZ.mk A20
 clear A20
 replace H := Option.bind_eq_some_iff.mp H
 obtain ⟨t260, A30, H⟩ := H
 replace H : ((laws_toInt64SSS.f k l0_4).bind fun t263 => ((laws_toInt64SS.f k l0_5).bind fun t266 => (some (a0_0, a0_1, t257, t260, t263, t266)))) = some (r1, r2, r3, r4, r5, r6) := H
 have A3 := AZ.mk A30
 clear A30
 replace H := Option.bind_eq_some_iff.mp H
 obtain ⟨t263, A40, H⟩ := H
 replace H : ((laws_toInt64SS.f k l0_5).bind fun t266 => (some (a0_0, a0_1, t257, t260, t263, t266))) = some (r1, r2, r3, r4, r5, r6) := H
 have A4 := AZ.mk A40
 clear A40
 replace H := Option.bind_eq_some_iff.mp H
 obtain ⟨t266, A50, H⟩ := H
 replace H : (some (a0_0, a0_1, t257, t260, t263, t266)) = some (r1, r2, r3, r4, r5, r6) := H
 have A5 := AZ.mk A50
 clear A50
 simp only [Option.some.injEq, Prod.mk.injEq] at H
 obtain ⟨rfl, rfl, rfl, rfl, rfl, rfl⟩ := H
 go_enter Try.func9, Try.ntmps9
 go_wp2_with (first | ((with_reducible refine gate_dst (N := 1) rfl ?_); refine box_event ?hg (N := 1) ?hd (cs := #[.int .i64 a0_0, .int .i64 a0_1, .slice A0_2 l0_2.length c0_2, .slice A0_3 l0_3.length c0_3, .slice A0_4 l0_4.length c0_4, .slice A0_5 l0_5.length c0_5]) (t := 30) ?hr ?_; (case hd => rfl); (case hg => rfl); (case hr => first | (go_simp; done) | (go_simp; rfl)); intro gb254 hg w6 hbox hb; have n0_ := AZ.mk (pT (by repeat (first | (with_reducible first | exact HB.out | apply pA | apply pN | apply pD) | exact HB.out)) hb); have n1_ := AZ.mk (hbox); have n2_ := AZ.mk ((by rw [hg]; exact (pZ (by repeat (first | (with_reducible first | exact HB.out | apply pA | apply pN | apply pD) | exact HB.out))) : w.heap.size ≤ gb254)); have n3_ := AZ.mk ((by rw [hg]; exact (pZ (by repeat (first | (with_reducible first | exact HB.out | apply pA | apply pN | apply pD) | exact HB.out))) : w.heap.size ≤ gb254)); clear HB; have HB := n0_; have BK254 := n1_; have GW254 := n2_; have GE254 := n3_; clear n0_ n1_ n2_ n3_; clear hb hbox hg) | ((with_reducible refine gate_dst (N := 2) rfl ?_); refine box_event ?hg (N := 2) ?hd (cs := #[.int .i64 0, .int .i64 0, .slice none 0 0, .slice none 0 0, .slice none 0 0, .slice none 0 0]) (t := 36) ?hr ?_; (case hd => rfl); (case hg => rfl); (case hr => first | (go_simp; done) | (go_simp; rfl)); intro gb255 hg w7 hbox hb; have n0_ := AZ.mk (bb_ (g := gb254) (o := .cells #[.int .i64 a0_0, .int .i64 a0_1, .slice A0_2 l0_2.length c0_2, .slice A0_3 l0_3.length c0_3, .slice A0_4 l0_4.length c0_4, .slice A0_5 l0_5.length c0_5] 30 (0, 0)) (by (with_reducible repeat (first | refine bn_ ?_ _ | refine bd_ ?_ | refine ba_ ?_ _)); exact BK254.out) hb); have n1_ := AZ.mk (pT (by repeat (first | (with_reducible first | exact HB.out | apply pA | apply pN | apply pD | refine pS ?_ GE254.out) | exact HB.out)) hb); have n2_ := AZ.mk (hbox); have n3_ := AZ.mk ((by rw [hg]; exact (pZ (by repeat (first | (with_reducible first | exact HB.out | apply pA | apply pN | apply pD | refine pS ?_ GE254.out) | exact HB.out))) : w.heap.size ≤ gb255)); have n4_ := AZ.mk ((by rw [hg]; exact (pZ (by repeat (first | (with_reducible first | exact HB.out | apply pA | apply pN | apply pD | refine pS ?_ GE254.out) | exact HB.out))) : w.heap.size ≤ gb255)); have n5_ := AZ.mk ((by rw [hg]; exact Nat.ne_of_lt (blk_lt (g := gb254) (o := .cells #[.int .i64 a0_0, .int .i64 a0_1, .slice A0_2 l0_2.length c0_2, .slice A0_3 l0_3.length c0_3, .slice A0_4 l0_4.length c0_4, .slice A0_5 l0_5.length c0_5] 30 (0, 0)) (by (with_reducible repeat (first | refine bn_ ?_ _ | refine bd_ ?_ | refine ba_ ?_ _)); exact BK254.out)) : gb254 ≠ gb255)); have n6_ := AZ.mk ((by rw [hg]; exact Nat.ne_of_gt (blk_lt (g := gb254) (o := .cells #[.int .i64 a0_0, .int .i64 a0_1, .slice A0_2 l0_2.length c0_2, .slice A0_3 l0_3.length c0_3, .slice A0_4 l0_4.length c0_4, .slice A0_5 l0_5.length c0_5] 30 (0, 0)) (by (with_reducible repeat (first | refine bn_ ?_ _ | refine bd_ ?_ | refine ba_ ?_ _)); exact BK254.out)) : gb255 ≠ gb254)); clear BK254; clear HB; have BK254 := n0_; have HB := n1_; have BK255 := n2_; have GW255 := n3_; have GE255 := n4_; have NB254_255 := n5_; have NB255_254 := n6_; clear n0_ n1_ n2_ n3_ n4_ n5_ n6_; clear hb hbox hg) | ((with_reducible refine gate_dst (N := 3) rfl ?_); refine box_event ?hg (N := 3) ?hd (cs := #[.int .i64 0, .int .i64 0, .slice none 0 0, .slice none 0 0, .slice none 0 0, .slice none 0 0]) (t := 36) ?hr ?_; (case hd => rfl); (case hg => rfl); (case hr => first | (go_simp; done) | (go_simp; rfl)); intro gb256 hg w8 hbox hb; have n0_ := AZ.mk (bb_ (g := gb254) (o := .cells #[.int .i64 a0_0, .int .i64 a0_1, .slice A0_2 l0_2.length c0_2, .slice A0_3 l0_3.length c0_3, .slice A0_4 l0_4.length c0_4, .slice A0_5 l0_5.length c0_5] 30 (0, 0)) (by (with_reducible repeat (first | refine bn_ ?_ _ | refine bd_ ?_ | refine ba_ ?_ _)); exact BK254.out) hb); have n1_ := AZ.mk (bb_ (g := gb255) (o := .cells #[.int .i64 0, .int .i64 0, .slice none 0 0, .slice none 0 0, .slice none 0 0, .slice none 0 0] 36 (0, 0)) (by (with_reducible repeat (first | refine bn_ ?_ _ | refine bd_ ?_ | refine ba_ ?_ _)); exact BK255.out) hb); have n2_ := AZ.mk (pT (by repeat (first | (with_reducible first | exact HB.out | apply pA | apply pN | apply pD | refine pS ?_ GE254.out | refine pS ?_ GE255.out) | exact HB.out)) hb); have n3_ := AZ.mk (hbox); have n4_ := AZ.mk ((by rw [hg]; exact (pZ (by repeat (first | (with_reducible first | exact HB.out | apply pA | apply pN | apply pD | refine pS ?_ GE254.out | refine pS ?_ GE255.out) | exact HB.out))) : w.heap.size ≤ gb256)); have n5_ := AZ.mk ((by rw [hg]; exact (pZ (by repeat (first | (with_reducible first | exact HB.out | apply pA | apply pN | apply pD | refine pS ?_ GE254.out | refine pS ?_ GE255.out) | exact HB.out))) : w.heap.size ≤ gb256)); have n6_ := AZ.mk ((by rw [hg]; exact Nat.ne_of_lt (blk_lt (g := gb254) (o := .cells #[.int .i64 a0_0, .int .i64 a0_1, .slice A0_2 l0_2.length c0_2, .slice A0_3 l0_3.length c0_3, .slice A0_4 l0_4.length c0_4, .slice A0_5 l0_5.length c0_5] 30 (0, 0)) (by (with_reducible repeat (first | refine bn_ ?_ _ | refine bd_ ?_ | refine ba_ ?_ _)); exact BK254.out)) : gb254 ≠ gb256)); have n7_ := AZ.mk ((by rw [hg]; exact Nat.ne_of_gt (blk_lt (g := gb254) (o := .cells #[.int .i64 a0_0, .int .i64 a0_1, .slice A0_2 l0_2.length c0_2, .slice A0_3 l0_3.length c0_3, .slice A0_4 l0_4.length c0_4, .slice A0_5 l0_5.length c0_5] 30 (0, 0)) (by (with_reducible repeat (first | refine bn_ ?_ _ | refine bd_ ?_ | refine ba_ ?_ _)); exact BK254.out)) : gb256 ≠ gb254)); have n8_ := AZ.mk ((by rw [hg]; exact Nat.ne_of_lt (blk_lt (g := gb255) (o := .cells #[.int .i64 0, .int .i64 0, .slice none 0 0, .slice none 0 0, .slice none 0 0, .slice none 0 0] 36 (0, 0)) (by (with_reducible repeat (first | refine bn_ ?_ _ | refine bd_ ?_ | refine ba_ ?_ _)); exact BK255.out)) : gb255 ≠ gb256)); have n9_ := AZ.mk ((by rw [hg]; exact Nat.ne_of_gt (blk_lt (g := gb255) (o := .cells #[.int .i64 0, .int .i64 0, .slice none 0 0, .slice none 0 0, .slice none 0 0, .slice none 0 0] 36 (0, 0)) (by (with_reducible repeat (first | refine bn_ ?_ _ | refine bd_ ?_ | refine ba_ ?_ _)); exact BK255.out)) : gb256 ≠ gb255)); clear BK254; clear BK255; clear HB; have BK254 := n0_; have BK255 := n1_; have HB := n2_; have BK256 := n3_; have GW256 := n4_; have GE256 := n5_; have NB254_256 := n6_; have NB256_254 := n7_; have NB255_256 := n8_; have NB256_255 := n9_; clear n0_ n1_ n2_ n3_ n4_ n5_ n6_ n7_ n8_ n9_; clear hb hbox hg; have hnb9 := NB254_255.out; have hnc9 := NB255_254.out; have hnb10 := NB254_256.out; have hnc10 := NB256_254.out; obtain ⟨hcz11_0, hcz11_1, hcz11_2, hcz11_3, hcz11_4, hcz11_5⟩ := c6 BK254.out; obtain ⟨hfz11_0, hfz11_1, hfz11_2, hfz11_3, hfz11_4, hfz11_5⟩ := f6 BK254.out; have hnb12 := NB256_255.out; have hnc12 := NB255_256.out; obtain ⟨hcz13_0, hcz13_1, hcz13_2, hcz13_3, hcz13_4, hcz13_5⟩ := c6 BK256.out; obtain ⟨hfz13_0, hfz13_1, hfz13_2, hfz13_3, hfz13_4, hfz13_5⟩ := f6 BK256.out) | ((with_reducible refine gate_callee (f := 26) rfl ?_); refine goesL_ (some 12) rfl rfl Try.func26 (by kernel_rfl) rfl #[.slice A0_2 l0_2.length c0_2] rfl (by (try simp only [List.map_toArray, List.map_cons, List.map_nil]); first | done | rfl | (simp only [List.length_drop, List.length_take]; rfl)) ?_; (with_reducible refine (laws_toBoolS.calls k _ _ l0_2 t257 _ ?side1 ?side2 A2.out).mono ?_); (case side1 => exact Kd.C_below HR0_2.out (by repeat (first | (with_reducible first | exact HB.out | apply pA | apply pN | apply pD | refine pS ?_ GE254.out | refine pS ?_ GE255.out | refine pS ?_ GE256.out) | exact HB.out))); (case side2 => exact HC0_2.out); rintro e w14 ⟨v258, rfl, ho0, hb⟩; refine ⟨_, rfl, ?_⟩; have n0_ := AZ.mk (Kd.R_lower ho0 (pZ (by repeat (first | (with_reducible first | exact HB.out | apply pA | apply pN | apply pD | refine pS ?_ GE254.out | refine pS ?_ GE255.out | refine pS ?_ GE256.out) | exact HB.out)))); have n1_ := AZ.mk (bb_ (g := gb254) (o := .cells #[.int .i64 a0_0, .int .i64 a0_1, .slice A0_2 l0_2.length c0_2, .slice A0_3 l0_3.length c0_3, .slice A0_4 l0_4.length c0_4, .slice A0_5 l0_5.length c0_5] 30 (0, 0)) (by (with_reducible repeat (first | refine bn_ ?_ _ | refine bd_ ?_ | refine ba_ ?_ _)); refine blk_far ?_ NB254_256.out _; (with_reducible repeat (first | refine bn_ ?_ _ | refine bd_ ?_ | refine ba_ ?_ _)); refine blk_far ?_ NB254_256.out _; (with_reducible repeat (first | refine bn_ ?_ _ | refine bd_ ?_ | refine ba_ ?_ _)); exact BK254.out) hb); have n2_ := AZ.mk (bb_ (g := gb255) (o := .cells #[.int .i64 0, .int .i64 0, .slice none 0 0, .slice none 0 0, .slice none 0 0, .slice none 0 0] 36 (0, 0)) (by (with_reducible repeat (first | refine bn_ ?_ _ | refine bd_ ?_ | refine ba_ ?_ _)); refine blk_far ?_ NB255_256.out _; (with_reducible repeat (first | refine bn_ ?_ _ | refine bd_ ?_ | refine ba_ ?_ _)); refine blk_far ?_ NB255_256.out _; (with_reducible repeat (first | refine bn_ ?_ _ | refine bd_ ?_ | refine ba_ ?_ _)); exact BK255.out) hb); have n3_ := AZ.mk (bb_ (g := gb256) (o := .cells #[.int .i64 a0_0, .int .i64 a0_1, .slice none 0 0, .slice none 0 0, .slice none 0 0, .slice none 0 0] 36 (0, 0)) (by (with_reducible repeat (first | refine bn_ ?_ _ | refine bd_ ?_ | refine ba_ ?_ _)); refine blk_put (cs := #[.int .i64 a0_0, .int .i64 0, .slice none 0 0, .slice none 0 0, .slice none 0 0, .slice none 0 0]) ?_ 1 _ rfl; (with_reducible repeat (first | refine bn_ ?_ _ | refine bd_ ?_ | refine ba_ ?_ _)); refine blk_put (cs := #[.int .i64 0, .int .i64 0, .slice none 0 0, .slice none 0 0, .slice none 0 0, .slice none 0 0]) ?_ 0 _ rfl; (with_reducible repeat (first | refine bn_ ?_ _ | refine bd_ ?_ | refine ba_ ?_ _)); exact BK256.out) hb); have n4_ := AZ.mk (pT (by repeat (first | (with_reducible first | exact HB.out | apply pA | apply pN | apply pD | refine pS ?_ GE254.out | refine pS ?_ GE255.out | refine pS ?_ GE256.out) | exact HB.out)) hb); clear BK254; clear BK255; clear BK256; clear HB; have HO259 := n0_; have BK254 := n1_; have BK255 := n2_; have BK256 := n3_; have HB := n4_; clear n0_ n1_ n2_ n3_ n4_; (try clear hb); (try clear hb2); (try clear hk); (try clear hi); (try clear ho0); obtain ⟨Ao15, co15, eo15⟩ := Kd.R_slice HO259.out; subst eo15; obtain ⟨hcz16_0, hcz16_1, hcz16_2, hcz16_3, hcz16_4, hcz16_5⟩ := c6 BK256.out; obtain ⟨hfz16_0, hfz16_1, hfz16_2, hfz16_3, hfz16_4, hfz16_5⟩ := f6 BK256.out; obtain ⟨hcz17_0, hcz17_1, hcz17_2, hcz17_3, hcz17_4, hcz17_5⟩ := c6 BK254.out; obtain ⟨hfz17_0, hfz17_1, hfz17_2, hfz17_3, hfz17_4, hfz17_5⟩ := f6 BK254.out) | ((with_reducible refine gate_callee (f := 27) rfl ?_); refine goesL_ (some 16) rfl rfl Try.func27 (by kernel_rfl) rfl #[.slice A0_3 l0_3.length c0_3] rfl (by (try simp only [List.map_toArray, List.map_cons, List.map_nil]); first | done | rfl | (simp only [List.length_drop, List.length_take]; rfl)) ?_; (with_reducible refine (laws_toPushSS.calls k _ _ l0_3 t260 _ ?side1 ?side2 A3.out).mono ?_); (case side1 => exact Kd.C_below HR0_3.out (by repeat (first | (with_reducible first | exact HB.out | apply pA | apply pN | apply pD | refine pS ?_ GE254.out | refine pS ?_ GE255.out | refine pS ?_ GE256.out) | exact HB.out))); (case side2 => exact HC0_3.out); rintro e w18 ⟨v261, rfl, ho0, hb⟩; refine ⟨_, rfl, ?_⟩; have n0_ := AZ.mk (Kd.R_below (by (with_reducible repeat (first | apply Kd.R_alloc | apply Kd.R_drewN | apply Kd.R_drew)); exact (Kd.R_mono (Kd.R_far (p := ⟨gb256, 2, none⟩) (Kd.R_types HO259.out BK256.out (by decide)) (fun _ hk => hk.2) (.slice Ao15 t257.length co15)) (fun _ h_ => h_.1))) hb); have n1_ := AZ.mk (Kd.S_lower ho0 (pZ (by repeat (first | (with_reducible first | exact HB.out | apply pA | apply pN | apply pD | refine pS ?_ GE254.out | refine pS ?_ GE255.out | refine pS ?_ GE256.out) | exact HB.out)))); have n2_ := AZ.mk (bb_ (g := gb254) (o := .cells #[.int .i64 a0_0, .int .i64 a0_1, .slice A0_2 l0_2.length c0_2, .slice A0_3 l0_3.length c0_3, .slice A0_4 l0_4.length c0_4, .slice A0_5 l0_5.length c0_5] 30 (0, 0)) (by (with_reducible repeat (first | refine bn_ ?_ _ | refine bd_ ?_ | refine ba_ ?_ _)); refine blk_far ?_ NB254_256.out _; (with_reducible repeat (first | refine bn_ ?_ _ | refine bd_ ?_ | refine ba_ ?_ _)); exact BK254.out) hb); have n3_ := AZ.mk (bb_ (g := gb255) (o := .cells #[.int .i64 0, .int .i64 0, .slice none 0 0, .slice none 0 0, .slice none 0 0, .slice none 0 0] 36 (0, 0)) (by (with_reducible repeat (first | refine bn_ ?_ _ | refine bd_ ?_ | refine ba_ ?_ _)); refine blk_far ?_ NB255_256.out _; (with_reducible repeat (first | refine bn_ ?_ _ | refine bd_ ?_ | refine ba_ ?_ _)); exact BK255.out) hb); have n4_ := AZ.mk (bb_ (g := gb256) (o := .cells #[.int .i64 a0_0, .int .i64 a0_1, .slice Ao15 t257.length co15, .slice none 0 0, .slice none 0 0, .slice none 0 0] 36 (0, 0)) (by (with_reducible repeat (first | refine bn_ ?_ _ | refine bd_ ?_ | refine ba_ ?_ _)); refine blk_put (cs := #[.int .i64 a0_0, .int .i64 a0_1, .slice none 0 0, .slice none 0 0, .slice none 0 0, .slice none 0 0]) ?_ 2 _ rfl; (with_reducible repeat (first | refine bn_ ?_ _ | refine bd_ ?_ | refine ba_ ?_ _)); exact BK256.out) hb); have n5_ := AZ.mk (pT (by repeat (first | (with_reducible first | exact HB.out | apply pA | apply pN | apply pD | refine pS ?_ GE254.out | refine pS ?_ GE255.out | refine pS ?_ GE256.out) | exact HB.out)) hb); clear HO259; clear BK254; clear BK255; clear BK256; clear HB; have HO259 := n0_; have HO262 := n1_; have BK254 := n2_; have BK255 := n3_; have BK256 := n4_; have HB := n5_; clear n0_ n1_ n2_ n3_ n4_ n5_; (try clear hb); (try clear hb2); (try clear hk); (try clear hi); (try clear ho0); obtain ⟨Ao19, co19, eo19⟩ := Kd.S_slice HO262.out; subst eo19; obtain ⟨hcz20_0, hcz20_1, hcz20_2, hcz20_3, hcz20_4, hcz20_5⟩ := c6 BK256.out; obtain ⟨hfz20_0, hfz20_1, hfz20_2, hfz20_3, hfz20_4, hfz20_5⟩ := f6 BK256.out; obtain ⟨hcz21_0, hcz21_1, hcz21_2, hcz21_3, hcz21_4, hcz21_5⟩ := c6 BK254.out; obtain ⟨hfz21_0, hfz21_1, hfz21_2, hfz21_3, hfz21_4, hfz21_5⟩ := f6 BK254.out) | ((with_reducible refine gate_callee (f := 28) rfl ?_); refine goesL_ (some 20) rfl rfl Try.func28 (by kernel_rfl) rfl #[.slice A0_4 l0_4.length c0_4] rfl (by (try simp only [List.map_toArray, List.map_cons, List.map_nil]); first | done | rfl | (simp only [List.length_drop, List.length_take]; rfl)) ?_; (with_reducible refine (laws_toInt64SSS.calls k _ _ l0_4 t263 _ ?side1 ?side2 A4.out).mono ?_); (case side1 => exact Kd.C_below HR0_4.out (by repeat (first | (with_reducible first | exact HB.out | apply pA | apply pN | apply pD | refine pS ?_ GE254.out | refine pS ?_ GE255.out | refine pS ?_ GE256.out) | exact HB.out))); (case side2 => exact HC0_4.out); rintro e w22 ⟨v264, rfl, ho0, hb⟩; refine ⟨_, rfl, ?_⟩; have n0_ := AZ.mk (Kd.R_below (by (with_reducible repeat (first | apply Kd.R_alloc | apply Kd.R_drewN | apply Kd.R_drew)); exact (Kd.R_mono (Kd.R_far (p := ⟨gb256, 3, none⟩) (Kd.R_types HO259.out BK256.out (by decide)) (fun _ hk => hk.2) (.slice Ao19 t260.length co19)) (fun _ h_ => h_.1))) hb); have n1_ := AZ.mk (Kd.S_below (by (with_reducible repeat (first | apply Kd.S_alloc | apply Kd.S_drewN | apply Kd.S_drew)); exact (Kd.S_mono (Kd.S_far (p := ⟨gb256, 3, none⟩) (Kd.S_types HO262.out BK256.out (by decide)) (fun _ hk => hk.2) (.slice Ao19 t260.length co19)) (fun _ h_ => h_.1))) hb); have n2_ := AZ.mk (Kd.R_lower ho0 (pZ (by repeat (first | (with_reducible first | exact HB.out | apply pA | apply pN | apply pD | refine pS ?_ GE254.out | refine pS ?_ GE255.out | refine pS ?_ GE256.out) | exact HB.out)))); have n3_ := AZ.mk (bb_ (g := gb254) (o := .cells #[.int .i64 a0_0, .int .i64 a0_1, .slice A0_2 l0_2.length c0_2, .slice A0_3 l0_3.length c0_3, .slice A0_4 l0_4.length c0_4, .slice A0_5 l0_5.length c0_5] 30 (0, 0)) (by (with_reducible repeat (first | refine bn_ ?_ _ | refine bd_ ?_ | refine ba_ ?_ _)); refine blk_far ?_ NB254_256.out _; (with_reducible repeat (first | refine bn_ ?_ _ | refine bd_ ?_ | refine ba_ ?_ _)); exact BK254.out) hb); have n4_ := AZ.mk (bb_ (g := gb255) (o := .cells #[.int .i64 0, .int .i64 0, .slice none 0 0, .slice none 0 0, .slice none 0 0, .slice none 0 0] 36 (0, 0)) (by (with_reducible repeat (first | refine bn_ ?_ _ | refine bd_ ?_ | refine ba_ ?_ _)); refine blk_far ?_ NB255_256.out _; (with_reducible repeat (first | refine bn_ ?_ _ | refine bd_ ?_ | refine ba_ ?_ _)); exact BK255.out) hb); have n5_ := AZ.mk (bb_ (g := gb256) (o := .cells #[.int .i64 a0_0, .int .i64 a0_1, .slice Ao15 t257.length co15, .slice Ao19 t260.length co19, .slice none 0 0, .slice none 0 0] 36 (0, 0)) (by (with_reducible repeat (first | refine bn_ ?_ _ | refine bd_ ?_ | refine ba_ ?_ _)); refine blk_put (cs := #[.int .i64 a0_0, .int .i64 a0_1, .slice Ao15 t257.length co15, .slice none 0 0, .slice none 0 0, .slice none 0 0]) ?_ 3 _ rfl; (with_reducible repeat (first | refine bn_ ?_ _ | refine bd_ ?_ | refine ba_ ?_ _)); exact BK256.out) hb); have n6_ := AZ.mk (pT (by repeat (first | (with_reducible first | exact HB.out | apply pA | apply pN | apply pD | refine pS ?_ GE254.out | refine pS ?_ GE255.out | refine pS ?_ GE256.out) | exact HB.out)) hb); clear HO259; clear HO262; clear BK254; clear BK255; clear BK256; clear HB; have HO259 := n0_; have HO262 := n1_; have HO265 := n2_; have BK254 := n3_; have BK255 := n4_; have BK256 := n5_; have HB := n6_; clear n0_ n1_ n2_ n3_ n4_ n5_ n6_; (try clear hb); (try clear hb2); (try clear hk); (try clear hi); (try clear ho0); obtain ⟨Ao23, co23, eo23⟩ := Kd.R_slice HO265.out; subst eo23; obtain ⟨hcz24_0, hcz24_1, hcz24_2, hcz24_3, hcz24_4, hcz24_5⟩ := c6 BK256.out; obtain ⟨hfz24_0, hfz24_1, hfz24_2, hfz24_3, hfz24_4, hfz24_5⟩ := f6 BK256.out; obtain ⟨hcz25_0, hcz25_1, hcz25_2, hcz25_3, hcz25_4, hcz25_5⟩ := c6 BK254.out; obtain ⟨hfz25_0, hfz25_1, hfz25_2, hfz25_3, hfz25_4, hfz25_5⟩ := f6 BK254.out) | ((with_reducible refine gate_callee (f := 29) rfl ?_); refine goesL_ (some 24) rfl rfl Try.func29 (by kernel_rfl) rfl #[.slice A0_5 l0_5.length c0_5] rfl (by (try simp only [List.map_toArray, List.map_cons, List.map_nil]); first | done | rfl | (simp only [List.length_drop, List.length_take]; rfl)) ?_; (with_reducible refine (laws_toInt64SS.calls k _ _ l0_5 t266 _ ?side1 ?side2 A5.out).mono ?_); (case side1 => exact Kd.C_below HR0_5.out (by repeat (first | (with_reducible first | exact HB.out | apply pA | apply pN | apply pD | refine pS ?_ GE254.out | refine pS ?_ GE255.out | refine pS ?_ GE256.out) | exact HB.out))); (case side2 => exact HC0_5.out); rintro e w26 ⟨v267, rfl, ho0, hb⟩; refine ⟨_, rfl, ?_⟩; have n0_ := AZ.mk (Kd.R_below (by (with_reducible repeat (first | apply Kd.R_alloc | apply Kd.R_drewN | apply Kd.R_drew)); exact (Kd.R_mono (Kd.R_far (p := ⟨gb256, 4, none⟩) (Kd.R_types HO259.out BK256.out (by decide)) (fun _ hk => hk.2) (.slice Ao23 t263.length co23)) (fun _ h_ => h_.1))) hb); have n1_ := AZ.mk (Kd.S_below (by (with_reducible repeat (first | apply Kd.S_alloc | apply Kd.S_drewN | apply Kd.S_drew)); exact (Kd.S_mono (Kd.S_far (p := ⟨gb256, 4, none⟩) (Kd.S_types HO262.out BK256.out (by decide)) (fun _ hk => hk.2) (.slice Ao23 t263.length co23)) (fun _ h_ => h_.1))) hb); have n2_ := AZ.mk (Kd.R_elder' (by (with_reducible repeat (first | apply Kd.R_alloc | apply Kd.R_drewN | apply Kd.R_drew)); exact (Kd.R_mono (Kd.R_far (p := ⟨gb256, 4, none⟩) (Kd.R_types HO265.out BK256.out (by decide)) (fun _ hk => hk.2) (.slice Ao23 t263.length co23)) (fun _ h_ => h_.1))) (Kd.S_base ho0) hb); have n3_ := AZ.mk (Kd.S_lower ho0 (pZ (by repeat (first | (with_reducible first | exact HB.out | apply pA | apply pN | apply pD | refine pS ?_ GE254.out | refine pS ?_ GE255.out | refine pS ?_ GE256.out) | exact HB.out)))); have n4_ := AZ.mk (bb_ (g := gb254) (o := .cells #[.int .i64 a0_0, .int .i64 a0_1, .slice A0_2 l0_2.length c0_2, .slice A0_3 l0_3.length c0_3, .slice A0_4 l0_4.length c0_4, .slice A0_5 l0_5.length c0_5] 30 (0, 0)) (by (with_reducible repeat (first | refine bn_ ?_ _ | refine bd_ ?_ | refine ba_ ?_ _)); refine blk_far ?_ NB254_256.out _; (with_reducible repeat (first | refine bn_ ?_ _ | refine bd_ ?_ | refine ba_ ?_ _)); exact BK254.out) hb); have n5_ := AZ.mk (bb_ (g := gb255) (o := .cells #[.int .i64 0, .int .i64 0, .slice none 0 0, .slice none 0 0, .slice none 0 0, .slice none 0 0] 36 (0, 0)) (by (with_reducible repeat (first | refine bn_ ?_ _ | refine bd_ ?_ | refine ba_ ?_ _)); refine blk_far ?_ NB255_256.out _; (with_reducible repeat (first | refine bn_ ?_ _ | refine bd_ ?_ | refine ba_ ?_ _)); exact BK255.out) hb); have n6_ := AZ.mk (bb_ (g := gb256) (o := .cells #[.int .i64 a0_0, .int .i64 a0_1, .slice Ao15 t257.length co15, .slice Ao19 t260.length co19, .slice Ao23 t263.length co23, .slice none 0 0] 36 (0, 0)) (by (with_reducible repeat (first | refine bn_ ?_ _ | refine bd_ ?_ | refine ba_ ?_ _)); refine blk_put (cs := #[.int .i64 a0_0, .int .i64 a0_1, .slice Ao15 t257.length co15, .slice Ao19 t260.length co19, .slice none 0 0, .slice none 0 0]) ?_ 4 _ rfl; (with_reducible repeat (first | refine bn_ ?_ _ | refine bd_ ?_ | refine ba_ ?_ _)); exact BK256.out) hb); have n7_ := AZ.mk (pT (by repeat (first | (with_reducible first | exact HB.out | apply pA | apply pN | apply pD | refine pS ?_ GE254.out | refine pS ?_ GE255.out | refine pS ?_ GE256.out) | exact HB.out)) hb); clear HO259; clear HO262; clear HO265; clear BK254; clear BK255; clear BK256; clear HB; have HO259 := n0_; have HO262 := n1_; have HO265 := n2_; have HO268 := n3_; have BK254 := n4_; have BK255 := n5_; have BK256 := n6_; have HB := n7_; clear n0_ n1_ n2_ n3_ n4_ n5_ n6_ n7_; (try clear hb); (try clear hb2); (try clear hk); (try clear hi); (try clear ho0); obtain ⟨Ao27, co27, eo27⟩ := Kd.S_slice HO268.out; subst eo27; obtain ⟨hcz28_0, hcz28_1, hcz28_2, hcz28_3, hcz28_4, hcz28_5⟩ := c6 BK256.out; obtain ⟨hfz28_0, hfz28_1, hfz28_2, hfz28_3, hfz28_4, hfz28_5⟩ := f6 BK256.out; obtain ⟨hcz29_0, hcz29_1, hcz29_2, hcz29_3, hcz29_4, hcz29_5⟩ := c6 BK255.out; obtain ⟨hfz29_0, hfz29_1, hfz29_2, hfz29_3, hfz29_4, hfz29_5⟩ := f6 BK255.out))
 refine bodyPost_ret (results_cell_row rfl _ _ gb255 36 #[.int .i64 a0_0, .int .i64 a0_1, .slice Ao15 t257.length co15, .slice Ao19 t260.length co19, .slice Ao23 t263.length co23, .slice Ao27 t266.length co27] (0, 0) _ rfl (by (with_reducible repeat (first | refine bn_ ?_ _ | refine bd_ ?_ | refine ba_ ?_ _)); refine blk_put (cs := #[.int .i64 a0_0, .int .i64 a0_1, .slice Ao15 t257.length co15, .slice Ao19 t260.length co19, .slice Ao23 t263.length co23, .slice none 0 0]) ?_ 5 _ rfl; (with_reducible repeat (first | refine bn_ ?_ _ | refine bd_ ?_ | refine ba_ ?_ _)); refine blk_put (cs := #[.int .i64 a0_0, .int .i64 a0_1, .slice Ao15 t257.length co15, .slice Ao19 t260.length co19, .slice none 0 0, .slice none 0 0]) ?_ 4 _ rfl; (with_reducible repeat (first | refine bn_ ?_ _ | refine bd_ ?_ | refine ba_ ?_ _)); refine blk_put (cs := #[.int .i64 a0_0, .int .i64 a0_1, .slice Ao15 t257.length co15, .slice none 0 0, .slice none 0 0, .slice none 0 0]) ?_ 3 _ rfl; (with_reducible repeat (first | refine bn_ ?_ _ | refine bd_ ?_ | refine ba_ ?_ _)); refine blk_put (cs := #[.int .i64 a0_0, .int .i64 a0_1, .slice none 0 0, .slice none 0 0, .slice none 0 0, .slice none 0 0]) ?_ 2 _ rfl; (with_reducible repeat (first | refine bn_ ?_ _ | refine bd_ ?_ | refine ba_ ?_ _)); refine blk_put (cs := #[.int .i64 a0_0, .int .i64 0, .slice none 0 0, .slice none 0 0, .slice none 0 0, .slice none 0 0]) ?_ 1 _ rfl; (with_reducible repeat (first | refine bn_ ?_ _ | refine bd_ ?_ | refine ba_ ?_ _)); refine blk_put (cs := #[.int .i64 0, .int .i64 0, .slice none 0 0, .slice none 0 0, .slice none 0 0, .slice none 0 0]) ?_ 0 _ rfl; (with_reducible repeat (first | refine bn_ ?_ _ | refine bd_ ?_ | refine ba_ ?_ _)); refine blk_far ?_ NB255_256.out _; (with_reducible repeat (first | refine bn_ ?_ _ | refine bd_ ?_ | refine ba_ ?_ _)); exact BK255.out) Try.underlying36 rfl (by kernel_rfl)) rfl ?_
 exact ⟨_, _, _, _, by first | rfl | (simp [errW_none, errW_some] <;> rfl) | (simp [*, errW_none, errW_some] <;> rfl), by (with_reducible repeat (first | apply Kd.R_alloc | apply Kd.R_drewN | apply Kd.R_drew)); exact Kd.R_mono (Kd.R_far (p := ⟨gb255, 5, none⟩) (Kd.R_far (p := ⟨gb255, 4, none⟩) (Kd.R_far (p := ⟨gb255, 3, none⟩) (Kd.R_far (p := ⟨gb255, 2, none⟩) (Kd.R_far (p := ⟨gb255, 1, none⟩) (Kd.R_far (p := ⟨gb255, 0, none⟩) (Kd.R_far (p := ⟨gb256, 5, none⟩) (Kd.R_types (Kd.R_types HO259.out BK256.out (by decide)) BK255.out (by decide)) (fun _ hk => hk.1.2) (.slice Ao27 t266.length co27)) (fun _ hk => hk.2) (.int .i64 a0_0)) (fun _ hk => hk.2) (.int .i64 a0_1)) (fun _ hk => hk.2) (.slice Ao15 t257.length co15)) (fun _ hk => hk.2) (.slice Ao19 t260.length co19)) (fun _ hk => hk.2) (.slice Ao23 t263.length co23)) (fun _ hk => hk.2) (.slice Ao27 t266.length co27)) (fun _ hk => trivial), by (with_reducible repeat (first | apply Kd.S_alloc | apply Kd.S_drewN | apply Kd.S_drew)); exact Kd.S_mono (Kd.S_far (p := ⟨gb255, 5, none⟩) (Kd.S_far (p := ⟨gb255, 4, none⟩) (Kd.S_far (p := ⟨gb255, 3, none⟩) (Kd.S_far (p := ⟨gb255, 2, none⟩) (Kd.S_far (p := ⟨gb255, 1, none⟩) (Kd.S_far (p := ⟨gb255, 0, none⟩) (Kd.S_far (p := ⟨gb256, 5, none⟩) (Kd.S_types (Kd.S_types HO262.out BK256.out (by decide)) BK255.out (by decide)) (fun _ hk => hk.1.2) (.slice Ao27 t266.length co27)) (fun _ hk => hk.2) (.int .i64 a0_0)) (fun _ hk => hk.2) (.int .i64 a0_1)) (fun _ hk => hk.2) (.slice Ao15 t257.length co15)) (fun _ hk => hk.2) (.slice Ao19 t260.length co19)) (fun _ hk => hk.2) (.slice Ao23 t263.length co23)) (fun _ hk => hk.2) (.slice Ao27 t266.length co27)) (fun _ hk => trivial), by (with_reducible repeat (first | apply Kd.R_alloc | apply Kd.R_drewN | apply Kd.R_drew)); exact Kd.R_mono (Kd.R_far (p := ⟨gb255, 5, none⟩) (Kd.R_far (p := ⟨gb255, 4, none⟩) (Kd.R_far (p := ⟨gb255, 3, none⟩) (Kd.R_far (p := ⟨gb255, 2, none⟩) (Kd.R_far (p := ⟨gb255, 1, none⟩) (Kd.R_far (p := ⟨gb255, 0, none⟩) (Kd.R_far (p := ⟨gb256, 5, none⟩) (Kd.R_types (Kd.R_types HO265.out BK256.out (by decide)) BK255.out (by decide)) (fun _ hk => hk.1.2) (.slice Ao27 t266.length co27)) (fun _ hk => hk.2) (.int .i64 a0_0)) (fun _ hk => hk.2) (.int .i64 a0_1)) (fun _ hk => hk.2) (.slice Ao15 t257.length co15)) (fun _ hk => hk.2) (.slice Ao19 t260.length co19)) (fun _ hk => hk.2) (.slice Ao23 t263.length co23)) (fun _ hk => hk.2) (.slice Ao27 t266.length co27)) (fun _ hk => hk.1.1.2), by (with_reducible repeat (first | apply Kd.S_alloc | apply Kd.S_drewN | apply Kd.S_drew)); exact Kd.S_mono (Kd.S_far (p := ⟨gb255, 5, none⟩) (Kd.S_far (p := ⟨gb255, 4, none⟩) (Kd.S_far (p := ⟨gb255, 3, none⟩) (Kd.S_far (p := ⟨gb255, 2, none⟩) (Kd.S_far (p := ⟨gb255, 1, none⟩) (Kd.S_far (p := ⟨gb255, 0, none⟩) (Kd.S_far (p := ⟨gb256, 5, none⟩) (Kd.S_types (Kd.S_types HO268.out BK256.out (by decide)) BK255.out (by decide)) (fun _ hk => hk.1.2) (.slice Ao27 t266.length co27)) (fun _ hk => hk.2) (.int .i64 a0_0)) (fun _ hk => hk.2) (.int .i64 a0_1)) (fun _ hk => hk.2) (.slice Ao15 t257.length co15)) (fun _ hk => hk.2) (.slice Ao19 t260.length co19)) (fun _ hk => hk.2) (.slice Ao23 t263.length co23)) (fun _ hk => hk.2) (.slice Ao27 t266.length co27)) (fun _ hk => trivial), by repeat (first | (with_reducible first | exact HB.out | apply pA | apply pN | apply pD | refine pS ?_ GE254.out | refine pS ?_ GE255.out | refine pS ?_ GE256.out) | exact HB.out)⟩
end Go.Proofs.Ytlmkkmoammgjdaa.P
namespace Go.Proofs.Ytlmkkmoammgjdaa.P
open Go.RowKit Go.Proofs.YtlmkkmoammgjdaaW.PrintWords Go.Proofs.YtlmkkmoammgjdaaW.PrintLast Go.Proofs.YtlmkkmoammgjdaaW.PrintMore
attribute [local go_sem] max2_int min2_int max_two min_two max_three min_three max_four min_four
set_option linter.unusedVariables false
set_option linter.unusedSimpArgs false
def impl_within.f (a0 : Int) (a1 : Int) (a2 : Int) : Option (Bool) := if a0 ≥ a1 then (some (decide (a0 ≤ a2))) else (some false)
set_option maxHeartbeats 8000000 in
set_option maxRecDepth 100000 in
theorem impl_within.calls (a0 : Int) (a1 : Int) (a2 : Int) (r : Bool) (w : World) (h : impl_within.f a0 a1 a2 = some r) :
  Calls Try.prog 31 #[.int .i64 a0, .int .i64 a1, .int .i64 a2] w fun e w' => e = .returned (.bool r) ∧ Drawn0 w w' := by
 have H : (if a0 ≥ a1 then (some (decide (a0 ≤ a2))) else (some false)) = some r := h
 clear h
 by_cases c4 : a0 ≥ a1
 ·rw [if_pos c4] at H
  have c4b0 : decide (a1 ≤ a0) = true := decide_eq_true c4
  clear c4
  obtain rfl := Option.some.inj H
  go_enter Try.func31, Try.ntmps31
  go_wp2
  go_ret
  exact ⟨by first | rfl | (simp; done) | (simp [*]; done), by repeat (first | exact Drawn0.refl _ | apply Drawn0.step)⟩
 rw [if_neg c4] at H
 have c4b0 : decide (a1 ≤ a0) = false := decide_eq_false c4
 clear c4
 obtain rfl := Option.some.inj H
 go_enter Try.func31, Try.ntmps31
 go_wp2
 go_ret
 exact ⟨by first | rfl | (simp; done) | (simp [*]; done), by repeat (first | exact Drawn0.refl _ | apply Drawn0.step)⟩
end Go.Proofs.Ytlmkkmoammgjdaa.P
namespace Go.Proofs.Ytlmkkmoammgjdaa.P
open Go.RowKit Go.Proofs.YtlmkkmoammgjdaaW.PrintWords Go.Proofs.YtlmkkmoammgjdaaW.PrintLast Go.Proofs.YtlmkkmoammgjdaaW.PrintMore
attribute [local go_sem] max2_int min2_int max_two min_two max_three min_three max_four min_four
set_option linter.unusedVariables false
set_option linter.unusedSimpArgs false
set_option maxHeartbeats 1000000 in
set_option maxRecDepth 100000 in
theorem stringslite_IndexByte.any (s : ByteArray) (c : Int) (w : World) :
  Calls Try.prog 64 #[.string s, .int .u8 c] w fun e w' => e = .returned (.int .i64 (Lib.indexByte s.data.toList c.toNat.toUInt8)) ∧ w' = w := by
 go_enter Try.func64, Try.ntmps64
 go_wp2
 rw [run_callFunc_extern Try.func72 (by kernel_rfl) (by kernel_rfl) (by kernel_rfl) (e := Extern.BytealgIndexByte.indexByte) (by kernel_rfl), Lib.run_indexByteString]
 simp only [Result.andThen]
 rw [Oper.upon_value]
 go_wp2
 go_ret
 exact ⟨rfl, rfl⟩
def strings_IndexByte.f (a0 : ByteArray) (a1 : Int) : Option (Int) := some (Lib.indexByte a0.data.toList a1.toNat.toUInt8)
theorem strings_IndexByte.calls (a0 : ByteArray) (a1 : Int) (r : Int) (w : World) (h : strings_IndexByte.f a0 a1 = some r) :
  Calls Try.prog 39 #[.string a0, .int .u8 a1] w fun e w' => e = .returned (.int .i64 r) ∧ Drawn0 w w' := by
 obtain rfl := Option.some.inj h
 clear h
 go_enter Try.func39, Try.ntmps39
 go_wp2_with (go_at_call 64; refine (stringslite_IndexByte.any _ _ _).mono ?_; rintro e w' ⟨rfl, rfl⟩)
 go_ret
 exact ⟨rfl, by repeat (first | exact Drawn0.refl _ | apply Drawn0.step)⟩
end Go.Proofs.Ytlmkkmoammgjdaa.P
namespace Go.Proofs.Ytlmkkmoammgjdaa.P
open Go.RowKit Go.Proofs.YtlmkkmoammgjdaaW.PrintWords Go.Proofs.YtlmkkmoammgjdaaW.PrintLast Go.Proofs.YtlmkkmoammgjdaaW.PrintMore
set_option linter.unusedVariables false
set_option linter.unusedSimpArgs false
section
variable {P : Program} {ops : Array Oper} {o : Oper} {a : Act} {Q : Exit → Act → World → Prop} {Kc : Act → World → Prop} {α : Type}
theorem R_append_at (d : Kd α) {w0 W : World} (base : Nat) (hw : Region.wanted o (yielded ops a.tmps) = true) (s x : Operand) (t e : TypeId) (z : Value) (bytes : Nat)
  (ho : o.op = .call { callee := .builtin .append, args := #[s, x], argTypes := #[t, t] })
  (ht : P.underlying t = some (.slice e)) (hinfo : (P.info? e).map (fun i => (i.zero, i.size, i.bytes)) = some (some z, d.sz, bytes)) (hz : z.cells.size = d.sz) (hs0 : 0 < d.sz) (hb0 : 0 < bytes)
  (v : Value) (xs : List α) (p : α) (cs : List Value) (ok okp : Nat → Prop) (g : Nat) (hs : a.eval s = v) (hx : a.eval x = .slice (some ⟨g, 0, none⟩) 1 1) (hg : W.heap[g]? = some (.cells cs.toArray e (0, 0)))
  (hp : d.M W base okp p cs) (hokp : ∀ k, okp k → ok k ∧ some k ≠ v.ownBlock) (hfresh : ∀ k, W.heap.size ≤ k → ok k)
  (HO : d.R e W base ok v xs) (HB : Below base w0 W) (hbase : base ≤ W.heap.size) (hl : (xs.length + 1) * bytes ≤ 140737488355328)
  (h : ∀ v1 w1, d.R e w1 base ok v1 (xs ++ [p]) → Below base w0 w1 → W.grownBy w1 v.ownBlock → (v1.ownBlock = v.ownBlock ∨ ∃ b, v1.ownBlock = some b ∧ W.heap.size ≤ b) → Kc (a.put o.dst v1) w1) :
  if Region.wanted o (yielded ops a.tmps) = true then Oper.wp P o a W Kc Q else Kc (a.put o.dst undef) W := by
 obtain ⟨h0, inner, hown, hr⟩ := HO
 obtain ⟨i0, hi, hzz⟩ := Option.map_eq_some_iff.1 hinfo
 simp only [Prod.mk.injEq] at hzz
 obtain ⟨hz0, hz1, hz2⟩ := hzz
 have hlen : xs.length + 1 ≤ 140737488355328 := Nat.le_trans (Nat.le_mul_of_pos_right _ hb0) hl
 have hys : cs.length = d.sz := d.K_len (d.K_of_M hp)
 rw [if_pos hw]
 obtain ⟨v1, w1, hrun, hown1, hg1, _, hat⟩ := run_append_own_at (P := P) W base t o.type e i0 z d.sz bytes ht hi hz0 hz1 hz2 hz hs0 v xs.length inner hown ⟨g, 0, none⟩ 1 1 cs (by rw [hys]; simp)
  (by simpa using World.news_of_block (cs := cs.toArray) (t := e) (fr := (0, 0)) hg) (d.K_one (d.K_of_M hp)) (by simp only [maxLen]; omega) hl hbase
 unfold Oper.wp execOp
 simp only [ho, resolve, invoke, builtin, Sem.run_bind, Sem.run_pure, Result.andThen_ok, List.map_toArray, List.map_cons, List.map_nil, hs, hx, hrun]
 have hat1 : v1.ownBlock = v.ownBlock ∨ ∃ b, v1.ownBlock = some b ∧ W.heap.size ≤ b := by
  rcases hat with hat | hat
  ·exact .inl hat
  ·exact .inr ⟨_, hat, Nat.le_refl _⟩
 exact h v1 w1 (Kd.R_appended h0 hr hp hokp hfresh hown1 hg1 hat1) (HB.grown hg1 hbase (own_base hown)) hg1 hat1
end
def impl_isCall.f (a0 : Int) : Option (Bool) := if a0 = 40 then (some true) else (some (a0 == 91))
set_option maxHeartbeats 8000000 in
set_option maxRecDepth 100000 in
theorem impl_isCall.calls (a0 : Int) (r : Bool) (w : World) (h : impl_isCall.f a0 = some r) :
  Calls Try.prog 59 #[.int .u8 a0] w fun e w' => e = .returned (.bool r) ∧ Drawn0 w w' := by
 have H : (if a0 = 40 then (some true) else (some (a0 == 91))) = some r := h
 clear h
 by_cases c2 : a0 = 40
 rotate_left
 ·rw [if_neg c2] at H
  have c2b0 : (a0 == 40) = false := beq_eq_false_iff_ne.mpr c2
  have c2b1 : (a0 != 40) = true := bne_iff_ne.mpr c2
  obtain rfl := Option.some.inj H
  go_enter Try.func59, Try.ntmps59
  go_wp2
  go_ret
  exact ⟨by first | rfl | (simp; done) | (simp [*]; done), by repeat (first | exact Drawn0.refl _ | apply Drawn0.step)⟩
 rw [if_pos c2] at H
 have c2b0 : (a0 == 40) = true := beq_iff_eq.mpr c2
 have c2b1 : (a0 != 40) = false := bne_eq_false_iff_eq.mpr c2
 clear c2
 obtain rfl := Option.some.inj H
 go_enter Try.func59, Try.ntmps59
 go_wp2
 go_ret
 exact ⟨by first | rfl | (simp; done) | (simp [*]; done), by repeat (first | exact Drawn0.refl _ | apply Drawn0.step)⟩
def impl_isInner.f (a0 : Int) : Option (Bool) := if a0 = 97 then (some true) else (some (a0 == 98))
set_option maxHeartbeats 8000000 in
set_option maxRecDepth 100000 in
theorem impl_isInner.calls (a0 : Int) (r : Bool) (w : World) (h : impl_isInner.f a0 = some r) :
  Calls Try.prog 61 #[.int .u8 a0] w fun e w' => e = .returned (.bool r) ∧ Drawn0 w w' := by
 have H : (if a0 = 97 then (some true) else (some (a0 == 98))) = some r := h
 clear h
 by_cases c2 : a0 = 97
 rotate_left
 ·rw [if_neg c2] at H
  have c2b0 : (a0 == 97) = false := beq_eq_false_iff_ne.mpr c2
  have c2b1 : (a0 != 97) = true := bne_iff_ne.mpr c2
  obtain rfl := Option.some.inj H
  go_enter Try.func61, Try.ntmps61
  go_wp2
  go_ret
  exact ⟨by first | rfl | (simp; done) | (simp [*]; done), by repeat (first | exact Drawn0.refl _ | apply Drawn0.step)⟩
 rw [if_pos c2] at H
 have c2b0 : (a0 == 97) = true := beq_iff_eq.mpr c2
 have c2b1 : (a0 != 97) = false := bne_eq_false_iff_eq.mpr c2
 clear c2
 obtain rfl := Option.some.inj H
 go_enter Try.func61, Try.ntmps61
 go_wp2
 go_ret
 exact ⟨by first | rfl | (simp; done) | (simp [*]; done), by repeat (first | exact Drawn0.refl _ | apply Drawn0.step)⟩
def impl_kindOf.f (a0 : Int) : Option (Int) := (strings_IndexByte.f (⟨#[40, 91, 41, 93, 97, 98]⟩ : ByteArray) a0).bind fun t517 => (some (Int.tmod t517 2))
set_option maxHeartbeats 8000000 in
set_option maxRecDepth 100000 in
theorem impl_kindOf.calls (a0 : Int) (r : Int) (w : World) (h : impl_kindOf.f a0 = some r) :
  Calls Try.prog 58 #[.int .u8 a0] w fun e w' => e = .returned (.int .i64 r) ∧ Drawn0 w w' := by
 obtain ⟨t517, A20, H⟩ := Option.bind_eq_some_iff.mp h
 clear h
 have A2 := AZ.mk A20
 clear A20
 obtain rfl := Option.some.inj H
 go_enter Try.func58, Try.ntmps58
 go_wp2_with (first | ((with_reducible refine gate_callee (f := 39) rfl ?_); refine goesL_ (some 4) rfl rfl Try.func39 (by kernel_rfl) rfl #[.string (⟨#[40, 91, 41, 93, 97, 98]⟩ : ByteArray), .int .u8 a0] rfl (by (try simp only [List.map_toArray, List.map_cons, List.map_nil]); first | done | rfl | (simp only [List.length_drop, List.length_take]; rfl)) ?_; (with_reducible refine (strings_IndexByte.calls (⟨#[40, 91, 41, 93, 97, 98]⟩ : ByteArray) a0 t517 _ A2.out).mono ?_); rintro e w' ⟨rfl, ⟨nd, rfl⟩⟩; refine ⟨_, rfl, ?_⟩))
 go_ret
 exact ⟨by first | rfl | (simp; done) | (simp [*]; done), by repeat (first | exact Drawn0.refl _ | apply Drawn0.step)⟩
set_option maxHeartbeats 8000000 in
set_option maxRecDepth 100000 in
theorem clone_calls (A : Option Addr) (c : Nat) (l : List Int) (w : World) (hr : (Kd.int .i64).C w A l.length l) (hl : l.length ≤ 1000) :
  Calls Try.prog 60 #[.slice A l.length c] w fun e w' => ∃ v : Value, e = .returned v ∧ (Kd.int .i64).R 2 w' w.heap.size (fun _ => True) v l ∧ Below w.heap.size w w' := by
 have hu := Try.underlying60
 have hq : ∀ (w : World) (a : Option Addr) (n c n' c' : Nat), (binOp .eql 60 (.slice a n c) (.slice none n' c')).run Try.prog w = .ok (.bool a.isNone) w := fun w a n c n' c' => Lib.run_eql_slice_nil w _ _ a n c n' c' hu
 have HR := AZ.mk hr
 have HL := AZ.mk hl
 have HB := AZ.mk (Below.refl w.heap.size w)
 rcases A with _ | ad
 ·have h0 : l = [] := by
   by_cases h1 : 0 < l.length
   ·obtain ⟨ad, h, _⟩ := hr.2.2 h1
    cases h
   ·exact List.length_eq_zero_iff.1 (by omega)
  clear hr hl
  go_enter Try.func60, Try.ntmps60
  go_wp2
  go_ret
  exact ⟨_, rfl, by rw [h0]; exact Kd.R_nil _ _ _ _ _, HB.out⟩
 ·clear hr hl
  go_enter Try.func60, Try.ntmps60
  go_wp2_with (first | ((with_reducible refine gate_dst (N := 5) rfl ?_); refine Kd.R_lit (Kd.int .i64) _ 2 ?hg (N := 5) ?hd (xs := ([] : List Int)) (inner := []) (ok := fun _ => True) (okp := fun _ => True) ?hr ?hp (fun _ hk => hk) trivial (Below.refl _ _) (Nat.le_refl _) (by simp) ?_; (case hd => rfl); (case hg => rfl); (case hr => first | (go_simp; done) | (go_simp; rfl)); (case hp => exact (Reps.none _ _)); intro v5 w5 ho5 hb5 hg_ hnew_; clear hg_ hnew_; have HO5 := AZ.mk (Kd.R_lower ho5 (pZ HB.out)); have n0_ := AZ.mk (pT HB.out hb5); clear HB ho5 hb5; have HB := n0_; clear n0_) | ((with_reducible refine gate_dst (N := 7) rfl ?_); refine Kd.R_append_rows (Kd.int .i64) (w0 := w) w.heap.size rfl (.tmp 5) (.tmp 6) 60 2 (.int .i64 0) 8 rfl Try.underlying60 info2 rfl (by decide) (by decide) _ ([] : List Int) l _ _ _ (fun _ => True) (fun _ => False) rfl rfl HO5.out (Kd.C_below HR.out HB.out) (fun _ _ h => h) (fun _ h => h.elim) (fun _ _ => trivial) HB.out (pZ HB.out) (by have := HL.out; simp; omega) ?_; intro v7 w7 ho hb hg hat; have HO7 := AZ.mk ho; have n0_ := AZ.mk hb; clear HB HO5 ho hb hg hat; have HB := n0_; clear n0_))
  go_ret
  exact ⟨_, rfl, HO7.out, HB.out⟩
structure Ck (a0 : Int) (l2 : List Bool) (l3 : List (List S92)) (l4 : List (List (List Int))) (l5 : List (List Int)) : Prop where
 a : 1 ≤ a0 ∧ a0 ≤ 80
 n3 : l3.length = l2.length
 n4 : l4.length = l2.length
 n5 : l5.length = l2.length
 r3 : ∀ s : Nat, s < l2.length → (rd_L9 l3 (s : Int)).length = 2
 r4 : ∀ s : Nat, s < l2.length → (rd_L7 l4 (s : Int)).length = 2
 r5 : ∀ s : Nat, s < l2.length → (rd_L6 l5 (s : Int)).length = 2
 r6 : ∀ s q : Nat, s < l2.length → q < 2 → ((rd_L6 (rd_L7 l4 (s : Int)) (q : Int)).length : Int) = a0 + 1
 v3 : ∀ s q : Nat, s < l2.length → q < 2 → (∃ t : Nat, (rd_T92 (rd_L9 l3 (s : Int)) (q : Int)).f0 = (t : Int) ∧ t < l2.length) ∧ 0 ≤ (rd_T92 (rd_L9 l3 (s : Int)) (q : Int)).f1 ∧ (rd_T92 (rd_L9 l3 (s : Int)) (q : Int)).f1 < a0
 v4 : ∀ s q z : Nat, s < l2.length → q < 2 → (z : Int) ≤ a0 → ∃ t : Nat, rd (rd_L6 (rd_L7 l4 (s : Int)) (q : Int)) (z : Int) = (t : Int) ∧ t < l2.length
 v5 : ∀ s q : Nat, s < l2.length → q < 2 → ∃ t : Nat, rd (rd_L6 l5 (s : Int)) (q : Int) = (t : Int) ∧ t < l2.length
structure RdC (A2 : Option Addr) (l2 : List Bool) (A3 : Option Addr) (l3 : List (List S92)) (A4 : Option Addr) (l4 : List (List (List Int))) (A5 : Option Addr) (l5 : List (List Int)) (w : World) : Prop where
 c2 : Kd.C Kd.bool w A2 l2.length l2
 c3 : Kd.C (Kd.slice 92 k92) w A3 l3.length l3
 c4 : Kd.C (Kd.slice 60 (Kd.slice 2 (Kd.int .i64))) w A4 l4.length l4
 c5 : Kd.C (Kd.slice 2 (Kd.int .i64)) w A5 l5.length l5
theorem RdC.below {A2 : Option Addr} {l2 : List Bool} {A3 : Option Addr} {l3 : List (List S92)} {A4 : Option Addr} {l4 : List (List (List Int))} {A5 : Option Addr} {l5 : List (List Int)} {w w' : World} (h : RdC A2 l2 A3 l3 A4 l4 A5 l5 w) (hb : Below w.heap.size w w') : RdC A2 l2 A3 l3 A4 l4 A5 l5 w' := ⟨Kd.C_below h.c2 hb, Kd.C_below h.c3 hb, Kd.C_below h.c4 hb, Kd.C_below h.c5 hb⟩
theorem sym_kind (i q : Nat) (hi : i < 6) (hq : q < 2) (h : i = q ∨ i = q + 2 ∨ i = q + 4) : impl_kindOf.f (bt (⟨#[40, 91, 41, 93, 97, 98]⟩ : ByteArray) (i : Int)) = some (q : Int) := by
 have : (i = 0 ∨ i = 1 ∨ i = 2 ∨ i = 3 ∨ i = 4 ∨ i = 5) := by omega
 rcases this with rfl | rfl | rfl | rfl | rfl | rfl
 ·obtain rfl : q = 0 := by omega
  rfl
 ·obtain rfl : q = 1 := by omega
  rfl
 ·obtain rfl : q = 0 := by omega
  rfl
 ·obtain rfl : q = 1 := by omega
  rfl
 ·obtain rfl : q = 0 := by omega
  rfl
 ·obtain rfl : q = 1 := by omega
  rfl
theorem sym_call (i : Nat) (hi : i < 6) (b : Bool) (hb : b = decide (i < 2)) : impl_isCall.f (bt (⟨#[40, 91, 41, 93, 97, 98]⟩ : ByteArray) (i : Int)) = some b := by
 have : (i = 0 ∨ i = 1 ∨ i = 2 ∨ i = 3 ∨ i = 4 ∨ i = 5) := by omega
 subst hb
 rcases this with rfl | rfl | rfl | rfl | rfl | rfl <;> rfl
theorem sym_inner (i : Nat) (hi : i < 6) (b : Bool) (hb : b = decide (4 ≤ i)) : impl_isInner.f (bt (⟨#[40, 91, 41, 93, 97, 98]⟩ : ByteArray) (i : Int)) = some b := by
 have : (i = 0 ∨ i = 1 ∨ i = 2 ∨ i = 3 ∨ i = 4 ∨ i = 5) := by omega
 subst hb
 rcases this with rfl | rfl | rfl | rfl | rfl | rfl <;> rfl
theorem two_one (x y : Int) : (#[.int .i64 x, .int .i64 y] : Array Value).all (·.oneCell') = true := by
 simp [Value.oneCell']
theorem size92 : (Try.prog.info? 92).map (·.size) = some 2 := by kernel_rfl
theorem store92 {ops : Array Oper} {rest : List Oper} {o : Oper} {a : Act} {Q : Exit → Act → World → Prop} {W : World} (hgd : o.guard = none) (p v : Tmp) (ho : o.op = .store 92 (.tmp p) (.tmp v)) {g : Nat} {old cs : Array Value} (hx : a.eval (.tmp p) = .pointer (some ⟨g, 0, none⟩)) (hy : a.eval (.tmp v) = .agg cs) (hb : W.heap[g]? = some (.cells old 92 (0, 0)))
  (hs : cs.size = 2) (hs0 : old.size = 2) (h1 : cs.all (·.oneCell') = true)
  (h : ∀ w', w'.heap[g]? = some (.cells cs 92 (0, 0)) → (∀ B w0, Below B w0 W → B ≤ g → Below B w0 w') → (∀ k, k ≠ g → w'.heap[k]? = W.heap[k]?) → wpList Try.prog ops Q rest (a.put o.dst undef) w') : wpList Try.prog ops Q (o :: rest) a W := by
 refine wpList_plain hgd fun K hK => wp_store_row 92 _ _ ho g cs hx hy 92 old hb (by rw [size92, hs]) (by omega) h1 ?_
 exact hK _ _ (h _ (setRow_heap _ _ _ _ _ _ hb) (fun B w0 hB hle => hB.trans ⟨rfl, rfl, rfl, by simp, fun k hk => setRow_other _ _ _ _ (by omega)⟩) (fun k hk => setRow_other _ _ _ _ hk))
def step.T4 : Bool × List (List Nat × List Nat) := (true, [([], []), ([0], [0]), ([], []), ([2], [2]), ([], []), ([4], [4]), ([5], [5]), ([3, 6, 3], [3, 6]), ([1, 7, 0, 1], [1]), ([7, 8, 0, 1, 2, 3, 4, 5, 6, 7, 8], [7])])
def step.B4 : List Nat := [0, 1, 0, 4, 0, 16, 48, 124, 255, 511]
theorem step.tab4 : rtab .any (opsOf Try.f33 4) = step.T4 := by kernel_rfl
theorem step.bits4 : waitsOk step.T4.2 step.B4 = true := by kernel_rfl
set_option maxHeartbeats 8000000 in
set_option maxRecDepth 100000 in
theorem step_call (a0 a1 : Int) (A2 : Option Addr) (c2 : Nat) (l2 : List Bool) (A3 : Option Addr) (c3 : Nat) (l3 : List (List S92)) (A4 : Option Addr) (c4 : Nat) (l4 : List (List (List Int))) (A5 : Option Addr) (c5 : Nat) (l5 : List (List Int)) (w : World) (hR : RdC A2 l2 A3 l3 A4 l4 A5 l5 w) (ck : Ck a0 l2 l3 l4 l5) (s : Nat) (hs : s < l2.length) (A : Option Addr) (c : Nat) (st : List Int) (hst : (Kd.int .i64).C w A st.length st) (hc : st.length ≤ c) (hsl : st.length ≤ 500) (i : Nat) (hi : i < 2) :
  Calls Try.prog 33 #[.agg #[.int .i64 a0, .int .i64 a1, .slice A2 l2.length c2, .slice A3 l3.length c3, .slice A4 l4.length c4, .slice A5 l5.length c5], .int .i64 (s : Int), .slice A st.length c, .int .u8 (bt (⟨#[40, 91, 41, 93, 97, 98]⟩ : ByteArray) (i : Int))] w fun e w' => ∃ (A' : Option Addr) (c' : Nat), e = .returned (.tuple #[.int .i64 (rd_T92 (rd_L9 l3 (s : Int)) (i : Int)).f0, .slice A' (st ++ [(rd_T92 (rd_L9 l3 (s : Int)) (i : Int)).f1]).length c']) ∧ (st ++ [(rd_T92 (rd_L9 l3 (s : Int)) (i : Int)).f1]).length ≤ c' ∧ (Kd.int .i64).C w' A' (st ++ [(rd_T92 (rd_L9 l3 (s : Int)) (i : Int)).f1]).length (st ++ [(rd_T92 (rd_L9 l3 (s : Int)) (i : Int)).f1]) ∧ Below w.heap.size w w' := by
 have hu36 := Try.underlying36
 have hu92 := Try.underlying92
 have HR := AZ.mk hR
 have HS := AZ.mk hst
 have HC := AZ.mk hc
 have HB := AZ.mk (Below.refl w.heap.size w)
 have HSL := AZ.mk (show st.length ≤ 1000 by omega)
 have HK := AZ.mk (sym_kind i i (by omega) hi (by omega))
 have HI := AZ.mk (sym_call i (by omega) true (by rw [decide_eq_true hi]))
 obtain ⟨ad, B, d, rfl, hx, -, hr9⟩ := at_L9 hR.c3 (s : Int) (by omega) (by have := ck.n3; omega)
 have l9 := ck.r3 s hs
 obtain ⟨ae, rfl, hp0, hp1⟩ := at_T92 hr9 (i : Int) (by omega) (by omega)
 rw [l9] at hx
 simp only [Int.toNat_natCast] at hx hp0 hp1
 obtain ⟨f0, e0⟩ : ∃ f, f = (rd_T92 (rd_L9 l3 (s : Int)) (i : Int)).f0 := ⟨_, rfl⟩
 obtain ⟨f1, e1⟩ : ∃ f, f = (rd_T92 (rd_L9 l3 (s : Int)) (i : Int)).f1 := ⟨_, rfl⟩
 rw [← e0] at hp0
 rw [← e1] at hp1
 obtain ⟨st2, e2⟩ : ∃ l, l = st ++ [f1] := ⟨_, rfl⟩
 rw [← e0, ← e1, ← e2]
 have E2 := AZ.mk e2
 have p1 := eq_true (show 0 ≤ (s : Int) by omega)
 have q1 := eq_true (show (s : Int) < (l3.length : Int) by have := ck.n3; omega)
 have q1n := eq_true (show s < l3.length by have := ck.n3; omega)
 have p2 := eq_true (show 0 ≤ (i : Int) by omega)
 have q2 := eq_true (show (i : Int) < 2 by omega)
 have q2n := eq_true hi
 clear hR ck hst hc hsl hr9 l9 e0 e1 e2 hs hi
 go_enter Try.func33, Try.ntmps33
 go_wp2_with (first | ((with_reducible refine gate_dst (N := 4) rfl ?_); refine box_event ?hg (N := 4) ?hd (cs := #[.int .i64 a0, .int .i64 a1, .slice A2 l2.length c2, .slice (some ad) l3.length c3, .slice A4 l4.length c4, .slice A5 l5.length c5]) (t := 36) ?hr ?_; (case hd => rfl); (case hg => rfl); (case hr => first | (go_simp; done) | (go_simp; rfl)); intro gC hg WgC hbx hb; have BC := AZ.mk hbx; have n0_ := AZ.mk (pT HB.out hb); clear HB; have HB := n0_; clear n0_; clear hb hbx hg; have hz0 := (bc BC.out 0).trans rfl; have hz1 := (bc BC.out 1).trans rfl; have hz2 := (bc BC.out 2).trans rfl; have hz3 := (bc BC.out 3).trans rfl; have hz4 := (bc BC.out 4).trans rfl; have hz5 := (bc BC.out 5).trans rfl) | ((with_reducible refine gate_callee (f := 58) rfl ?_); (try (refine gate_guard (by rfl) ?_; dsimp only)); refine goesL_ (some 15) rfl rfl Try.func58 (by kernel_rfl) rfl #[.int .u8 (bt (⟨#[40, 91, 41, 93, 97, 98]⟩ : ByteArray) (i : Int))] rfl (by (try simp only [List.map_toArray, List.map_cons, List.map_nil]); first | done | rfl) ?_; refine (impl_kindOf.calls (bt (⟨#[40, 91, 41, 93, 97, 98]⟩ : ByteArray) (i : Int)) (i : Int) _ HK.out).mono ?_; rintro e w15 ⟨rfl, hd⟩; refine ⟨_, rfl, ?_⟩; have hb := hd.below; have n0_ := AZ.mk (pT HB.out hb); have n1_ := AZ.mk (bb_ BC.out hb); clear HB BC; have HB := n0_; have BC := n1_; clear n0_ n1_; clear hb hd hz0 hz1 hz2 hz3 hz4 hz5; have hz0 := (bc BC.out 0).trans rfl; have hz1 := (bc BC.out 1).trans rfl; have hz2 := (bc BC.out 2).trans rfl; have hz3 := (bc BC.out 3).trans rfl; have hz4 := (bc BC.out 4).trans rfl; have hz5 := (bc BC.out 5).trans rfl) | ((with_reducible refine gate_callee (f := 59) rfl ?_); (try (refine gate_guard (by rfl) ?_; dsimp only)); refine goesL_ (some 18) rfl rfl Try.func59 (by kernel_rfl) rfl #[.int .u8 (bt (⟨#[40, 91, 41, 93, 97, 98]⟩ : ByteArray) (i : Int))] rfl (by (try simp only [List.map_toArray, List.map_cons, List.map_nil]); first | done | rfl) ?_; refine (impl_isCall.calls (bt (⟨#[40, 91, 41, 93, 97, 98]⟩ : ByteArray) (i : Int)) true _ HI.out).mono ?_; rintro e w18 ⟨rfl, hd⟩; refine ⟨_, rfl, ?_⟩; have hb := hd.below; have n0_ := AZ.mk (pT HB.out hb); have n1_ := AZ.mk (bb_ BC.out hb); clear HB BC; have HB := n0_; have BC := n1_; clear n0_ n1_; clear hb hd hz0 hz1 hz2 hz3 hz4 hz5; have hz0 := (bc BC.out 0).trans rfl; have hz1 := (bc BC.out 1).trans rfl; have hz2 := (bc BC.out 2).trans rfl; have hz3 := (bc BC.out 3).trans rfl; have hz4 := (bc BC.out 4).trans rfl; have hz5 := (bc BC.out 5).trans rfl; replace hx := (HB.out.cell (World.block_lt_of_cell? w _ hx)).trans hx; replace hp0 := (HB.out.cell (World.block_lt_of_cell? w _ hp0)).trans hp0; replace hp1 := (HB.out.cell (World.block_lt_of_cell? w _ hp1)).trans hp1) | ((with_reducible refine gate_dst (N := 11) rfl ?_); refine box_event ?hg (N := 11) ?hd (cs := #[.int .i64 0, .int .i64 0]) (t := 92) ?hr ?_; (case hd => rfl); (case hg => rfl); (case hr => first | (go_simp; done) | (go_simp; rfl)); intro gP hg WgP hbx hb; have BP0 := AZ.mk hbx; have GP := AZ.mk (show w.heap.size ≤ gP by rw [hg]; exact pZ HB.out); have n0_ := AZ.mk (pT HB.out hb); clear HB; have HB := n0_; clear n0_; clear hb hbx hg hz0 hz1 hz2 hz3 hz4 hz5 hx hp0 hp1 BC) | ((with_reducible refine gate_ (.store 92 (.tmp 11) (.tmp 26)) rfl ?_); refine store92 rfl 11 26 rfl (g := gP) (old := #[.int .i64 0, .int .i64 0]) (cs := #[.int .i64 f0, .int .i64 f1]) rfl rfl BP0.out rfl rfl (two_one f0 f1) ?_; intro w9 hbx hB hfar; have BP := AZ.mk hbx; have n0_ := AZ.mk (hB _ _ HB.out GP.out); clear HB BP0 hbx hB hfar; have HB := n0_; clear n0_))
 refine start_ (n := 10) (S := fun w' => True) (ds := []) (bz 10 0) (by kernel_rfl) rfl rfl trivial (fun hHeld => ?_)
 refine with_tabW step.tab4 step.bits4 (fun HT_ HW_ => ?_)
 have n0_ := AZ.mk (pD HB.out)
 have n1_ := AZ.mk (bd_ BP.out)
 clear HB BP
 have HB := n0_
 have BP := n1_
 clear n0_ n1_
 generalize World.drew _ = wD at HB BP hHeld ⊢
 refine pure_ (i := 0) (N := some 27) (v := ?_) (a' := ?_) (bz 10 1) rfl rfl (any_of HT_.out (by kernel_rfl)) (fun _ _ _ h => h) (Or.inl ⟨by rfl, ?_⟩) ?_ ?_
 rotate_left
 ·intro w'
  go_simp
  with_reducible rfl
 rotate_left
 ·simp only [Act.put, sA, sB, sC, i64_w, i32_w]
  rfl
 refine pure_ (i := 2) (N := some 29) (v := ?_) (a' := ?_) (bz 10 5) rfl rfl (any_of HT_.out (by kernel_rfl)) (fun _ _ _ h => h) (Or.inl ⟨by rfl, ?_⟩) ?_ ?_
 rotate_left
 ·intro w'
  go_simp
  with_reducible rfl
 rotate_left
 ·simp only [Act.put, sA, sB, sC, i64_w, i32_w]
  rfl
 refine pure_ (i := 4) (N := some 31) (v := ?_) (a' := ?_) (bz 10 21) rfl rfl (any_of HT_.out (by kernel_rfl)) (fun _ _ _ h => h) (Or.inl ⟨by rfl, ?_⟩) ?_ ?_
 rotate_left
 ·intro w'
  go_simp
  with_reducible rfl
 rotate_left
 ·simp only [Act.put, sA, sB, sC, i64_w, i32_w]
  rfl
 refine inv_at [1, 3, 5, 6, 7, 8, 9] (fun a0_ b a w' => ∃ (v3 : Value) (b6 : Value) (s7 : Value) (m9_ : Value), a = putSel a0_ b [(1, 28, .int .i64 f0), (3, 30, v3), (5, 32, .int .i64 f1), (6, 33, b6), (7, 34, s7), (8, 8, .int .i64 f0), (9, 9, m9_)] ∧ (Below w.heap.size w w') ∧ (w'.heap[gP]? = some (.cells #[.int .i64 f0, .int .i64 f1] 92 (0, 0))) ∧ (b 3 = true → b 7 = false → Kd.R (Kd.int .i64) 2 w' w.heap.size (fun _ => True) v3 st) ∧ (b 7 = true → Kd.R (Kd.int .i64) 2 w' w.heap.size (fun _ => True) s7 (st ++ [f1])) ∧ (b 6 = true → b 7 = false → ∃ g_ : Nat, b6 = .slice (some ⟨g_, 0, none⟩) 1 1 ∧ w'.heap[g_]? = some (.cells [Value.int .i64 f1].toArray 2 (0, 0))) ∧ (b 9 = true → (m9_ : Value) = s7)) HT_.out HW_.out (by kernel_rfl) (by kernel_rfl) ?_ ?_ ?_
 ·exact ⟨.bool false, .bool false, .bool false, .bool false, by simp only [putSel, Bool.false_eq_true, if_false], HB.out, BP.out, fun h_ => absurd h_ (by decide), fun h_ => absurd h_ (by decide), fun h_ => absurd h_ (by decide), fun h_ => absurd h_ (by decide)⟩
 ·skip
  clear BP HB
  refine steps_cons ?_ ?_
  ·rintro b a w' ⟨v3, b6, s7, m9_, ha, Q_HB, Q_BP, Q_HO, Q_HP, Q_BK, Q_X9_⟩ hb_ hon hoff
   refine ⟨_, rfl, fun K hK => ?_⟩
   have e27 : a.tmps[27]? = some (.pointer (some ⟨gP, 0, none⟩)) := by rw [ha]; exact (putSel_off rfl).trans rfl
   replace ha := AZ.mk ha
   have HB := AZ.mk Q_HB
   have BP := AZ.mk Q_BP
   have hc_ : w'.cell? ⟨gP, 0, none⟩ = some (.int .i64 f0) := (bc BP.out 0).trans rfl
   refine value_ (w1 := w') (v := .int .i64 f0) (by rfl) rfl ?_ ?_
   ·go_simp
    (try simp only [i64_w])
    try rfl
   refine hK.out _ _ ⟨v3, b6, s7, m9_, (by rw [ha.out]; exact putSel_upk 0 hb_ rfl rfl rfl), Q_HB, Q_BP, Q_HO, Q_HP, Q_BK, fun h0_ => absurd ((hoff 9 (by kernel_rfl)).symm.trans h0_) (by decide)⟩
  refine steps_cons ?_ ?_
  ·rintro b a w' ⟨v3, b6, s7, m9_, ha, Q_HB, Q_BP, Q_HO, Q_HP, Q_BK, Q_X9_⟩ hb_ hon hoff
   refine ⟨_, rfl, fun K hK => ?_⟩
   have e29 : a.tmps[29]? = some (.slice A st.length c) := by rw [ha]; exact (putSel_off rfl).trans rfl
   replace ha := AZ.mk ha
   have HB := AZ.mk Q_HB
   have BP := AZ.mk Q_BP
   refine goes_ Try.func60 (by kernel_rfl) rfl #[.slice A st.length c] (by rfl) rfl rfl (by simp only [List.map_toArray, List.map_cons, List.map_nil, eval_of e29]) ?_
   refine (clone_calls A c st _ (Kd.C_below HS.out HB.out) HSL.out).mono ?_
   rintro e w_ ⟨v_, rfl, hr_, hb⟩
   refine ⟨_, rfl, ?_⟩
   refine hK.out _ _ ⟨v_, b6, s7, m9_, (by rw [ha.out]; exact putSel_upk 1 hb_ rfl rfl rfl), pT HB.out hb, bb_ BP.out hb, fun _ _ => (Kd.R_lower hr_ (pZ HB.out)), fun h0_ => absurd ((hoff 7 (by kernel_rfl)).symm.trans h0_) (by decide), fun h0_ h1_ => (by obtain ⟨g_, hb_, hg_⟩ := (Q_BK h0_ h1_); exact ⟨g_, hb_, bb_ hg_ hb⟩), fun h0_ => absurd ((hoff 9 (by kernel_rfl)).symm.trans h0_) (by decide)⟩
  refine steps_cons ?_ ?_
  ·rintro b a w' ⟨v3, b6, s7, m9_, ha, Q_HB, Q_BP, Q_HO, Q_HP, Q_BK, Q_X9_⟩ hb_ hon hoff
   refine ⟨_, rfl, fun K hK => ?_⟩
   have e31 : a.tmps[31]? = some (.pointer (some ⟨gP, 1, none⟩)) := by rw [ha]; exact (putSel_off rfl).trans rfl
   replace ha := AZ.mk ha
   have HB := AZ.mk Q_HB
   have BP := AZ.mk Q_BP
   have hc_ : w'.cell? ⟨gP, 1, none⟩ = some (.int .i64 f1) := (bc BP.out 1).trans rfl
   refine value_ (w1 := w') (v := .int .i64 f1) (by rfl) rfl ?_ ?_
   ·go_simp
    (try simp only [i64_w])
    try rfl
   refine hK.out _ _ ⟨v3, b6, s7, m9_, (by rw [ha.out]; exact putSel_upk 2 hb_ rfl rfl rfl), Q_HB, Q_BP, Q_HO, fun h0_ => absurd ((hoff 7 (by kernel_rfl)).symm.trans h0_) (by decide), fun h0_ _ => absurd ((hoff 6 (by kernel_rfl)).symm.trans h0_) (by decide), fun h0_ => absurd ((hoff 9 (by kernel_rfl)).symm.trans h0_) (by decide)⟩
  refine steps_cons ?_ ?_
  ·rintro b a w' ⟨v3, b6, s7, m9_, ha, Q_HB, Q_BP, Q_HO, Q_HP, Q_BK, Q_X9_⟩ hb_ hon hoff
   refine ⟨_, rfl, fun K hK => ?_⟩
   have e32 : a.tmps[32]? = some (.int .i64 f1) := by rw [ha]; exact putSel_on (e := (5, 32, .int .i64 f1)) 2 rfl rfl (hon 5 (by kernel_rfl)) rfl
   replace ha := AZ.mk ha
   have HB := AZ.mk Q_HB
   have BP := AZ.mk Q_BP
   refine value_ (w1 := ?_) (v := ?_) (by rfl) rfl ?_ ?_
   rotate_left 2
   ·go_simp
    constructor
    ·rfl
    ·rfl
   refine hK.out _ _ ⟨v3, .slice (some ⟨w'.heap.size, 0, none⟩) 1 1, s7, m9_, (by rw [ha.out]; exact putSel_upk 3 hb_ rfl rfl rfl), pA HB.out _, ba_ BP.out _, fun h0_ h1_ => (Kd.R_alloc (Q_HO h0_ h1_) _), fun h0_ => absurd ((hoff 7 (by kernel_rfl)).symm.trans h0_) (by decide), fun _ _ => ⟨w'.heap.size, rfl, heap_alloc_new w' _⟩, fun h0_ => absurd ((hoff 9 (by kernel_rfl)).symm.trans h0_) (by decide)⟩
  refine steps_cons ?_ ?_
  ·rintro b a w' ⟨v3, b6, s7, m9_, ha, Q_HB, Q_BP, Q_HO, Q_HP, Q_BK, Q_X9_⟩ hb_ hon hoff
   refine ⟨_, rfl, fun K hK => ?_⟩
   have e30 : a.tmps[30]? = some (v3) := by rw [ha]; exact putSel_on (e := (3, 30, v3)) 1 rfl rfl (hon 3 (by kernel_rfl)) rfl
   have e33 : a.tmps[33]? = some (b6) := by rw [ha]; exact putSel_on (e := (6, 33, b6)) 3 rfl rfl (hon 6 (by kernel_rfl)) rfl
   replace ha := AZ.mk ha
   have HB := AZ.mk Q_HB
   have BP := AZ.mk Q_BP
   have HO := AZ.mk (Q_HO (hon 3 (by kernel_rfl)) hb_)
   have BK := AZ.mk (Q_BK (hon 6 (by kernel_rfl)) hb_)
   obtain ⟨g_, hq_, hg_⟩ := BK.out
   refine R_append_at (Kd.int .i64) (w0 := w) w.heap.size (by rfl) (.tmp 30) (.tmp 33) 60 2 (.int .i64 0) 8 rfl Try.underlying60 info2 rfl (by decide) (by decide) _ st f1 [.int .i64 f1] (fun _ => True) (fun _ => False) g_ (eval_of e30) ((eval_of e33).trans hq_) hg_ rfl (fun _ hk => hk.elim) (fun _ _ => trivial) HO.out HB.out (pZ HB.out) (by have := HSL.out; omega) ?_
   intro v_ w_ hr_ hbb_ hgr_ hat_
   refine hK.out _ _ ⟨v3, b6, v_, m9_, (by rw [ha.out]; exact putSel_upk 4 hb_ rfl rfl rfl), hbb_, (blk_grown BP.out hgr_ (Kd.R_ne HO.out BP.out (by decide))), fun _ h1_ => absurd ((up_self b 7).symm.trans h1_) (by decide), fun _ => hr_, fun _ h1_ => absurd ((up_self b 7).symm.trans h1_) (by decide), fun h0_ => absurd ((hoff 9 (by kernel_rfl)).symm.trans h0_) (by decide)⟩
  refine steps_cons ?_ ?_
  ·rintro b a w' ⟨v3, b6, s7, m9_, ha, Q_HB, Q_BP, Q_HO, Q_HP, Q_BK, Q_X9_⟩ hb_ hon hoff
   refine ⟨_, rfl, fun K hK => ?_⟩
   have e28 : a.tmps[28]? = some (.int .i64 f0) := by rw [ha]; exact putSel_on (e := (1, 28, .int .i64 f0)) 0 rfl rfl (hon 1 (by kernel_rfl)) rfl
   replace ha := AZ.mk ha
   have HB := AZ.mk Q_HB
   have BP := AZ.mk Q_BP
   have HP := AZ.mk (Q_HP (hon 7 (by kernel_rfl)))
   refine value_ (w1 := w') (v := .int .i64 f0) (by rfl) rfl ?_ ?_
   ·go_simp
    (try simp only [i64_w])
    try rfl
   refine hK.out _ _ ⟨v3, b6, s7, m9_, (by rw [ha.out]; exact putSel_upk 5 hb_ rfl rfl rfl), Q_HB, Q_BP, fun _ h1_ => absurd ((hon 7 (by kernel_rfl)).symm.trans h1_) (by decide), Q_HP, fun _ h1_ => absurd ((hon 7 (by kernel_rfl)).symm.trans h1_) (by decide), fun h0_ => absurd ((hoff 9 (by kernel_rfl)).symm.trans h0_) (by decide)⟩
  refine steps_cons ?_ ?_
  ·rintro b a w' ⟨v3, b6, s7, m9_, ha, Q_HB, Q_BP, Q_HO, Q_HP, Q_BK, Q_X9_⟩ hb_ hon hoff
   refine ⟨_, rfl, fun K hK => ?_⟩
   have e34 : a.tmps[34]? = some (s7) := by rw [ha]; exact putSel_on (e := (7, 34, s7)) 4 rfl rfl (hon 7 (by kernel_rfl)) rfl
   replace ha := AZ.mk ha
   have HB := AZ.mk Q_HB
   have BP := AZ.mk Q_BP
   have HP := AZ.mk (Q_HP (hon 7 (by kernel_rfl)))
   refine value_ (w1 := w') (v := s7) (by rfl) rfl ?_ ?_
   ·go_simp
    (try simp only [i64_w])
    try rfl
   refine hK.out _ _ ⟨v3, b6, s7, (s7), (by rw [ha.out]; exact putSel_upk 6 hb_ rfl rfl rfl), Q_HB, Q_BP, fun _ h1_ => absurd ((hon 7 (by kernel_rfl)).symm.trans h1_) (by decide), Q_HP, fun _ h1_ => absurd ((hon 7 (by kernel_rfl)).symm.trans h1_) (by decide), fun _ => rfl⟩
  exact steps_nil
 ·rintro b a w' hall ⟨v3, b6, s7, m9_, ha, Q_HB, Q_BP, Q_HO, Q_HP, Q_BK, Q_X9_⟩
  clear BP HB
  have hb1_ := hall 1 (by kernel_rfl)
  have hb3_ := hall 3 (by kernel_rfl)
  have hb5_ := hall 5 (by kernel_rfl)
  have hb6_ := hall 6 (by kernel_rfl)
  have hb7_ := hall 7 (by kernel_rfl)
  have hb8_ := hall 8 (by kernel_rfl)
  have hb9_ := hall 9 (by kernel_rfl)
  subst ha
  obtain rfl := Q_X9_ hb9_
  simp only [putSel, hb1_, hb3_, hb5_, hb6_, hb7_, hb8_, hb9_, if_true, Act.put, sA, sB, sC]
  have HB := AZ.mk Q_HB
  clear Q_HB
  have BP := AZ.mk Q_BP
  clear Q_BP
  clear Q_HO
  have HP := AZ.mk (Q_HP hb7_)
  clear Q_HP
  clear Q_BK
  clear hall hb1_ hb3_ hb5_ hb6_ hb7_ hb8_ hb9_
  go_wp2
  have hp9 := HP.out
  rw [← E2.out] at hp9
  obtain ⟨A', c', es, hl', hr'⟩ := Kd.R_reads hp9
  subst es
  go_ret2
  exact ⟨A', c', rfl, hl', hr', HB.out⟩
end Go.Proofs.Ytlmkkmoammgjdaa.P
namespace Go.Proofs.Ytlmkkmoammgjdaa.P
open Go.RowKit Go.Proofs.YtlmkkmoammgjdaaW.PrintWords Go.Proofs.YtlmkkmoammgjdaaW.PrintLast Go.Proofs.YtlmkkmoammgjdaaW.PrintMore
set_option linter.unusedVariables false
set_option linter.unusedSimpArgs false
set_option maxHeartbeats 8000000 in
set_option maxRecDepth 100000 in
theorem step_inner (a0 a1 : Int) (A2 : Option Addr) (c2 : Nat) (l2 : List Bool) (A3 : Option Addr) (c3 : Nat) (l3 : List (List S92)) (A4 : Option Addr) (c4 : Nat) (l4 : List (List (List Int))) (A5 : Option Addr) (c5 : Nat) (l5 : List (List Int)) (w : World) (hR : RdC A2 l2 A3 l3 A4 l4 A5 l5 w) (ck : Ck a0 l2 l3 l4 l5) (s : Nat) (hs : s < l2.length) (A : Option Addr) (c : Nat) (st : List Int) (hst : (Kd.int .i64).C w A st.length st) (hc : st.length ≤ c) (q : Nat) (hq : q < 2) (i : Nat) (hiq : i = q + 4) :
  Calls Try.prog 33 #[.agg #[.int .i64 a0, .int .i64 a1, .slice A2 l2.length c2, .slice A3 l3.length c3, .slice A4 l4.length c4, .slice A5 l5.length c5], .int .i64 (s : Int), .slice A st.length c, .int .u8 (bt (⟨#[40, 91, 41, 93, 97, 98]⟩ : ByteArray) (i : Int))] w fun e w' => ∃ (A' : Option Addr) (c' : Nat), e = .returned (.tuple #[.int .i64 (rd (rd_L6 l5 (s : Int)) (q : Int)), .slice A' (st).length c']) ∧ (st).length ≤ c' ∧ (Kd.int .i64).C w' A' (st).length (st) ∧ Below w.heap.size w w' := by
 have hu36 := Try.underlying36
 have hu92 := Try.underlying92
 have HR := AZ.mk hR
 have HS := AZ.mk hst
 have HC := AZ.mk hc
 have HB := AZ.mk (Below.refl w.heap.size w)
 have HK := AZ.mk (sym_kind i q (by omega) hq (by omega))
 have HI := AZ.mk (sym_call i (by omega) false (by rw [decide_eq_false (by omega)]))
 have HJ := AZ.mk (sym_inner i (by omega) true (by rw [decide_eq_true (by omega)]))
 obtain ⟨ad, B, d, rfl, hx, -, hr9⟩ := at_L6 hR.c5 (s : Int) (by omega) (by have := ck.n5; omega)
 have l9 := ck.r5 s hs
 obtain ⟨ae, rfl, hp0⟩ := Kd.at_int hr9 (q : Int) (by omega) (by omega)
 rw [l9] at hx
 simp only [Int.toNat_natCast] at hx hp0
 have p1 := eq_true (show 0 ≤ (s : Int) by omega)
 have q1 := eq_true (show (s : Int) < (l5.length : Int) by have := ck.n5; omega)
 have q1n := eq_true (show s < l5.length by have := ck.n5; omega)
 have p2 := eq_true (show 0 ≤ (q : Int) by omega)
 have q2 := eq_true (show (q : Int) < 2 by omega)
 have q2n := eq_true hq
 clear hR ck hst hc hr9 l9 hs hq hiq
 go_enter Try.func33, Try.ntmps33
 go_wp2_with (first | ((with_reducible refine gate_dst (N := 4) rfl ?_); refine box_event ?hg (N := 4) ?hd (cs := #[.int .i64 a0, .int .i64 a1, .slice A2 l2.length c2, .slice A3 l3.length c3, .slice A4 l4.length c4, .slice (some ad) l5.length c5]) (t := 36) ?hr ?_; (case hd => rfl); (case hg => rfl); (case hr => first | (go_simp; done) | (go_simp; rfl)); intro gC hg WgC hbx hb; have BC := AZ.mk hbx; have n0_ := AZ.mk (pT HB.out hb); clear HB; have HB := n0_; clear n0_; clear hb hbx hg; have hz0 := (bc BC.out 0).trans rfl; have hz1 := (bc BC.out 1).trans rfl; have hz2 := (bc BC.out 2).trans rfl; have hz3 := (bc BC.out 3).trans rfl; have hz4 := (bc BC.out 4).trans rfl; have hz5 := (bc BC.out 5).trans rfl) | ((with_reducible refine gate_callee (f := 58) rfl ?_); (try (refine gate_guard (by rfl) ?_; dsimp only)); refine goesL_ (some 15) rfl rfl Try.func58 (by kernel_rfl) rfl #[.int .u8 (bt (⟨#[40, 91, 41, 93, 97, 98]⟩ : ByteArray) (i : Int))] rfl (by (try simp only [List.map_toArray, List.map_cons, List.map_nil]); first | done | rfl) ?_; refine (impl_kindOf.calls (bt (⟨#[40, 91, 41, 93, 97, 98]⟩ : ByteArray) (i : Int)) (q : Int) _ HK.out).mono ?_; rintro e w15 ⟨rfl, hd⟩; refine ⟨_, rfl, ?_⟩; have hb := hd.below; have n0_ := AZ.mk (pT HB.out hb); have n1_ := AZ.mk (bb_ BC.out hb); clear HB BC; have HB := n0_; have BC := n1_; clear n0_ n1_; clear hb hd hz0 hz1 hz2 hz3 hz4 hz5; have hz0 := (bc BC.out 0).trans rfl; have hz1 := (bc BC.out 1).trans rfl; have hz2 := (bc BC.out 2).trans rfl; have hz3 := (bc BC.out 3).trans rfl; have hz4 := (bc BC.out 4).trans rfl; have hz5 := (bc BC.out 5).trans rfl) | ((with_reducible refine gate_callee (f := 59) rfl ?_); (try (refine gate_guard (by rfl) ?_; dsimp only)); refine goesL_ (some 18) rfl rfl Try.func59 (by kernel_rfl) rfl #[.int .u8 (bt (⟨#[40, 91, 41, 93, 97, 98]⟩ : ByteArray) (i : Int))] rfl (by (try simp only [List.map_toArray, List.map_cons, List.map_nil]); first | done | rfl) ?_; refine (impl_isCall.calls (bt (⟨#[40, 91, 41, 93, 97, 98]⟩ : ByteArray) (i : Int)) false _ HI.out).mono ?_; rintro e w18 ⟨rfl, hd⟩; refine ⟨_, rfl, ?_⟩; have hb := hd.below; have n0_ := AZ.mk (pT HB.out hb); have n1_ := AZ.mk (bb_ BC.out hb); clear HB BC; have HB := n0_; have BC := n1_; clear n0_ n1_; clear hb hd hz0 hz1 hz2 hz3 hz4 hz5; have hz0 := (bc BC.out 0).trans rfl; have hz1 := (bc BC.out 1).trans rfl; have hz2 := (bc BC.out 2).trans rfl; have hz3 := (bc BC.out 3).trans rfl; have hz4 := (bc BC.out 4).trans rfl; have hz5 := (bc BC.out 5).trans rfl) | ((with_reducible refine gate_callee (f := 61) rfl ?_); (try (refine gate_guard (by rfl) ?_; dsimp only)); refine goesL_ (some 37) rfl rfl Try.func61 (by kernel_rfl) rfl #[.int .u8 (bt (⟨#[40, 91, 41, 93, 97, 98]⟩ : ByteArray) (i : Int))] rfl (by (try simp only [List.map_toArray, List.map_cons, List.map_nil]); first | done | rfl) ?_; refine (impl_isInner.calls (bt (⟨#[40, 91, 41, 93, 97, 98]⟩ : ByteArray) (i : Int)) true _ HJ.out).mono ?_; rintro e w37 ⟨rfl, hd⟩; refine ⟨_, rfl, ?_⟩; have hb := hd.below; have n0_ := AZ.mk (pT HB.out hb); have n1_ := AZ.mk (bb_ BC.out hb); clear HB BC; have HB := n0_; have BC := n1_; clear n0_ n1_; clear hb hd hz0 hz1 hz2 hz3 hz4 hz5; have hz0 := (bc BC.out 0).trans rfl; have hz1 := (bc BC.out 1).trans rfl; have hz2 := (bc BC.out 2).trans rfl; have hz3 := (bc BC.out 3).trans rfl; have hz4 := (bc BC.out 4).trans rfl; have hz5 := (bc BC.out 5).trans rfl; replace hx := (HB.out.cell (World.block_lt_of_cell? w _ hx)).trans hx; replace hp0 := (HB.out.cell (World.block_lt_of_cell? w _ hp0)).trans hp0))
 go_ret2
 exact ⟨A, c, rfl, HC.out, Kd.C_below HS.out HB.out, HB.out⟩
set_option maxHeartbeats 8000000 in
set_option maxRecDepth 100000 in
theorem step_ret0 (a0 a1 : Int) (A2 : Option Addr) (c2 : Nat) (l2 : List Bool) (A3 : Option Addr) (c3 : Nat) (l3 : List (List S92)) (A4 : Option Addr) (c4 : Nat) (l4 : List (List (List Int))) (A5 : Option Addr) (c5 : Nat) (l5 : List (List Int)) (w : World) (hR : RdC A2 l2 A3 l3 A4 l4 A5 l5 w) (ck : Ck a0 l2 l3 l4 l5) (s : Nat) (hs : s < l2.length) (A : Option Addr) (c : Nat) (st : List Int) (hst : (Kd.int .i64).C w A st.length st) (hc : st.length ≤ c) (q : Nat) (hq : q < 2) (i : Nat) (hiq : i = q + 2) (z : Nat) (hz : (z : Int) ≤ a0) (hz0 : a0 = (z : Int)) (h0 : st = []) :
  Calls Try.prog 33 #[.agg #[.int .i64 a0, .int .i64 a1, .slice A2 l2.length c2, .slice A3 l3.length c3, .slice A4 l4.length c4, .slice A5 l5.length c5], .int .i64 (s : Int), .slice A st.length c, .int .u8 (bt (⟨#[40, 91, 41, 93, 97, 98]⟩ : ByteArray) (i : Int))] w fun e w' => ∃ (A' : Option Addr) (c' : Nat), e = .returned (.tuple #[.int .i64 (rd (rd_L6 (rd_L7 l4 (s : Int)) (q : Int)) (z : Int)), .slice A' (([] : List Int)).length c']) ∧ (([] : List Int)).length ≤ c' ∧ (Kd.int .i64).C w' A' (([] : List Int)).length (([] : List Int)) ∧ Below w.heap.size w w' := by
 have hu36 := Try.underlying36
 have hu92 := Try.underlying92
 have HR := AZ.mk hR
 have HS := AZ.mk hst
 have HC := AZ.mk hc
 have HB := AZ.mk (Below.refl w.heap.size w)
 have HK := AZ.mk (sym_kind i q (by omega) hq (by omega))
 have HI := AZ.mk (sym_call i (by omega) false (by rw [decide_eq_false (by omega)]))
 have HJ := AZ.mk (sym_inner i (by omega) false (by rw [decide_eq_false (by omega)]))
 obtain ⟨ad, B, d, rfl, hx, -, hr9⟩ := at_L7 hR.c4 (s : Int) (by omega) (by have := ck.n4; omega)
 have l9 := ck.r4 s hs
 obtain ⟨ae, B2, d2, rfl, hp0, -, hr8⟩ := at_L6 hr9 (q : Int) (by omega) (by omega)
 have l8 := ck.r6 s q hs hq
 obtain ⟨ln, hln⟩ : ∃ ln, ln = (rd_L6 (rd_L7 l4 (s : Int)) (q : Int)).length := ⟨_, rfl⟩
 obtain ⟨af, rfl, hp1⟩ := Kd.at_int hr8 (z : Int) (by omega) (by omega)
 rw [l9] at hx
 rw [← hln] at hp0
 simp only [Int.toNat_natCast] at hx hp0 hp1
 have p1 := eq_true (show 0 ≤ (s : Int) by omega)
 have q1 := eq_true (show (s : Int) < (l4.length : Int) by have := ck.n4; omega)
 have q1n := eq_true (show s < l4.length by have := ck.n4; omega)
 have p2 := eq_true (show 0 ≤ (q : Int) by omega)
 have q2 := eq_true (show (q : Int) < 2 by omega)
 have q2n := eq_true hq
 have p3 := eq_true (show 0 ≤ (z : Int) by omega)
 have q3 := eq_true (show (z : Int) < (ln : Int) by omega)
 have q3n := eq_true (show z < ln by omega)
 subst hz0
 subst h0
 have HZ := AZ.mk hz
 clear hR ck hst hc hr9 hr8 l9 l8 hln hs hq hiq hz
 go_enter Try.func33, Try.ntmps33
 go_wp2_with (first | ((with_reducible refine gate_dst (N := 4) rfl ?_); refine box_event ?hg (N := 4) ?hd (cs := #[.int .i64 (z : Int), .int .i64 a1, .slice A2 l2.length c2, .slice A3 l3.length c3, .slice (some ad) l4.length c4, .slice A5 l5.length c5]) (t := 36) ?hr ?_; (case hd => rfl); (case hg => rfl); (case hr => first | (go_simp; done) | (go_simp; rfl)); intro gC hg WgC hbx hb; have BC := AZ.mk hbx; have n0_ := AZ.mk (pT HB.out hb); clear HB; have HB := n0_; clear n0_; clear hb hbx hg; have hz0 := (bc BC.out 0).trans rfl; have hz1 := (bc BC.out 1).trans rfl; have hz2 := (bc BC.out 2).trans rfl; have hz3 := (bc BC.out 3).trans rfl; have hz4 := (bc BC.out 4).trans rfl; have hz5 := (bc BC.out 5).trans rfl) | ((with_reducible refine gate_callee (f := 58) rfl ?_); (try (refine gate_guard (by rfl) ?_; dsimp only)); refine goesL_ (some 15) rfl rfl Try.func58 (by kernel_rfl) rfl #[.int .u8 (bt (⟨#[40, 91, 41, 93, 97, 98]⟩ : ByteArray) (i : Int))] rfl (by (try simp only [List.map_toArray, List.map_cons, List.map_nil]); first | done | rfl) ?_; refine (impl_kindOf.calls (bt (⟨#[40, 91, 41, 93, 97, 98]⟩ : ByteArray) (i : Int)) (q : Int) _ HK.out).mono ?_; rintro e w15 ⟨rfl, hd⟩; refine ⟨_, rfl, ?_⟩; have hb := hd.below; have n0_ := AZ.mk (pT HB.out hb); have n1_ := AZ.mk (bb_ BC.out hb); clear HB BC; have HB := n0_; have BC := n1_; clear n0_ n1_; clear hb hd hz0 hz1 hz2 hz3 hz4 hz5; have hz0 := (bc BC.out 0).trans rfl; have hz1 := (bc BC.out 1).trans rfl; have hz2 := (bc BC.out 2).trans rfl; have hz3 := (bc BC.out 3).trans rfl; have hz4 := (bc BC.out 4).trans rfl; have hz5 := (bc BC.out 5).trans rfl) | ((with_reducible refine gate_callee (f := 59) rfl ?_); (try (refine gate_guard (by rfl) ?_; dsimp only)); refine goesL_ (some 18) rfl rfl Try.func59 (by kernel_rfl) rfl #[.int .u8 (bt (⟨#[40, 91, 41, 93, 97, 98]⟩ : ByteArray) (i : Int))] rfl (by (try simp only [List.map_toArray, List.map_cons, List.map_nil]); first | done | rfl) ?_; refine (impl_isCall.calls (bt (⟨#[40, 91, 41, 93, 97, 98]⟩ : ByteArray) (i : Int)) false _ HI.out).mono ?_; rintro e w18 ⟨rfl, hd⟩; refine ⟨_, rfl, ?_⟩; have hb := hd.below; have n0_ := AZ.mk (pT HB.out hb); have n1_ := AZ.mk (bb_ BC.out hb); clear HB BC; have HB := n0_; have BC := n1_; clear n0_ n1_; clear hb hd hz0 hz1 hz2 hz3 hz4 hz5; have hz0 := (bc BC.out 0).trans rfl; have hz1 := (bc BC.out 1).trans rfl; have hz2 := (bc BC.out 2).trans rfl; have hz3 := (bc BC.out 3).trans rfl; have hz4 := (bc BC.out 4).trans rfl; have hz5 := (bc BC.out 5).trans rfl) | ((with_reducible refine gate_callee (f := 61) rfl ?_); (try (refine gate_guard (by rfl) ?_; dsimp only)); refine goesL_ (some 37) rfl rfl Try.func61 (by kernel_rfl) rfl #[.int .u8 (bt (⟨#[40, 91, 41, 93, 97, 98]⟩ : ByteArray) (i : Int))] rfl (by (try simp only [List.map_toArray, List.map_cons, List.map_nil]); first | done | rfl) ?_; refine (impl_isInner.calls (bt (⟨#[40, 91, 41, 93, 97, 98]⟩ : ByteArray) (i : Int)) false _ HJ.out).mono ?_; rintro e w37 ⟨rfl, hd⟩; refine ⟨_, rfl, ?_⟩; have hb := hd.below; have n0_ := AZ.mk (pT HB.out hb); have n1_ := AZ.mk (bb_ BC.out hb); clear HB BC; have HB := n0_; have BC := n1_; clear n0_ n1_; clear hb hd hz0 hz1 hz2 hz3 hz4 hz5; have hz0 := (bc BC.out 0).trans rfl; have hz1 := (bc BC.out 1).trans rfl; have hz2 := (bc BC.out 2).trans rfl; have hz3 := (bc BC.out 3).trans rfl; have hz4 := (bc BC.out 4).trans rfl; have hz5 := (bc BC.out 5).trans rfl; replace hx := (HB.out.cell (World.block_lt_of_cell? w _ hx)).trans hx; replace hp0 := (HB.out.cell (World.block_lt_of_cell? w _ hp0)).trans hp0; replace hp1 := (HB.out.cell (World.block_lt_of_cell? w _ hp1)).trans hp1))
 go_ret2
 exact ⟨A, c, rfl, Nat.zero_le _, Kd.C_below HS.out HB.out, HB.out⟩
set_option maxHeartbeats 8000000 in
set_option maxRecDepth 100000 in
theorem step_ret1 (a0 a1 : Int) (A2 : Option Addr) (c2 : Nat) (l2 : List Bool) (A3 : Option Addr) (c3 : Nat) (l3 : List (List S92)) (A4 : Option Addr) (c4 : Nat) (l4 : List (List (List Int))) (A5 : Option Addr) (c5 : Nat) (l5 : List (List Int)) (w : World) (hR : RdC A2 l2 A3 l3 A4 l4 A5 l5 w) (ck : Ck a0 l2 l3 l4 l5) (s : Nat) (hs : s < l2.length) (A : Option Addr) (c : Nat) (st : List Int) (hst : (Kd.int .i64).C w A st.length st) (hc : st.length ≤ c) (q : Nat) (hq : q < 2) (i : Nat) (hiq : i = q + 2) (z : Nat) (hz : (z : Int) ≤ a0) (m : Nat) (hm : m + 1 = st.length) (hsl : st.length ≤ 1000) (hmk : rd st (m : Int) = (z : Int)) :
  Calls Try.prog 33 #[.agg #[.int .i64 a0, .int .i64 a1, .slice A2 l2.length c2, .slice A3 l3.length c3, .slice A4 l4.length c4, .slice A5 l5.length c5], .int .i64 (s : Int), .slice A st.length c, .int .u8 (bt (⟨#[40, 91, 41, 93, 97, 98]⟩ : ByteArray) (i : Int))] w fun e w' => ∃ (A' : Option Addr) (c' : Nat), e = .returned (.tuple #[.int .i64 (rd (rd_L6 (rd_L7 l4 (s : Int)) (q : Int)) (z : Int)), .slice A' (st.take m).length c']) ∧ (st.take m).length ≤ c' ∧ (Kd.int .i64).C w' A' (st.take m).length (st.take m) ∧ Below w.heap.size w w' := by
 have hu36 := Try.underlying36
 have hu92 := Try.underlying92
 have HR := AZ.mk hR
 have HS := AZ.mk hst
 have HC := AZ.mk hc
 have HB := AZ.mk (Below.refl w.heap.size w)
 have HK := AZ.mk (sym_kind i q (by omega) hq (by omega))
 have HI := AZ.mk (sym_call i (by omega) false (by rw [decide_eq_false (by omega)]))
 have HJ := AZ.mk (sym_inner i (by omega) false (by rw [decide_eq_false (by omega)]))
 obtain ⟨ad, B, d, rfl, hx, -, hr9⟩ := at_L7 hR.c4 (s : Int) (by omega) (by have := ck.n4; omega)
 have l9 := ck.r4 s hs
 obtain ⟨ae, B2, d2, rfl, hp0, -, hr8⟩ := at_L6 hr9 (q : Int) (by omega) (by omega)
 have l8 := ck.r6 s q hs hq
 obtain ⟨ln, hln⟩ : ∃ ln, ln = (rd_L6 (rd_L7 l4 (s : Int)) (q : Int)).length := ⟨_, rfl⟩
 obtain ⟨af, rfl, hp1⟩ := Kd.at_int hr8 (z : Int) (by omega) (by omega)
 rw [l9] at hx
 rw [← hln] at hp0
 simp only [Int.toNat_natCast] at hx hp0 hp1
 have p1 := eq_true (show 0 ≤ (s : Int) by omega)
 have q1 := eq_true (show (s : Int) < (l4.length : Int) by have := ck.n4; omega)
 have q1n := eq_true (show s < l4.length by have := ck.n4; omega)
 have p2 := eq_true (show 0 ≤ (q : Int) by omega)
 have q2 := eq_true (show (q : Int) < 2 by omega)
 have q2n := eq_true hq
 have p3 := eq_true (show 0 ≤ (z : Int) by omega)
 have q3 := eq_true (show (z : Int) < (ln : Int) by omega)
 have q3n := eq_true (show z < ln by omega)
 obtain ⟨ag, rfl, hp2⟩ := Kd.at_int hst (m : Int) (by omega) (by omega)
 rw [hmk] at hp2
 simp only [Int.toNat_natCast] at hp2
 obtain ⟨st2, e2⟩ : ∃ l, l = st.take m := ⟨_, rfl⟩
 have hl2 : st2.length = m := by rw [e2, List.length_take]; omega
 have HS2 := AZ.mk (show (Kd.int .i64).C w (some ag) st2.length st2 by rw [e2]; exact Kd.C_take hst (by omega))
 rw [← e2]
 have HL2 := AZ.mk hl2
 have HMC := AZ.mk (show m ≤ c by omega)
 have g1 : decide ((0 : Int) < (st.length : Int)) = true := decide_eq_true (by omega)
 have g2 : decide (0 < st.length) = true := decide_eq_true (by omega)
 have g3 := eq_true (show 0 < st.length by omega)
 have g4 : IntKind.i64.wrap ((st.length : Int) - 1) = (m : Int) := (i64_w _).trans (by clear g1 g2 g3 p1 q1 q1n p2 q2 q2n p3 q3 q3n; unfold wrap64; omega)
 have p4 := eq_true (show 0 ≤ (m : Int) by omega)
 have q4 := eq_true (show (m : Int) < (st.length : Int) by omega)
 have q4n := eq_true (show m < st.length by omega)
 have q5 := eq_true (show (m : Int) ≤ (c : Int) by omega)
 have q5n := eq_true (show m ≤ c by omega)
 clear hR ck hst hc hr9 hr8 l9 l8 hln hs hq hiq hz hm hsl hmk e2 hl2
 go_enter Try.func33, Try.ntmps33
 go_wp2_with (first | ((with_reducible refine gate_dst (N := 4) rfl ?_); refine box_event ?hg (N := 4) ?hd (cs := #[.int .i64 a0, .int .i64 a1, .slice A2 l2.length c2, .slice A3 l3.length c3, .slice (some ad) l4.length c4, .slice A5 l5.length c5]) (t := 36) ?hr ?_; (case hd => rfl); (case hg => rfl); (case hr => first | (go_simp; done) | (go_simp; rfl)); intro gC hg WgC hbx hb; have BC := AZ.mk hbx; have n0_ := AZ.mk (pT HB.out hb); clear HB; have HB := n0_; clear n0_; clear hb hbx hg; have hz0 := (bc BC.out 0).trans rfl; have hz1 := (bc BC.out 1).trans rfl; have hz2 := (bc BC.out 2).trans rfl; have hz3 := (bc BC.out 3).trans rfl; have hz4 := (bc BC.out 4).trans rfl; have hz5 := (bc BC.out 5).trans rfl) | ((with_reducible refine gate_callee (f := 58) rfl ?_); (try (refine gate_guard (by rfl) ?_; dsimp only)); refine goesL_ (some 15) rfl rfl Try.func58 (by kernel_rfl) rfl #[.int .u8 (bt (⟨#[40, 91, 41, 93, 97, 98]⟩ : ByteArray) (i : Int))] rfl (by (try simp only [List.map_toArray, List.map_cons, List.map_nil]); first | done | rfl) ?_; refine (impl_kindOf.calls (bt (⟨#[40, 91, 41, 93, 97, 98]⟩ : ByteArray) (i : Int)) (q : Int) _ HK.out).mono ?_; rintro e w15 ⟨rfl, hd⟩; refine ⟨_, rfl, ?_⟩; have hb := hd.below; have n0_ := AZ.mk (pT HB.out hb); have n1_ := AZ.mk (bb_ BC.out hb); clear HB BC; have HB := n0_; have BC := n1_; clear n0_ n1_; clear hb hd hz0 hz1 hz2 hz3 hz4 hz5; have hz0 := (bc BC.out 0).trans rfl; have hz1 := (bc BC.out 1).trans rfl; have hz2 := (bc BC.out 2).trans rfl; have hz3 := (bc BC.out 3).trans rfl; have hz4 := (bc BC.out 4).trans rfl; have hz5 := (bc BC.out 5).trans rfl) | ((with_reducible refine gate_callee (f := 59) rfl ?_); (try (refine gate_guard (by rfl) ?_; dsimp only)); refine goesL_ (some 18) rfl rfl Try.func59 (by kernel_rfl) rfl #[.int .u8 (bt (⟨#[40, 91, 41, 93, 97, 98]⟩ : ByteArray) (i : Int))] rfl (by (try simp only [List.map_toArray, List.map_cons, List.map_nil]); first | done | rfl) ?_; refine (impl_isCall.calls (bt (⟨#[40, 91, 41, 93, 97, 98]⟩ : ByteArray) (i : Int)) false _ HI.out).mono ?_; rintro e w18 ⟨rfl, hd⟩; refine ⟨_, rfl, ?_⟩; have hb := hd.below; have n0_ := AZ.mk (pT HB.out hb); have n1_ := AZ.mk (bb_ BC.out hb); clear HB BC; have HB := n0_; have BC := n1_; clear n0_ n1_; clear hb hd hz0 hz1 hz2 hz3 hz4 hz5; have hz0 := (bc BC.out 0).trans rfl; have hz1 := (bc BC.out 1).trans rfl; have hz2 := (bc BC.out 2).trans rfl; have hz3 := (bc BC.out 3).trans rfl; have hz4 := (bc BC.out 4).trans rfl; have hz5 := (bc BC.out 5).trans rfl) | ((with_reducible refine gate_callee (f := 61) rfl ?_); (try (refine gate_guard (by rfl) ?_; dsimp only)); refine goesL_ (some 37) rfl rfl Try.func61 (by kernel_rfl) rfl #[.int .u8 (bt (⟨#[40, 91, 41, 93, 97, 98]⟩ : ByteArray) (i : Int))] rfl (by (try simp only [List.map_toArray, List.map_cons, List.map_nil]); first | done | rfl) ?_; refine (impl_isInner.calls (bt (⟨#[40, 91, 41, 93, 97, 98]⟩ : ByteArray) (i : Int)) false _ HJ.out).mono ?_; rintro e w37 ⟨rfl, hd⟩; refine ⟨_, rfl, ?_⟩; have hb := hd.below; have n0_ := AZ.mk (pT HB.out hb); have n1_ := AZ.mk (bb_ BC.out hb); clear HB BC; have HB := n0_; have BC := n1_; clear n0_ n1_; clear hb hd hz0 hz1 hz2 hz3 hz4 hz5; have hz0 := (bc BC.out 0).trans rfl; have hz1 := (bc BC.out 1).trans rfl; have hz2 := (bc BC.out 2).trans rfl; have hz3 := (bc BC.out 3).trans rfl; have hz4 := (bc BC.out 4).trans rfl; have hz5 := (bc BC.out 5).trans rfl; replace hx := (HB.out.cell (World.block_lt_of_cell? w _ hx)).trans hx; replace hp0 := (HB.out.cell (World.block_lt_of_cell? w _ hp0)).trans hp0; replace hp1 := (HB.out.cell (World.block_lt_of_cell? w _ hp1)).trans hp1; replace hp2 := (HB.out.cell (World.block_lt_of_cell? w _ hp2)).trans hp2))
 repeat (go_quiet (fail); try go_wp2)
 go_ret2
 exact ⟨some ag, c, by rw [HL2.out]; rfl, by rw [HL2.out]; exact HMC.out, Kd.C_below HS2.out (by repeat (first | exact HB.out | apply pD | apply pN)), by repeat (first | exact HB.out | apply pD | apply pN)⟩
end Go.Proofs.Ytlmkkmoammgjdaa.P
namespace Go.Proofs.Ytlmkkmoammgjdaa.P
open Go.RowKit Go.Proofs.YtlmkkmoammgjdaaW.PrintWords Go.Proofs.YtlmkkmoammgjdaaW.PrintLast Go.Proofs.YtlmkkmoammgjdaaW.PrintMore
set_option linter.unusedVariables false
set_option linter.unusedSimpArgs false
def cc.T9 : Bool × List (List Nat × List Nat) := (true, [([], []), ([], []), ([], []), ([], []), ([3], [3]), ([0, 1, 2, 4], [0, 1, 2, 4]), ([5], [5]), ([6], [6]), ([6], [6]), ([7, 5, 0, 1, 2, 3, 4, 5, 6, 7], [7]), ([8, 9, 0, 1, 2, 3, 4, 5, 6, 7, 8, 9], [8])])
def cc.B9 : List Nat := [0, 0, 0, 0, 8, 31, 63, 127, 127, 255, 1023]
theorem cc.tab9 : rtab .any (opsOf Try.f32 9) = cc.T9 := by kernel_rfl
theorem cc.bits9 : waitsOk cc.T9.2 cc.B9 = true := by kernel_rfl
def stp (a0 : Int) (l3 : List (List S92)) (l4 : List (List (List Int))) (l5 : List (List Int)) (s : Nat) (st : List Int) (i : Nat) : Int × List Int :=
 if i < 2 then ((rd_T92 (rd_L9 l3 (s : Int)) (i : Int)).f0, st ++ [(rd_T92 (rd_L9 l3 (s : Int)) (i : Int)).f1])
 else if i < 4 then (if 0 < st.length then (rd (rd_L6 (rd_L7 l4 (s : Int)) ((i - 2 : Nat) : Int)) (rd st ((st.length - 1 : Nat) : Int)), st.take (st.length - 1)) else (rd (rd_L6 (rd_L7 l4 (s : Int)) ((i - 2 : Nat) : Int)) a0, []))
 else (rd (rd_L6 l5 (s : Int)) ((i - 4 : Nat) : Int), st)
def sumTo (f : Nat → Nat) : Nat → Nat
 | 0 => 0
 | i + 1 => sumTo f i + f i
def cnt (a0 : Int) (l2 : List Bool) (l3 : List (List S92)) (l4 : List (List (List Int))) (l5 : List (List Int)) : Nat → Nat → List Int → Nat
 | 0, s, _ => if rdOf false l2 (s : Int) = true then 1 else 0
 | n + 1, s, st => sumTo (fun i => cnt a0 l2 l3 l4 l5 n (stp a0 l3 l4 l5 s st i).1.toNat (stp a0 l3 l4 l5 s st i).2) 6
theorem sumTo_le (f : Nat → Nat) (b : Nat) (h : ∀ i, f i ≤ b) : ∀ k, sumTo f k ≤ k * b
 | 0 => Nat.zero_le _
 | k + 1 => by
  have h1 := sumTo_le f b h k
  have h2 := h k
  show sumTo f k + f k ≤ (k + 1) * b
  rw [Nat.succ_mul]
  omega
theorem cnt_le (a0 : Int) (l2 : List Bool) (l3 : List (List S92)) (l4 : List (List (List Int))) (l5 : List (List Int)) : ∀ n s st, cnt a0 l2 l3 l4 l5 n s st ≤ 6 ^ n
 | 0, s, st => by
  show (if rdOf false l2 (s : Int) = true then 1 else 0) ≤ 6 ^ 0
  split <;> simp
 | n + 1, s, st => by
  refine Nat.le_trans (sumTo_le _ _ (fun i => cnt_le a0 l2 l3 l4 l5 n _ _) 6) ?_
  rw [Nat.pow_succ, Nat.mul_comm]
  exact Nat.le_refl _
theorem cnt_small (a0 : Int) (l2 : List Bool) (l3 : List (List S92)) (l4 : List (List (List Int))) (l5 : List (List Int)) (n : Nat) (hn : n ≤ 5) (s st) : cnt a0 l2 l3 l4 l5 n s st ≤ 7776 :=
 Nat.le_trans (cnt_le a0 l2 l3 l4 l5 n s st) (Nat.le_trans (Nat.pow_le_pow_right (by decide) hn) (by decide))
def Mks (a0 : Int) (st : List Int) : Prop := ∀ z ∈ st, ∃ m : Nat, z = (m : Int) ∧ (m : Int) < a0
theorem rd_mem {st : List Int} (m : Nat) (hm : m < st.length) : rd st (m : Int) ∈ st := by
 unfold rd
 rw [Int.toNat_natCast, List.getD_eq_getElem?_getD, List.getElem?_eq_getElem hm]
 exact List.getElem_mem _
theorem step_ex (a0 a1 : Int) (A2 : Option Addr) (c2 : Nat) (l2 : List Bool) (A3 : Option Addr) (c3 : Nat) (l3 : List (List S92)) (A4 : Option Addr) (c4 : Nat) (l4 : List (List (List Int))) (A5 : Option Addr) (c5 : Nat) (l5 : List (List Int)) (ck : Ck a0 l2 l3 l4 l5) (s : Nat) (hs : s < l2.length) (st : List Int) (hm : Mks a0 st) (hl : st.length ≤ 500) (i : Nat) (hi : i < 6) :
  ∃ (t : Nat) (r : List Int), stp a0 l3 l4 l5 s st i = ((t : Int), r) ∧ t < l2.length ∧ Mks a0 r ∧ r.length ≤ st.length + 1 ∧ ∀ (A : Option Addr) (c : Nat) (W : World), RdC A2 l2 A3 l3 A4 l4 A5 l5 W → (Kd.int .i64).C W A st.length st → st.length ≤ c → Calls Try.prog 33 #[.agg #[.int .i64 a0, .int .i64 a1, .slice A2 l2.length c2, .slice A3 l3.length c3, .slice A4 l4.length c4, .slice A5 l5.length c5], .int .i64 (s : Int), .slice A st.length c, .int .u8 (bt (⟨#[40, 91, 41, 93, 97, 98]⟩ : ByteArray) (i : Int))] W fun e w' => ∃ (A' : Option Addr) (c' : Nat), e = .returned (.tuple #[.int .i64 (t : Int), .slice A' r.length c']) ∧ r.length ≤ c' ∧ (Kd.int .i64).C w' A' r.length r ∧ Below W.heap.size W w' := by
 unfold stp
 by_cases h2 : i < 2
 ·rw [if_pos h2]
  obtain ⟨⟨t, e1, h3⟩, h4, h5⟩ := ck.v3 s i hs h2
  refine ⟨t, _, by rw [e1], h3, ?_, by simp, fun A c W hR hst hc => ?_⟩
  ·intro z hz
   rcases List.mem_append.1 hz with h | h
   ·exact hm z h
   ·rw [List.mem_singleton.1 h]
    exact ⟨((rd_T92 (rd_L9 l3 (s : Int)) (i : Int)).f1).toNat, by omega, by omega⟩
  ·have := step_call a0 a1 A2 c2 l2 A3 c3 l3 A4 c4 l4 A5 c5 l5 W hR ck s hs A c st hst hc hl i h2
   rw [e1] at this
   exact this
 ·rw [if_neg h2]
  by_cases h4 : i < 4
  ·rw [if_pos h4]
   by_cases hz : 0 < st.length
   ·rw [if_pos hz]
    obtain ⟨z, e1, h5⟩ := hm _ (rd_mem (st.length - 1) (by omega))
    obtain ⟨t, e2, h3⟩ := ck.v4 s (i - 2) z hs (by omega) (by omega)
    rw [e1]
    refine ⟨t, _, by rw [e2], h3, fun z hz => hm z (List.mem_of_mem_take hz), by rw [List.length_take]; omega, fun A c W hR hst hc => ?_⟩
    have := step_ret1 a0 a1 A2 c2 l2 A3 c3 l3 A4 c4 l4 A5 c5 l5 W hR ck s hs A c st hst hc (i - 2) (by omega) i (by omega) z (by omega) (st.length - 1) (by omega) (by omega) e1
    rw [e2] at this
    exact this
   ·rw [if_neg hz]
    have h0 : st = [] := List.length_eq_zero_iff.1 (by omega)
    obtain ⟨z, e1⟩ : ∃ z : Nat, a0 = (z : Int) := ⟨a0.toNat, by have := ck.a; omega⟩
    obtain ⟨t, e2, h3⟩ := ck.v4 s (i - 2) z hs (by omega) (by omega)
    refine ⟨t, _, by rw [e1, e2], h3, fun z hz => by simp at hz, by simp, fun A c W hR hst hc => ?_⟩
    have := step_ret0 a0 a1 A2 c2 l2 A3 c3 l3 A4 c4 l4 A5 c5 l5 W hR ck s hs A c st hst hc (i - 2) (by omega) i (by omega) z (by omega) e1 h0
    rw [e2] at this
    exact this
  ·rw [if_neg h4]
   obtain ⟨t, e2, h3⟩ := ck.v5 s (i - 4) hs (by omega)
   refine ⟨t, _, by rw [e2], h3, hm, by omega, fun A c W hR hst hc => ?_⟩
   have := step_inner a0 a1 A2 c2 l2 A3 c3 l3 A4 c4 l4 A5 c5 l5 W hR ck s hs A c st hst hc (i - 4) (by omega) i (by omega)
   rw [e2] at this
   exact this
structure RB (a0 a1 : Int) (A2 : Option Addr) (c2 : Nat) (l2 : List Bool) (A3 : Option Addr) (c3 : Nat) (l3 : List (List S92)) (A4 : Option Addr) (c4 : Nat) (l4 : List (List (List Int))) (A5 : Option Addr) (c5 : Nat) (l5 : List (List Int)) (gC gF : Nat) (w : World) : Prop where
 bC : w.heap[gC]? = some (.cells #[.int .i64 a0, .int .i64 a1, .slice A2 l2.length c2, .slice A3 l3.length c3, .slice A4 l4.length c4, .slice A5 l5.length c5] 36 (0, 0))
 bF : w.heap[gF]? = some (.cells #[.func (.func 32) #[] #[.pointer (some ⟨gC, 0, none⟩), .pointer (some ⟨gF, 0, none⟩)]] 59 (0, 0))
 rd : RdC A2 l2 A3 l3 A4 l4 A5 l5 w
theorem RB.below {a0 a1 : Int} {A2 : Option Addr} {c2 : Nat} {l2 : List Bool} {A3 : Option Addr} {c3 : Nat} {l3 : List (List S92)} {A4 : Option Addr} {c4 : Nat} {l4 : List (List (List Int))} {A5 : Option Addr} {c5 : Nat} {l5 : List (List Int)} {gC gF : Nat} {w w' : World} (h : RB a0 a1 A2 c2 l2 A3 c3 l3 A4 c4 l4 A5 c5 l5 gC gF w) (hb : Below w.heap.size w w') : RB a0 a1 A2 c2 l2 A3 c3 l3 A4 c4 l4 A5 c5 l5 gC gF w' := ⟨bb_ h.bC hb, bb_ h.bF hb, h.rd.below hb⟩
set_option maxHeartbeats 8000000 in
set_option maxRecDepth 100000 in
theorem cc_zero (a0 a1 : Int) (A2 : Option Addr) (c2 : Nat) (l2 : List Bool) (A3 : Option Addr) (c3 : Nat) (l3 : List (List S92)) (A4 : Option Addr) (c4 : Nat) (l4 : List (List (List Int))) (A5 : Option Addr) (c5 : Nat) (l5 : List (List Int)) (gC gF : Nat) (s : Nat) (st : List Int) (A : Option Addr) (c : Nat) (w : World) (hs : s < l2.length) (hR : RB a0 a1 A2 c2 l2 A3 c3 l3 A4 c4 l4 A5 c5 l5 gC gF w) :
  Calls Try.prog 32 #[.int .i64 (s : Int), .slice A st.length c, .int .i64 0, .pointer (some ⟨gC, 0, none⟩), .pointer (some ⟨gF, 0, none⟩)] w fun e w' => e = .returned (.int .i64 (if rdOf false l2 (s : Int) = true then 1 else 0)) ∧ Below w.heap.size w w' := by
 have hu36 := Try.underlying36
 obtain ⟨ad, rfl, hx⟩ := Kd.at_bool hR.rd.c2 (s : Int) (by omega) (by omega)
 rw [Int.toNat_natCast] at hx
 have hz2 := (bc hR.bC 2).trans rfl
 have p1 := eq_true (show 0 ≤ (s : Int) by omega)
 have q1 := eq_true (show (s : Int) < (l2.length : Int) by omega)
 have q1n := eq_true hs
 clear hR hs
 obtain ⟨v, hv⟩ : ∃ v, v = rdOf false l2 (s : Int) := ⟨_, rfl⟩
 rw [← hv] at hx ⊢
 clear hv
 cases v with
 | true =>
  go_enter Try.func32, Try.ntmps32
  go_wp2
  go_ret
  exact ⟨rfl, Below.refl _ _⟩
 | false =>
  go_enter Try.func32, Try.ntmps32
  go_wp2
  go_ret
  exact ⟨rfl, Below.refl _ _⟩
set_option maxHeartbeats 8000000 in
set_option maxRecDepth 100000 in
theorem cc_step (a0 a1 : Int) (A2 : Option Addr) (c2 : Nat) (l2 : List Bool) (A3 : Option Addr) (c3 : Nat) (l3 : List (List S92)) (A4 : Option Addr) (c4 : Nat) (l4 : List (List (List Int))) (A5 : Option Addr) (c5 : Nat) (l5 : List (List Int)) (ck : Ck a0 l2 l3 l4 l5) (gC gF : Nat) (n : Nat) (hn : n ≤ 4) (nn : Int) (hnn : nn = ((n + 1 : Nat) : Int)) (hof : ∀ (s : Nat) (st : List Int) (A : Option Addr) (c : Nat) (w : World), s < l2.length → Mks a0 st → st.length + n ≤ 500 → RB a0 a1 A2 c2 l2 A3 c3 l3 A4 c4 l4 A5 c5 l5 gC gF w → (Kd.int .i64).C w A st.length st → st.length ≤ c → Calls Try.prog 32 #[.int .i64 (s : Int), .slice A st.length c, .int .i64 (n : Int), .pointer (some ⟨gC, 0, none⟩), .pointer (some ⟨gF, 0, none⟩)] w fun e w' => e = .returned (.int .i64 ((cnt a0 l2 l3 l4 l5 n s st : Nat) : Int)) ∧ Below w.heap.size w w') : ∀ (s : Nat) (st : List Int) (A : Option Addr) (c : Nat) (w : World), s < l2.length → Mks a0 st → st.length + (n + 1) ≤ 500 → RB a0 a1 A2 c2 l2 A3 c3 l3 A4 c4 l4 A5 c5 l5 gC gF w → (Kd.int .i64).C w A st.length st → st.length ≤ c → Calls Try.prog 32 #[.int .i64 (s : Int), .slice A st.length c, .int .i64 nn, .pointer (some ⟨gC, 0, none⟩), .pointer (some ⟨gF, 0, none⟩)] w fun e w' => e = .returned (.int .i64 ((cnt a0 l2 l3 l4 l5 (n + 1) s st : Nat) : Int)) ∧ Below w.heap.size w w' := by
 intro s st A c w hs hm hl hR hst hc
 have hu36 := Try.underlying36
 have HB := AZ.mk (Below.refl w.heap.size w)
 have HS := AZ.mk hst
 have HC := AZ.mk hc
 have HOF := AZ.mk hof
 have HR := AZ.mk hR
 have z1 : (nn == 0) = false := beq_eq_false_iff_ne.mpr (by omega)
 have z2 : IntKind.i64.wrap (nn - 1) = (n : Int) := (i64_w _).trans (by unfold wrap64; omega)
 have z3 := eq_false (show ¬ nn = 0 by omega)
 have HE := AZ.mk (fun (i : Nat) (hi : i < 6) => step_ex a0 a1 A2 c2 l2 A3 c3 l3 A4 c4 l4 A5 c5 l5 ck s hs st hm (by omega) i hi)
 have HLL := AZ.mk hl
 have hcs : cnt a0 l2 l3 l4 l5 (n + 1) s st = sumTo (fun i => cnt a0 l2 l3 l4 l5 n (stp a0 l3 l4 l5 s st i).1.toNat (stp a0 l3 l4 l5 s st i).2) 6 := rfl
 rw [hcs]
 have HSM := AZ.mk (fun i => sumTo_le (fun i => cnt a0 l2 l3 l4 l5 n (stp a0 l3 l4 l5 s st i).1.toNat (stp a0 l3 l4 l5 s st i).2) 7776 (fun i => cnt_small a0 l2 l3 l4 l5 n (by omega) _ _) i)
 have HCS := AZ.mk (fun t r => cnt_small a0 l2 l3 l4 l5 n (by omega) t r)
 obtain ⟨sm, hsm⟩ : ∃ f, f = sumTo (fun i => cnt a0 l2 l3 l4 l5 n (stp a0 l3 l4 l5 s st i).1.toNat (stp a0 l3 l4 l5 s st i).2) := ⟨_, rfl⟩
 rw [← hsm] at HSM ⊢
 have HSQ := AZ.mk (fun i => show sm (i + 1) = sm i + cnt a0 l2 l3 l4 l5 n (stp a0 l3 l4 l5 s st i).1.toNat (stp a0 l3 l4 l5 s st i).2 by rw [hsm]; rfl)
 have hs0 : sm 0 = 0 := by rw [hsm]; rfl
 have HS0 := AZ.mk hs0
 clear hs0 hsm hcs hs hm hl hR hst hc hof hnn ck hn
 go_enter Try.func32, Try.ntmps32
 go_wp2
 go_loopg [9, 23] 6 (fun kq v9 v23 w' => ∃ i : Nat, v23 = .int .i64 (i : Int) ∧ v9 = .int .i64 ((sm i : Nat) : Int) ∧ AZ (kq + i = 6) ∧ AZ (Below w.heap.size w w') ∧ AZ (RB a0 a1 A2 c2 l2 A3 c3 l3 A4 c4 l4 A5 c5 l5 gC gF w'))
 case atStart => exact ⟨0, rfl, by rw [HS0.out]; rfl, ⟨by omega⟩, HB, HR⟩
 case round =>
  clear HB HR
  obtain ⟨i, rfl, rfl, HK, HB, HR⟩ := hrel
  by_cases hi : i < 6
  ·have ci := decide_eq_true (show (i : Int) < 6 by omega)
   have ci3 := eq_true (show (i : Int) < 6 by omega)
   have ci4 := eq_true hi
   have qs := eq_true (show (i : Int) < ((⟨#[40, 91, 41, 93, 97, 98]⟩ : ByteArray).size : Int) from (by have : ((⟨#[40, 91, 41, 93, 97, 98]⟩ : ByteArray).size : Int) = 6 := rfl; omega))
   have p1 := eq_true (show 0 ≤ (i : Int) by omega)
   have bx := bt_at (⟨#[40, 91, 41, 93, 97, 98]⟩ : ByteArray) (i : Int)
   have by_ : ∀ h : i < (⟨#[40, 91, 41, 93, 97, 98]⟩ : ByteArray).size, (((⟨#[40, 91, 41, 93, 97, 98]⟩ : ByteArray)[i]'h).toNat : Int) = bt (⟨#[40, 91, 41, 93, 97, 98]⟩ : ByteArray) (i : Int) := fun h => by have h9 := bt_at (⟨#[40, 91, 41, 93, 97, 98]⟩ : ByteArray) (i : Int); simp only [Int.toNat_natCast] at h9; exact h9 h
   have hw1 : IntKind.i64.wrap ((i : Int) + 1) = ((i + 1 : Nat) : Int) := (i64_w _).trans (by clear ci ci3 ci4 p1 qs bx; unfold wrap64; omega)
   obtain ⟨t, r, es, ht, hr, hl, hX⟩ := HE.out i hi
   have hsq := HSQ.out i
   rw [es] at hsq
   simp only [Int.toNat_natCast] at hsq
   have hsm := HSM.out i
   have hcc := HCS.out t r
   have hws : IntKind.i64.wrap (((sm i : Nat) : Int) + ((cnt a0 l2 l3 l4 l5 n t r : Nat) : Int)) = ((sm (i + 1) : Nat) : Int) := (i64_w _).trans (by clear bx ci ci3 ci4 p1 qs hw1 es; have : i * 7776 ≤ 6 * 7776 := Nat.mul_le_mul_right _ (by omega); unfold wrap64; omega)
   have HX := AZ.mk hX
   have HT2 := AZ.mk ht
   have HM2 := AZ.mk hr
   have HL2 := AZ.mk (show r.length + n ≤ 500 by have := HLL.out; omega)
   clear hX ht hr hl hsq hsm hcc es
   go_wp2
   refine start_ (n := 11) (S := fun w' => True) (ds := []) (bz 11 0) (by kernel_rfl) rfl rfl trivial (fun hHeld => ?_)
   refine with_tabW cc.tab9 cc.bits9 (fun HT_ HW_ => ?_)
   have n0_ := AZ.mk (pD HB.out)
   have n1_ := AZ.mk (HR.out.below (below_drew (Below.refl _ _)))
   clear HB HR
   have HB := n0_
   have HR := n1_
   clear n0_ n1_
   generalize World.drew _ = wD at HB HR hHeld ⊢
   refine pure_ (i := 1) (N := some 28) (v := ?_) (a' := ?_) (bz 11 2) rfl rfl (any_of HT_.out (by kernel_rfl)) (fun _ _ _ h => h) (Or.inl ⟨by rfl, ?_⟩) ?_ ?_
   rotate_left
   ·intro w'
    go_simp
    with_reducible rfl
   rotate_left
   ·simp only [Act.put, sA, sB, sC, i64_w, i32_w]
    rfl
   refine pure_ (i := 2) (N := some 29) (v := ?_) (a' := ?_) (bz 11 6) rfl rfl (any_of HT_.out (by kernel_rfl)) (fun _ _ _ h => h) (Or.inl ⟨by rfl, ?_⟩) ?_ ?_
   rotate_left
   ·intro w'
    go_simp
    with_reducible rfl
   rotate_left
   ·simp only [Act.put, sA, sB, sC, i64_w, i32_w]
    rfl
   refine pure_ (i := 3) (N := some 30) (v := ?_) (a' := ?_) (bz 11 14) rfl rfl (any_of HT_.out (by kernel_rfl)) (fun _ _ _ h => h) (Or.inl ⟨by rfl, ?_⟩) ?_ ?_
   rotate_left
   ·intro w'
    go_simp
    with_reducible rfl
   rotate_left
   ·simp only [Act.put, sA, sB, sC, i64_w, i32_w]
    rfl
   refine inv_at [0, 4, 5, 6, 7, 8, 9, 10] (fun a0_ b a w' => ∃ (A9 : Option Addr) (c9 : Nat) (m5_ : Value) (m6_ : Value) (m8_ : Value) (m10_ : Value), a = putSel a0_ b [(0, 27, .agg #[.int .i64 a0, .int .i64 a1, .slice A2 l2.length c2, .slice A3 l3.length c3, .slice A4 l4.length c4, .slice A5 l5.length c5]), (4, 31, .int .u8 (bt (⟨#[40, 91, 41, 93, 97, 98]⟩ : ByteArray) (i : Int))), (5, 32, m5_), (6, 26, m6_), (7, 33, .int .i64 (t : Int)), (8, 34, m8_), (9, 11, .int .i64 (t : Int)), (10, 12, m10_)] ∧ (Below w.heap.size w w') ∧ (RB a0 a1 A2 c2 l2 A3 c3 l3 A4 c4 l4 A5 c5 l5 gC gF w') ∧ (b 5 = true → (Kd.int .i64).C w' A9 r.length r) ∧ (b 5 = true → r.length ≤ c9) ∧ (b 5 = true → (m5_ : Value) = .tuple #[.int .i64 (t : Int), .slice A9 r.length c9]) ∧ (b 6 = true → (m6_ : Value) = .tuple #[.int .i64 (t : Int), .slice A9 r.length c9]) ∧ (b 8 = true → (m8_ : Value) = .slice A9 r.length c9) ∧ (b 10 = true → (m10_ : Value) = .slice A9 r.length c9)) HT_.out HW_.out (by kernel_rfl) (by kernel_rfl) ?_ ?_ ?_
   ·exact ⟨none, 0, .bool false, .bool false, .bool false, .bool false, by simp only [putSel, Bool.false_eq_true, if_false], HB.out, HR.out, fun h_ => absurd h_ (by decide), fun h_ => absurd h_ (by decide), fun h_ => absurd h_ (by decide), fun h_ => absurd h_ (by decide), fun h_ => absurd h_ (by decide), fun h_ => absurd h_ (by decide)⟩
   ·skip
    clear HB HR
    refine steps_cons ?_ ?_
    ·rintro b a w' ⟨A9, c9, m5_, m6_, m8_, m10_, ha, Q_HB, Q_HR, Q_HQ, Q_HN, Q_X5_, Q_X6_, Q_X8_, Q_X10_⟩ hb_ hon hoff
     refine ⟨_, rfl, fun K hK => ?_⟩
     have e3 : a.tmps[3]? = some (.pointer (some ⟨gC, 0, none⟩)) := by rw [ha]; exact (putSel_off rfl).trans rfl
     replace ha := AZ.mk ha
     have HB := AZ.mk Q_HB
     have HR := AZ.mk Q_HR
     have hc0_ : w'.cell? ⟨gC, 0, none⟩ = some (.int .i64 a0) := (bc HR.out.bC 0).trans rfl
     have hc1_ : w'.cell? ⟨gC, 1, none⟩ = some (.int .i64 a1) := (bc HR.out.bC 1).trans rfl
     have hc2_ : w'.cell? ⟨gC, 2, none⟩ = some (.slice A2 l2.length c2) := (bc HR.out.bC 2).trans rfl
     have hc3_ : w'.cell? ⟨gC, 3, none⟩ = some (.slice A3 l3.length c3) := (bc HR.out.bC 3).trans rfl
     have hc4_ : w'.cell? ⟨gC, 4, none⟩ = some (.slice A4 l4.length c4) := (bc HR.out.bC 4).trans rfl
     have hc5_ : w'.cell? ⟨gC, 5, none⟩ = some (.slice A5 l5.length c5) := (bc HR.out.bC 5).trans rfl
     refine value_ (w1 := w') (v := .agg #[.int .i64 a0, .int .i64 a1, .slice A2 l2.length c2, .slice A3 l3.length c3, .slice A4 l4.length c4, .slice A5 l5.length c5]) (by rfl) rfl ?_ ?_
     ·go_simp
      (try simp only [i64_w])
      try rfl
     refine hK.out _ _ ⟨A9, c9, m5_, m6_, m8_, m10_, (by rw [ha.out]; exact putSel_upk 0 hb_ rfl rfl rfl), Q_HB, Q_HR, fun h0_ => absurd ((hoff 5 (by kernel_rfl)).symm.trans h0_) (by decide), fun h0_ => absurd ((hoff 5 (by kernel_rfl)).symm.trans h0_) (by decide), fun h0_ => absurd ((hoff 5 (by kernel_rfl)).symm.trans h0_) (by decide), fun h0_ => absurd ((hoff 6 (by kernel_rfl)).symm.trans h0_) (by decide), fun h0_ => absurd ((hoff 8 (by kernel_rfl)).symm.trans h0_) (by decide), fun h0_ => absurd ((hoff 10 (by kernel_rfl)).symm.trans h0_) (by decide)⟩
    refine steps_cons ?_ ?_
    ·rintro b a w' ⟨A9, c9, m5_, m6_, m8_, m10_, ha, Q_HB, Q_HR, Q_HQ, Q_HN, Q_X5_, Q_X6_, Q_X8_, Q_X10_⟩ hb_ hon hoff
     refine ⟨_, rfl, fun K hK => ?_⟩
     have e30 : a.tmps[30]? = some (.int .i64 (i : Int)) := by rw [ha]; exact (putSel_off rfl).trans rfl
     replace ha := AZ.mk ha
     have HB := AZ.mk Q_HB
     have HR := AZ.mk Q_HR
     refine value_ (w1 := w') (v := .int .u8 (bt (⟨#[40, 91, 41, 93, 97, 98]⟩ : ByteArray) (i : Int))) (by rfl) rfl ?_ ?_
     ·go_simp
      (try simp only [i64_w])
      try rfl
     refine hK.out _ _ ⟨A9, c9, m5_, m6_, m8_, m10_, (by rw [ha.out]; exact putSel_upk 1 hb_ rfl rfl rfl), Q_HB, Q_HR, fun h0_ => absurd ((hoff 5 (by kernel_rfl)).symm.trans h0_) (by decide), fun h0_ => absurd ((hoff 5 (by kernel_rfl)).symm.trans h0_) (by decide), fun h0_ => absurd ((hoff 5 (by kernel_rfl)).symm.trans h0_) (by decide), fun h0_ => absurd ((hoff 6 (by kernel_rfl)).symm.trans h0_) (by decide), fun h0_ => absurd ((hoff 8 (by kernel_rfl)).symm.trans h0_) (by decide), fun h0_ => absurd ((hoff 10 (by kernel_rfl)).symm.trans h0_) (by decide)⟩
    refine steps_cons ?_ ?_
    ·rintro b a w' ⟨A9, c9, m5_, m6_, m8_, m10_, ha, Q_HB, Q_HR, Q_HQ, Q_HN, Q_X5_, Q_X6_, Q_X8_, Q_X10_⟩ hb_ hon hoff
     refine ⟨_, rfl, fun K hK => ?_⟩
     have e27 : a.tmps[27]? = some (.agg #[.int .i64 a0, .int .i64 a1, .slice A2 l2.length c2, .slice A3 l3.length c3, .slice A4 l4.length c4, .slice A5 l5.length c5]) := by rw [ha]; exact putSel_on (e := (0, 27, .agg #[.int .i64 a0, .int .i64 a1, .slice A2 l2.length c2, .slice A3 l3.length c3, .slice A4 l4.length c4, .slice A5 l5.length c5])) 0 rfl rfl (hon 0 (by kernel_rfl)) rfl
     have e28 : a.tmps[28]? = some (.int .i64 (s : Int)) := by rw [ha]; exact (putSel_off rfl).trans rfl
     have e29 : a.tmps[29]? = some (.slice A st.length c) := by rw [ha]; exact (putSel_off rfl).trans rfl
     have e31 : a.tmps[31]? = some (.int .u8 (bt (⟨#[40, 91, 41, 93, 97, 98]⟩ : ByteArray) (i : Int))) := by rw [ha]; exact putSel_on (e := (4, 31, .int .u8 (bt (⟨#[40, 91, 41, 93, 97, 98]⟩ : ByteArray) (i : Int)))) 1 rfl rfl (hon 4 (by kernel_rfl)) rfl
     replace ha := AZ.mk ha
     have HB := AZ.mk Q_HB
     have HR := AZ.mk Q_HR
     refine goes_ Try.func33 (by kernel_rfl) rfl #[.agg #[.int .i64 a0, .int .i64 a1, .slice A2 l2.length c2, .slice A3 l3.length c3, .slice A4 l4.length c4, .slice A5 l5.length c5], .int .i64 (s : Int), .slice A st.length c, .int .u8 (bt (⟨#[40, 91, 41, 93, 97, 98]⟩ : ByteArray) (i : Int))] (by rfl) rfl rfl (by simp only [List.map_toArray, List.map_cons, List.map_nil, eval_of e27, eval_of e28, eval_of e29, eval_of e31]) ?_
     refine (HX.out A c _ HR.out.rd (Kd.C_below HS.out HB.out) HC.out).mono ?_
     rintro e w_ ⟨A_, c_, rfl, hl_, hr_, hb⟩
     refine ⟨_, rfl, ?_⟩
     refine hK.out _ _ ⟨A_, c_, (.tuple #[.int .i64 (t : Int), .slice A_ r.length c_]), m6_, m8_, m10_, (by rw [ha.out]; exact putSel_upk 2 hb_ rfl rfl rfl), pT HB.out hb, HR.out.below hb, fun _ => hr_, fun _ => hl_, fun _ => rfl, fun h0_ => absurd ((hoff 6 (by kernel_rfl)).symm.trans h0_) (by decide), fun h0_ => absurd ((hoff 8 (by kernel_rfl)).symm.trans h0_) (by decide), fun h0_ => absurd ((hoff 10 (by kernel_rfl)).symm.trans h0_) (by decide)⟩
    refine steps_cons ?_ ?_
    ·rintro b a w' ⟨A9, c9, m5_, m6_, m8_, m10_, ha, Q_HB, Q_HR, Q_HQ, Q_HN, Q_X5_, Q_X6_, Q_X8_, Q_X10_⟩ hb_ hon hoff
     refine ⟨_, rfl, fun K hK => ?_⟩
     have e32 : a.tmps[32]? = some (m5_) := by rw [ha]; exact putSel_on (e := (5, 32, m5_)) 2 rfl rfl (hon 5 (by kernel_rfl)) rfl
     rw [Q_X5_ (hon 5 (by kernel_rfl))] at e32
     replace ha := AZ.mk ha
     have HB := AZ.mk Q_HB
     have HR := AZ.mk Q_HR
     have HQ := AZ.mk (Q_HQ (hon 5 (by kernel_rfl)))
     have HN := AZ.mk (Q_HN (hon 5 (by kernel_rfl)))
     refine value_ (w1 := w') (v := .tuple #[.int .i64 (t : Int), .slice A9 r.length c9]) (by rfl) rfl ?_ ?_
     ·go_simp
      (try simp only [i64_w])
      try rfl
     refine hK.out _ _ ⟨A9, c9, m5_, (.tuple #[.int .i64 (t : Int), .slice A9 r.length c9]), m8_, m10_, (by rw [ha.out]; exact putSel_upk 3 hb_ rfl rfl rfl), Q_HB, Q_HR, Q_HQ, Q_HN, Q_X5_, fun _ => rfl, fun h0_ => absurd ((hoff 8 (by kernel_rfl)).symm.trans h0_) (by decide), fun h0_ => absurd ((hoff 10 (by kernel_rfl)).symm.trans h0_) (by decide)⟩
    refine steps_cons ?_ ?_
    ·rintro b a w' ⟨A9, c9, m5_, m6_, m8_, m10_, ha, Q_HB, Q_HR, Q_HQ, Q_HN, Q_X5_, Q_X6_, Q_X8_, Q_X10_⟩ hb_ hon hoff
     refine ⟨_, rfl, fun K hK => ?_⟩
     have e26 : a.tmps[26]? = some (m6_) := by rw [ha]; exact putSel_on (e := (6, 26, m6_)) 3 rfl rfl (hon 6 (by kernel_rfl)) rfl
     rw [Q_X6_ (hon 6 (by kernel_rfl))] at e26
     replace ha := AZ.mk ha
     have HB := AZ.mk Q_HB
     have HR := AZ.mk Q_HR
     have HQ := AZ.mk (Q_HQ (hon 5 (by kernel_rfl)))
     have HN := AZ.mk (Q_HN (hon 5 (by kernel_rfl)))
     refine value_ (w1 := w') (v := .int .i64 (t : Int)) (by rfl) rfl ?_ ?_
     ·go_simp
      (try simp only [i64_w])
      try rfl
     refine hK.out _ _ ⟨A9, c9, m5_, m6_, m8_, m10_, (by rw [ha.out]; exact putSel_upk 4 hb_ rfl rfl rfl), Q_HB, Q_HR, Q_HQ, Q_HN, Q_X5_, Q_X6_, Q_X8_, fun h0_ => absurd ((hoff 10 (by kernel_rfl)).symm.trans h0_) (by decide)⟩
    refine steps_cons ?_ ?_
    ·rintro b a w' ⟨A9, c9, m5_, m6_, m8_, m10_, ha, Q_HB, Q_HR, Q_HQ, Q_HN, Q_X5_, Q_X6_, Q_X8_, Q_X10_⟩ hb_ hon hoff
     refine ⟨_, rfl, fun K hK => ?_⟩
     have e26 : a.tmps[26]? = some (m6_) := by rw [ha]; exact putSel_on (e := (6, 26, m6_)) 3 rfl rfl (hon 6 (by kernel_rfl)) rfl
     rw [Q_X6_ (hon 6 (by kernel_rfl))] at e26
     replace ha := AZ.mk ha
     have HB := AZ.mk Q_HB
     have HR := AZ.mk Q_HR
     have HQ := AZ.mk (Q_HQ (hon 5 (by kernel_rfl)))
     have HN := AZ.mk (Q_HN (hon 5 (by kernel_rfl)))
     refine value_ (w1 := w') (v := .slice A9 r.length c9) (by rfl) rfl ?_ ?_
     ·go_simp
      (try simp only [i64_w])
      try rfl
     refine hK.out _ _ ⟨A9, c9, m5_, m6_, (.slice A9 r.length c9), m10_, (by rw [ha.out]; exact putSel_upk 5 hb_ rfl rfl rfl), Q_HB, Q_HR, Q_HQ, Q_HN, Q_X5_, Q_X6_, fun _ => rfl, fun h0_ => absurd ((hoff 10 (by kernel_rfl)).symm.trans h0_) (by decide)⟩
    refine steps_cons ?_ ?_
    ·rintro b a w' ⟨A9, c9, m5_, m6_, m8_, m10_, ha, Q_HB, Q_HR, Q_HQ, Q_HN, Q_X5_, Q_X6_, Q_X8_, Q_X10_⟩ hb_ hon hoff
     refine ⟨_, rfl, fun K hK => ?_⟩
     have e33 : a.tmps[33]? = some (.int .i64 (t : Int)) := by rw [ha]; exact putSel_on (e := (7, 33, .int .i64 (t : Int))) 4 rfl rfl (hon 7 (by kernel_rfl)) rfl
     replace ha := AZ.mk ha
     have HB := AZ.mk Q_HB
     have HR := AZ.mk Q_HR
     have HQ := AZ.mk (Q_HQ (hon 5 (by kernel_rfl)))
     have HN := AZ.mk (Q_HN (hon 5 (by kernel_rfl)))
     refine value_ (w1 := w') (v := .int .i64 (t : Int)) (by rfl) rfl ?_ ?_
     ·go_simp
      (try simp only [i64_w])
      try rfl
     refine hK.out _ _ ⟨A9, c9, m5_, m6_, m8_, m10_, (by rw [ha.out]; exact putSel_upk 6 hb_ rfl rfl rfl), Q_HB, Q_HR, Q_HQ, Q_HN, Q_X5_, Q_X6_, Q_X8_, fun h0_ => absurd ((hoff 10 (by kernel_rfl)).symm.trans h0_) (by decide)⟩
    refine steps_cons ?_ ?_
    ·rintro b a w' ⟨A9, c9, m5_, m6_, m8_, m10_, ha, Q_HB, Q_HR, Q_HQ, Q_HN, Q_X5_, Q_X6_, Q_X8_, Q_X10_⟩ hb_ hon hoff
     refine ⟨_, rfl, fun K hK => ?_⟩
     have e34 : a.tmps[34]? = some (m8_) := by rw [ha]; exact putSel_on (e := (8, 34, m8_)) 5 rfl rfl (hon 8 (by kernel_rfl)) rfl
     rw [Q_X8_ (hon 8 (by kernel_rfl))] at e34
     replace ha := AZ.mk ha
     have HB := AZ.mk Q_HB
     have HR := AZ.mk Q_HR
     have HQ := AZ.mk (Q_HQ (hon 5 (by kernel_rfl)))
     have HN := AZ.mk (Q_HN (hon 5 (by kernel_rfl)))
     refine value_ (w1 := w') (v := .slice A9 r.length c9) (by rfl) rfl ?_ ?_
     ·go_simp
      (try simp only [i64_w])
      try rfl
     refine hK.out _ _ ⟨A9, c9, m5_, m6_, m8_, (.slice A9 r.length c9), (by rw [ha.out]; exact putSel_upk 7 hb_ rfl rfl rfl), Q_HB, Q_HR, Q_HQ, Q_HN, Q_X5_, Q_X6_, Q_X8_, fun _ => rfl⟩
    exact steps_nil
   ·rintro b a w' hall ⟨A9, c9, m5_, m6_, m8_, m10_, ha, Q_HB, Q_HR, Q_HQ, Q_HN, Q_X5_, Q_X6_, Q_X8_, Q_X10_⟩
    clear HB HR
    have hb0_ := hall 0 (by kernel_rfl)
    have hb4_ := hall 4 (by kernel_rfl)
    have hb5_ := hall 5 (by kernel_rfl)
    have hb6_ := hall 6 (by kernel_rfl)
    have hb7_ := hall 7 (by kernel_rfl)
    have hb8_ := hall 8 (by kernel_rfl)
    have hb9_ := hall 9 (by kernel_rfl)
    have hb10_ := hall 10 (by kernel_rfl)
    subst ha
    obtain rfl := Q_X5_ hb5_
    obtain rfl := Q_X6_ hb6_
    obtain rfl := Q_X8_ hb8_
    obtain rfl := Q_X10_ hb10_
    simp only [putSel, hb0_, hb4_, hb5_, hb6_, hb7_, hb8_, hb9_, hb10_, if_true, Act.put, sA, sB, sC]
    have HB := AZ.mk Q_HB
    clear Q_HB
    have HR := AZ.mk Q_HR
    clear Q_HR
    have HQ := AZ.mk (Q_HQ hb5_)
    clear Q_HQ
    have HN := AZ.mk (Q_HN hb5_)
    clear Q_HN
    clear hall hb0_ hb4_ hb5_ hb6_ hb7_ hb8_ hb9_ hb10_
    have hcf := (bc HR.out.bF 0).trans rfl
    go_wp2_with (first | ((with_reducible refine gate_value (t := 36) rfl ?_); (try (refine gate_guard (by rfl) ?_; dsimp only)); refine goesVL_ (some 41) rfl rfl Try.func32 (by kernel_rfl) rfl #[.int .i64 (t : Int), .slice A9 r.length c9, .int .i64 (n : Int)] _ rfl (by rfl) (by (try simp only [List.map_toArray, List.map_cons, List.map_nil]); first | done | rfl) rfl ?_; refine (HOF.out t r A9 c9 _ HT2.out HM2.out HL2.out HR.out HQ.out HN.out).mono ?_; rintro e w41 ⟨rfl, hb⟩; refine ⟨_, rfl, ?_⟩; have n0_ := AZ.mk (pT HB.out hb); have n1_ := AZ.mk (HR.out.below hb); clear HB HR; have HB := n0_; have HR := n1_; clear n0_ n1_; clear hb hcf))
    go_roundg (6 - (i + 1))
    case measure => have := HK.out; omega
    case rel => exact ⟨i + 1, by (try simp only [hw1]); try rfl, by (try simp only [hws]); try rfl, ⟨by omega⟩, HB, HR⟩
  ·have ci := decide_eq_false (show ¬ (i : Int) < 6 by omega)
   have ci3 := eq_false (show ¬ (i : Int) < 6 by omega)
   obtain rfl : i = 6 := by have := HK.out; omega
   go_wp2
   go_ret
   exact ⟨rfl, HB.out⟩
theorem cc_calls (a0 a1 : Int) (A2 : Option Addr) (c2 : Nat) (l2 : List Bool) (A3 : Option Addr) (c3 : Nat) (l3 : List (List S92)) (A4 : Option Addr) (c4 : Nat) (l4 : List (List (List Int))) (A5 : Option Addr) (c5 : Nat) (l5 : List (List Int)) (ck : Ck a0 l2 l3 l4 l5) (gC gF : Nat) : ∀ n, n ≤ 5 → ∀ (s : Nat) (st : List Int) (A : Option Addr) (c : Nat) (w : World), s < l2.length → Mks a0 st → st.length + n ≤ 500 → RB a0 a1 A2 c2 l2 A3 c3 l3 A4 c4 l4 A5 c5 l5 gC gF w → (Kd.int .i64).C w A st.length st → st.length ≤ c → Calls Try.prog 32 #[.int .i64 (s : Int), .slice A st.length c, .int .i64 (n : Int), .pointer (some ⟨gC, 0, none⟩), .pointer (some ⟨gF, 0, none⟩)] w fun e w' => e = .returned (.int .i64 ((cnt a0 l2 l3 l4 l5 n s st : Nat) : Int)) ∧ Below w.heap.size w w'
 | 0, _ => fun s st A c w hs hm hl hR hst hc => (cc_zero a0 a1 A2 c2 l2 A3 c3 l3 A4 c4 l4 A5 c5 l5 gC gF s st A c w hs hR).mono (by
   rintro e w' ⟨rfl, hb⟩
   refine ⟨?_, hb⟩
   show Ending.returned (Value.int .i64 _) = Ending.returned (Value.int .i64 ((if rdOf false l2 (s : Int) = true then 1 else 0 : Nat) : Int))
   split <;> rfl)
 | n + 1, hn => cc_step a0 a1 A2 c2 l2 A3 c3 l3 A4 c4 l4 A5 c5 l5 ck gC gF n (by omega) _ rfl (cc_calls a0 a1 A2 c2 l2 A3 c3 l3 A4 c4 l4 A5 c5 l5 ck gC gF n (by omega))
end Go.Proofs.Ytlmkkmoammgjdaa.P
namespace Go.Proofs.Ytlmkkmoammgjdaa.P
open Go.RowKit Go.Proofs.YtlmkkmoammgjdaaW.PrintWords Go.Proofs.YtlmkkmoammgjdaaW.PrintLast Go.Proofs.YtlmkkmoammgjdaaW.PrintMore
attribute [local go_sem] max2_int min2_int max_two min_two max_three min_three max_four min_four
set_option linter.unusedVariables false
set_option linter.unusedSimpArgs false
def impl_size_bool.f (l0 : List Bool) : Option (Int) := some (l0.length : Int)
set_option maxHeartbeats 8000000 in
set_option maxRecDepth 100000 in
theorem impl_size_bool.calls (A0 : Option Addr) (c0 : Nat) (l0 : List Bool) (r : Int) (w : World) (hr0 : Kd.C Kd.bool w A0 l0.length l0) (hc0 : l0.length ≤ c0) (h : impl_size_bool.f l0 = some r) :
  Calls Try.prog 48 #[.slice A0 l0.length c0] w fun e w' => e = .returned (.int .i64 r) ∧ Drawn0 w w' := by
 have HR0 := AZ.mk hr0
 have HC0 := AZ.mk hc0
 clear hr0 hc0
 have H : (some (l0.length : Int)) = some r := h
 clear h
 obtain rfl := Option.some.inj H
 go_enter Try.func48, Try.ntmps48
 go_wp2
 go_ret
 exact ⟨by first | rfl | (simp; done) | (simp [*]; done), by repeat (first | exact Drawn0.refl _ | apply Drawn0.step)⟩
end Go.Proofs.Ytlmkkmoammgjdaa.P
namespace Go.Proofs.Ytlmkkmoammgjdaa.P
open Go.RowKit Go.Proofs.YtlmkkmoammgjdaaW.PrintWords Go.Proofs.YtlmkkmoammgjdaaW.PrintLast Go.Proofs.YtlmkkmoammgjdaaW.PrintMore
attribute [local go_sem] max2_int min2_int max_two min_two max_three min_three max_four min_four
set_option linter.unusedVariables false
set_option linter.unusedSimpArgs false
def impl_Checker_isState.f (a0_0 : Int) (a0_1 : Int) (l0_2 : List Bool) (l0_3 : List (List (S92))) (l0_4 : List (List (List Int))) (l0_5 : List (List Int)) (a1 : Int) : Option (Bool) := (impl_size_bool.f l0_2).bind fun t270 => ((impl_within.f a1 0 (wrap64 (t270 - 1))).bind fun t271 => (some t271))
set_option maxHeartbeats 8000000 in
set_option maxRecDepth 100000 in
theorem impl_Checker_isState.calls (a0_0 : Int) (a0_1 : Int) (A0_2 : Option Addr) (c0_2 : Nat) (l0_2 : List Bool) (A0_3 : Option Addr) (c0_3 : Nat) (l0_3 : List (List (S92))) (A0_4 : Option Addr) (c0_4 : Nat) (l0_4 : List (List (List Int))) (A0_5 : Option Addr) (c0_5 : Nat) (l0_5 : List (List Int)) (a1 : Int) (r : Bool) (w : World) (hr0_2 : Kd.C Kd.bool w A0_2 l0_2.length l0_2) (hc0_2 : l0_2.length ≤ c0_2) (hr0_3 : Kd.C (Kd.slice 92 k92) w A0_3 l0_3.length l0_3) (hc0_3 : l0_3.length ≤ c0_3) (hr0_4 : Kd.C (Kd.slice 60 (Kd.slice 2 (Kd.int .i64))) w A0_4 l0_4.length l0_4) (hc0_4 : l0_4.length ≤ c0_4) (hr0_5 : Kd.C (Kd.slice 2 (Kd.int .i64)) w A0_5 l0_5.length l0_5) (hc0_5 : l0_5.length ≤ c0_5) (h : impl_Checker_isState.f a0_0 a0_1 l0_2 l0_3 l0_4 l0_5 a1 = some r) :
  Calls Try.prog 49 #[.agg #[.int .i64 a0_0, .int .i64 a0_1, .slice A0_2 l0_2.length c0_2, .slice A0_3 l0_3.length c0_3, .slice A0_4 l0_4.length c0_4, .slice A0_5 l0_5.length c0_5], .int .i64 a1] w fun e w' => e = .returned (.bool r) ∧ Below w.heap.size w w' := by
 have hu36 := Try.underlying36
 have HR0_2 := AZ.mk hr0_2
 have HC0_2 := AZ.mk hc0_2
 clear hr0_2 hc0_2
 have HR0_3 := AZ.mk hr0_3
 have HC0_3 := AZ.mk hc0_3
 clear hr0_3 hc0_3
 have HR0_4 := AZ.mk hr0_4
 have HC0_4 := AZ.mk hc0_4
 clear hr0_4 hc0_4
 have HR0_5 := AZ.mk hr0_5
 have HC0_5 := AZ.mk hc0_5
 clear hr0_5 hc0_5
 have HB := AZ.mk (Below.refl w.heap.size w)
 have H : ((impl_size_bool.f l0_2).bind fun t270 => ((impl_within.f a1 0 (wrap64 (t270 - 1))).bind fun t271 => (some t271))) = some r := h
 clear h
 replace H := Option.bind_eq_some_iff.mp H
 obtain ⟨t270, A30, H⟩ := H
 replace H : ((impl_within.f a1 0 (wrap64 (t270 - 1))).bind fun t271 => (some t271)) = some r := H
 have A3 := AZ.mk A30
 clear A30
 replace H := Option.bind_eq_some_iff.mp H
 obtain ⟨t271, A40, H⟩ := H
 replace H : (some t271) = some r := H
 have A4 := AZ.mk A40
 clear A40
 obtain rfl := Option.some.inj H
 go_enter Try.func49, Try.ntmps49
 go_wp2_with (first | ((with_reducible refine gate_dst (N := 2) rfl ?_); refine box_event ?hg (N := 2) ?hd (cs := #[.int .i64 a0_0, .int .i64 a0_1, .slice A0_2 l0_2.length c0_2, .slice A0_3 l0_3.length c0_3, .slice A0_4 l0_4.length c0_4, .slice A0_5 l0_5.length c0_5]) (t := 36) ?hr ?_; (case hd => rfl); (case hg => rfl); (case hr => first | (go_simp; done) | (go_simp; rfl)); intro gb269 hg w5 hbox hb; have n0_ := AZ.mk (pT (by repeat (first | (with_reducible first | exact HB.out | apply pA | apply pN | apply pD) | exact HB.out)) hb); have n1_ := AZ.mk (hbox); have n2_ := AZ.mk ((by rw [hg]; exact (pZ (by repeat (first | (with_reducible first | exact HB.out | apply pA | apply pN | apply pD) | exact HB.out))) : w.heap.size ≤ gb269)); have n3_ := AZ.mk ((by rw [hg]; exact (pZ (by repeat (first | (with_reducible first | exact HB.out | apply pA | apply pN | apply pD) | exact HB.out))) : w.heap.size ≤ gb269)); clear HB; have HB := n0_; have BK269 := n1_; have GW269 := n2_; have GE269 := n3_; clear n0_ n1_ n2_ n3_; clear hb hbox hg; obtain ⟨hcz6_0, hcz6_1, hcz6_2, hcz6_3, hcz6_4, hcz6_5⟩ := c6 BK269.out; obtain ⟨hfz6_0, hfz6_1, hfz6_2, hfz6_3, hfz6_4, hfz6_5⟩ := f6 BK269.out) | ((with_reducible refine gate_callee (f := 48) rfl ?_); refine goesL_ (some 8) rfl rfl Try.func48 (by kernel_rfl) rfl #[.slice A0_2 l0_2.length c0_2] rfl (by (try simp only [List.map_toArray, List.map_cons, List.map_nil]); first | done | rfl | (simp only [List.length_drop, List.length_take]; rfl)) ?_; (with_reducible refine (impl_size_bool.calls _ _ l0_2 t270 _ ?side1 ?side2 A3.out).mono ?_); (case side1 => repeat (first | exact (Kd.C_below HR0_2.out HB.out) | (with_reducible refine Kd.C_alloc ?_ _) | (with_reducible refine Kd.C_drewN ?_ _) | (with_reducible refine Kd.C_drew ?_))); (case side2 => exact HC0_2.out); rintro e w' ⟨rfl, ⟨nd, rfl⟩⟩; refine ⟨_, rfl, ?_⟩) | ((with_reducible refine gate_callee (f := 31) rfl ?_); refine goesL_ (some 10) rfl rfl Try.func31 (by kernel_rfl) rfl #[.int .i64 a1, .int .i64 0, .int .i64 (wrap64 (t270 - 1))] rfl (by (try simp only [List.map_toArray, List.map_cons, List.map_nil]); first | done | rfl | (simp only [List.length_drop, List.length_take]; rfl)) ?_; (with_reducible refine (impl_within.calls a1 0 (wrap64 (t270 - 1)) t271 _ A4.out).mono ?_); rintro e w' ⟨rfl, ⟨nd, rfl⟩⟩; refine ⟨_, rfl, ?_⟩))
 go_ret
 exact ⟨by first | rfl | (simp [errW_none, errW_some] <;> rfl) | (simp [*, errW_none, errW_some] <;> rfl), by repeat (first | (with_reducible first | exact HB.out | apply pA | apply pN | apply pD | refine pS ?_ GE269.out) | exact HB.out)⟩
end Go.Proofs.Ytlmkkmoammgjdaa.P
namespace Go.Proofs.Ytlmkkmoammgjdaa.P
open Go.RowKit Go.Proofs.YtlmkkmoammgjdaaW.PrintWords Go.Proofs.YtlmkkmoammgjdaaW.PrintLast Go.Proofs.YtlmkkmoammgjdaaW.PrintMore
attribute [local go_sem] max2_int min2_int max_two min_two max_three min_three max_four min_four
set_option linter.unusedVariables false
set_option linter.unusedSimpArgs false
def impl_size_Limpl_Push.f (l0 : List (List (S92))) : Option (Int) := some (l0.length : Int)
set_option maxHeartbeats 8000000 in
set_option maxRecDepth 100000 in
theorem impl_size_Limpl_Push.calls (A0 : Option Addr) (c0 : Nat) (l0 : List (List (S92))) (r : Int) (w : World) (hr0 : Kd.C (Kd.slice 92 k92) w A0 l0.length l0) (hc0 : l0.length ≤ c0) (h : impl_size_Limpl_Push.f l0 = some r) :
  Calls Try.prog 50 #[.slice A0 l0.length c0] w fun e w' => e = .returned (.int .i64 r) ∧ Drawn0 w w' := by
 have HR0 := AZ.mk hr0
 have HC0 := AZ.mk hc0
 clear hr0 hc0
 have H : (some (l0.length : Int)) = some r := h
 clear h
 obtain rfl := Option.some.inj H
 go_enter Try.func50, Try.ntmps50
 go_wp2
 go_ret
 exact ⟨by first | rfl | (simp; done) | (simp [*]; done), by repeat (first | exact Drawn0.refl _ | apply Drawn0.step)⟩
end Go.Proofs.Ytlmkkmoammgjdaa.P
namespace Go.Proofs.Ytlmkkmoammgjdaa.P
open Go.RowKit Go.Proofs.YtlmkkmoammgjdaaW.PrintWords Go.Proofs.YtlmkkmoammgjdaaW.PrintLast Go.Proofs.YtlmkkmoammgjdaaW.PrintMore
attribute [local go_sem] max2_int min2_int max_two min_two max_three min_three max_four min_four
set_option linter.unusedVariables false
set_option linter.unusedSimpArgs false
def impl_size_LLint64.f (l0 : List (List (List Int))) : Option (Int) := some (l0.length : Int)
set_option maxHeartbeats 8000000 in
set_option maxRecDepth 100000 in
theorem impl_size_LLint64.calls (A0 : Option Addr) (c0 : Nat) (l0 : List (List (List Int))) (r : Int) (w : World) (hr0 : Kd.C (Kd.slice 60 (Kd.slice 2 (Kd.int .i64))) w A0 l0.length l0) (hc0 : l0.length ≤ c0) (h : impl_size_LLint64.f l0 = some r) :
  Calls Try.prog 51 #[.slice A0 l0.length c0] w fun e w' => e = .returned (.int .i64 r) ∧ Drawn0 w w' := by
 have HR0 := AZ.mk hr0
 have HC0 := AZ.mk hc0
 clear hr0 hc0
 have H : (some (l0.length : Int)) = some r := h
 clear h
 obtain rfl := Option.some.inj H
 go_enter Try.func51, Try.ntmps51
 go_wp2
 go_ret
 exact ⟨by first | rfl | (simp; done) | (simp [*]; done), by repeat (first | exact Drawn0.refl _ | apply Drawn0.step)⟩
end Go.Proofs.Ytlmkkmoammgjdaa.P
namespace Go.Proofs.Ytlmkkmoammgjdaa.P
open Go.RowKit Go.Proofs.YtlmkkmoammgjdaaW.PrintWords Go.Proofs.YtlmkkmoammgjdaaW.PrintLast Go.Proofs.YtlmkkmoammgjdaaW.PrintMore
attribute [local go_sem] max2_int min2_int max_two min_two max_three min_three max_four min_four
set_option linter.unusedVariables false
set_option linter.unusedSimpArgs false
def impl_size_Lint64.f (l0 : List (List Int)) : Option (Int) := some (l0.length : Int)
set_option maxHeartbeats 8000000 in
set_option maxRecDepth 100000 in
theorem impl_size_Lint64.calls (A0 : Option Addr) (c0 : Nat) (l0 : List (List Int)) (r : Int) (w : World) (hr0 : Kd.C (Kd.slice 2 (Kd.int .i64)) w A0 l0.length l0) (hc0 : l0.length ≤ c0) (h : impl_size_Lint64.f l0 = some r) :
  Calls Try.prog 52 #[.slice A0 l0.length c0] w fun e w' => e = .returned (.int .i64 r) ∧ Drawn0 w w' := by
 have HR0 := AZ.mk hr0
 have HC0 := AZ.mk hc0
 clear hr0 hc0
 have H : (some (l0.length : Int)) = some r := h
 clear h
 obtain rfl := Option.some.inj H
 go_enter Try.func52, Try.ntmps52
 go_wp2
 go_ret
 exact ⟨by first | rfl | (simp; done) | (simp [*]; done), by repeat (first | exact Drawn0.refl _ | apply Drawn0.step)⟩
end Go.Proofs.Ytlmkkmoammgjdaa.P
namespace Go.Proofs.Ytlmkkmoammgjdaa.P
open Go.RowKit Go.Proofs.YtlmkkmoammgjdaaW.PrintWords Go.Proofs.YtlmkkmoammgjdaaW.PrintLast Go.Proofs.YtlmkkmoammgjdaaW.PrintMore
attribute [local go_sem] max2_int min2_int max_two min_two max_three min_three max_four min_four
set_option linter.unusedVariables false
set_option linter.unusedSimpArgs false
def impl_Checker_isMark.f (a0_0 : Int) (a0_1 : Int) (l0_2 : List Bool) (l0_3 : List (List (S92))) (l0_4 : List (List (List Int))) (l0_5 : List (List Int)) (a1 : Int) : Option (Bool) := (impl_within.f a1 0 (wrap64 (a0_0 - 1))).bind fun t273 => (some t273)
set_option maxHeartbeats 8000000 in
set_option maxRecDepth 100000 in
theorem impl_Checker_isMark.calls (a0_0 : Int) (a0_1 : Int) (A0_2 : Option Addr) (c0_2 : Nat) (l0_2 : List Bool) (A0_3 : Option Addr) (c0_3 : Nat) (l0_3 : List (List (S92))) (A0_4 : Option Addr) (c0_4 : Nat) (l0_4 : List (List (List Int))) (A0_5 : Option Addr) (c0_5 : Nat) (l0_5 : List (List Int)) (a1 : Int) (r : Bool) (w : World) (hr0_2 : Kd.C Kd.bool w A0_2 l0_2.length l0_2) (hc0_2 : l0_2.length ≤ c0_2) (hr0_3 : Kd.C (Kd.slice 92 k92) w A0_3 l0_3.length l0_3) (hc0_3 : l0_3.length ≤ c0_3) (hr0_4 : Kd.C (Kd.slice 60 (Kd.slice 2 (Kd.int .i64))) w A0_4 l0_4.length l0_4) (hc0_4 : l0_4.length ≤ c0_4) (hr0_5 : Kd.C (Kd.slice 2 (Kd.int .i64)) w A0_5 l0_5.length l0_5) (hc0_5 : l0_5.length ≤ c0_5) (h : impl_Checker_isMark.f a0_0 a0_1 l0_2 l0_3 l0_4 l0_5 a1 = some r) :
  Calls Try.prog 57 #[.agg #[.int .i64 a0_0, .int .i64 a0_1, .slice A0_2 l0_2.length c0_2, .slice A0_3 l0_3.length c0_3, .slice A0_4 l0_4.length c0_4, .slice A0_5 l0_5.length c0_5], .int .i64 a1] w fun e w' => e = .returned (.bool r) ∧ Below w.heap.size w w' := by
 have hu36 := Try.underlying36
 have HR0_2 := AZ.mk hr0_2
 have HC0_2 := AZ.mk hc0_2
 clear hr0_2 hc0_2
 have HR0_3 := AZ.mk hr0_3
 have HC0_3 := AZ.mk hc0_3
 clear hr0_3 hc0_3
 have HR0_4 := AZ.mk hr0_4
 have HC0_4 := AZ.mk hc0_4
 clear hr0_4 hc0_4
 have HR0_5 := AZ.mk hr0_5
 have HC0_5 := AZ.mk hc0_5
 clear hr0_5 hc0_5
 have HB := AZ.mk (Below.refl w.heap.size w)
 have H : ((impl_within.f a1 0 (wrap64 (a0_0 - 1))).bind fun t273 => (some t273)) = some r := h
 clear h
 replace H := Option.bind_eq_some_iff.mp H
 obtain ⟨t273, A30, H⟩ := H
 replace H : (some t273) = some r := H
 have A3 := AZ.mk A30
 clear A30
 obtain rfl := Option.some.inj H
 go_enter Try.func57, Try.ntmps57
 go_wp2_with (first | ((with_reducible refine gate_dst (N := 2) rfl ?_); refine box_event ?hg (N := 2) ?hd (cs := #[.int .i64 a0_0, .int .i64 a0_1, .slice A0_2 l0_2.length c0_2, .slice A0_3 l0_3.length c0_3, .slice A0_4 l0_4.length c0_4, .slice A0_5 l0_5.length c0_5]) (t := 36) ?hr ?_; (case hd => rfl); (case hg => rfl); (case hr => first | (go_simp; done) | (go_simp; rfl)); intro gb272 hg w4 hbox hb; have n0_ := AZ.mk (pT (by repeat (first | (with_reducible first | exact HB.out | apply pA | apply pN | apply pD) | exact HB.out)) hb); have n1_ := AZ.mk (hbox); have n2_ := AZ.mk ((by rw [hg]; exact (pZ (by repeat (first | (with_reducible first | exact HB.out | apply pA | apply pN | apply pD) | exact HB.out))) : w.heap.size ≤ gb272)); have n3_ := AZ.mk ((by rw [hg]; exact (pZ (by repeat (first | (with_reducible first | exact HB.out | apply pA | apply pN | apply pD) | exact HB.out))) : w.heap.size ≤ gb272)); clear HB; have HB := n0_; have BK272 := n1_; have GW272 := n2_; have GE272 := n3_; clear n0_ n1_ n2_ n3_; clear hb hbox hg; obtain ⟨hcz5_0, hcz5_1, hcz5_2, hcz5_3, hcz5_4, hcz5_5⟩ := c6 BK272.out; obtain ⟨hfz5_0, hfz5_1, hfz5_2, hfz5_3, hfz5_4, hfz5_5⟩ := f6 BK272.out) | ((with_reducible refine gate_callee (f := 31) rfl ?_); refine goesL_ (some 9) rfl rfl Try.func31 (by kernel_rfl) rfl #[.int .i64 a1, .int .i64 0, .int .i64 (wrap64 (a0_0 - 1))] rfl (by (try simp only [List.map_toArray, List.map_cons, List.map_nil]); first | done | rfl | (simp only [List.length_drop, List.length_take]; rfl)) ?_; (with_reducible refine (impl_within.calls a1 0 (wrap64 (a0_0 - 1)) t273 _ A3.out).mono ?_); rintro e w' ⟨rfl, ⟨nd, rfl⟩⟩; refine ⟨_, rfl, ?_⟩))
 go_ret
 exact ⟨by first | rfl | (simp [errW_none, errW_some] <;> rfl) | (simp [*, errW_none, errW_some] <;> rfl), by repeat (first | (with_reducible first | exact HB.out | apply pA | apply pN | apply pD | refine pS ?_ GE272.out) | exact HB.out)⟩
end Go.Proofs.Ytlmkkmoammgjdaa.P
namespace Go.Proofs.Ytlmkkmoammgjdaa.P
open Go.RowKit Go.Proofs.YtlmkkmoammgjdaaW.PrintWords Go.Proofs.YtlmkkmoammgjdaaW.PrintLast Go.Proofs.YtlmkkmoammgjdaaW.PrintMore
attribute [local go_sem] max2_int min2_int max_two min_two max_three min_three max_four min_four
set_option linter.unusedVariables false
set_option linter.unusedSimpArgs false
def impl_size_int64.f (l0 : List Int) : Option (Int) := some (l0.length : Int)
set_option maxHeartbeats 8000000 in
set_option maxRecDepth 100000 in
theorem impl_size_int64.calls (A0 : Option Addr) (c0 : Nat) (l0 : List Int) (r : Int) (w : World) (hr0 : Kd.C (Kd.int .i64) w A0 l0.length l0) (hc0 : l0.length ≤ c0) (h : impl_size_int64.f l0 = some r) :
  Calls Try.prog 54 #[.slice A0 l0.length c0] w fun e w' => e = .returned (.int .i64 r) ∧ Drawn0 w w' := by
 have HR0 := AZ.mk hr0
 have HC0 := AZ.mk hc0
 clear hr0 hc0
 have H : (some (l0.length : Int)) = some r := h
 clear h
 obtain rfl := Option.some.inj H
 go_enter Try.func54, Try.ntmps54
 go_wp2
 go_ret
 exact ⟨by first | rfl | (simp; done) | (simp [*]; done), by repeat (first | exact Drawn0.refl _ | apply Drawn0.step)⟩
end Go.Proofs.Ytlmkkmoammgjdaa.P
namespace Go.Proofs.Ytlmkkmoammgjdaa.P
open Go.RowKit Go.Proofs.YtlmkkmoammgjdaaW.PrintWords Go.Proofs.YtlmkkmoammgjdaaW.PrintLast Go.Proofs.YtlmkkmoammgjdaaW.PrintMore
attribute [local go_sem] max2_int min2_int max_two min_two max_three min_three max_four min_four
set_option linter.unusedVariables false
set_option linter.unusedSimpArgs false
def impl_ValidChecker_1_1_c.f (a0 : Int) (a1_0 : Int) (a1_1 : Int) (l1_2 : List Bool) (l1_3 : List (List (S92))) (l1_4 : List (List (List Int))) (l1_5 : List (List Int)) : Option (Bool) := (impl_Checker_isState.f a1_0 a1_1 l1_2 l1_3 l1_4 l1_5 a0).bind fun t287 => (some (!t287))
set_option maxHeartbeats 8000000 in
set_option maxRecDepth 100000 in
theorem impl_ValidChecker_1_1_c.calls (a0 : Int) (g1_ : Nat) (a1_0 : Int) (a1_1 : Int) (A1_2 : Option Addr) (c1_2 : Nat) (l1_2 : List Bool) (A1_3 : Option Addr) (c1_3 : Nat) (l1_3 : List (List (S92))) (A1_4 : Option Addr) (c1_4 : Nat) (l1_4 : List (List (List Int))) (A1_5 : Option Addr) (c1_5 : Nat) (l1_5 : List (List Int)) (r : Bool) (w : World) (hr1_2 : Kd.C Kd.bool w A1_2 l1_2.length l1_2) (hc1_2 : l1_2.length ≤ c1_2) (hr1_3 : Kd.C (Kd.slice 92 k92) w A1_3 l1_3.length l1_3) (hc1_3 : l1_3.length ≤ c1_3) (hr1_4 : Kd.C (Kd.slice 60 (Kd.slice 2 (Kd.int .i64))) w A1_4 l1_4.length l1_4) (hc1_4 : l1_4.length ≤ c1_4) (hr1_5 : Kd.C (Kd.slice 2 (Kd.int .i64)) w A1_5 l1_5.length l1_5) (hc1_5 : l1_5.length ≤ c1_5) (hbk1_0 : w.heap[g1_]? = some (.cells #[.int .i64 a1_0, .int .i64 a1_1, .slice A1_2 l1_2.length c1_2, .slice A1_3 l1_3.length c1_3, .slice A1_4 l1_4.length c1_4, .slice A1_5 l1_5.length c1_5] 36 (0, 0))) (h : impl_ValidChecker_1_1_c.f a0 a1_0 a1_1 l1_2 l1_3 l1_4 l1_5 = some r) :
  Calls Try.prog 56 #[.int .i64 a0, .pointer (some ⟨g1_, 0, none⟩)] w fun e w' => e = .returned (.bool r) ∧ Below w.heap.size w w' := by
 have hu36 := Try.underlying36
 have HR1_2 := AZ.mk hr1_2
 have HC1_2 := AZ.mk hc1_2
 clear hr1_2 hc1_2
 have HR1_3 := AZ.mk hr1_3
 have HC1_3 := AZ.mk hc1_3
 clear hr1_3 hc1_3
 have HR1_4 := AZ.mk hr1_4
 have HC1_4 := AZ.mk hc1_4
 clear hr1_4 hc1_4
 have HR1_5 := AZ.mk hr1_5
 have HC1_5 := AZ.mk hc1_5
 clear hr1_5 hc1_5
 have BK1 := AZ.mk hbk1_0
 clear hbk1_0
 have HB := AZ.mk (Below.refl w.heap.size w)
 have H : ((impl_Checker_isState.f a1_0 a1_1 l1_2 l1_3 l1_4 l1_5 a0).bind fun t287 => (some (!t287))) = some r := h
 clear h
 replace H := Option.bind_eq_some_iff.mp H
 obtain ⟨t287, A30, H⟩ := H
 replace H : (some (!t287)) = some r := H
 have A3 := AZ.mk A30
 clear A30
 obtain rfl := Option.some.inj H
 obtain ⟨hcz4_0, hcz4_1, hcz4_2, hcz4_3, hcz4_4, hcz4_5⟩ := c6 BK1.out
 obtain ⟨hfz4_0, hfz4_1, hfz4_2, hfz4_3, hfz4_4, hfz4_5⟩ := f6 BK1.out
 go_enter Try.func56, Try.ntmps56
 go_wp2_with (first | ((with_reducible refine gate_callee (f := 49) rfl ?_); refine goesL_ (some 6) rfl rfl Try.func49 (by kernel_rfl) rfl #[.agg #[.int .i64 a1_0, .int .i64 a1_1, .slice A1_2 l1_2.length c1_2, .slice A1_3 l1_3.length c1_3, .slice A1_4 l1_4.length c1_4, .slice A1_5 l1_5.length c1_5], .int .i64 a0] rfl (by (try simp only [List.map_toArray, List.map_cons, List.map_nil]); first | done | rfl | (simp only [List.length_drop, List.length_take]; rfl)) ?_; (with_reducible refine (impl_Checker_isState.calls a1_0 a1_1 _ _ l1_2 _ _ l1_3 _ _ l1_4 _ _ l1_5 a0 t287 _ ?side1 ?side2 ?side3 ?side4 ?side5 ?side6 ?side7 ?side8 A3.out).mono ?_); (case side1 => repeat (first | exact HR1_2.out | (with_reducible refine Kd.C_alloc ?_ _) | (with_reducible refine Kd.C_drewN ?_ _) | (with_reducible refine Kd.C_drew ?_))); (case side2 => exact HC1_2.out); (case side3 => repeat (first | exact HR1_3.out | (with_reducible refine Kd.C_alloc ?_ _) | (with_reducible refine Kd.C_drewN ?_ _) | (with_reducible refine Kd.C_drew ?_))); (case side4 => exact HC1_3.out); (case side5 => repeat (first | exact HR1_4.out | (with_reducible refine Kd.C_alloc ?_ _) | (with_reducible refine Kd.C_drewN ?_ _) | (with_reducible refine Kd.C_drew ?_))); (case side6 => exact HC1_4.out); (case side7 => repeat (first | exact HR1_5.out | (with_reducible refine Kd.C_alloc ?_ _) | (with_reducible refine Kd.C_drewN ?_ _) | (with_reducible refine Kd.C_drew ?_))); (case side8 => exact HC1_5.out); rintro e w5 ⟨rfl, hb⟩; refine ⟨_, rfl, ?_⟩; have n0_ := AZ.mk (bb_ (g := g1_) (o := .cells #[.int .i64 a1_0, .int .i64 a1_1, .slice A1_2 l1_2.length c1_2, .slice A1_3 l1_3.length c1_3, .slice A1_4 l1_4.length c1_4, .slice A1_5 l1_5.length c1_5] 36 (0, 0)) (by (with_reducible repeat (first | refine bn_ ?_ _ | refine bd_ ?_ | refine ba_ ?_ _)); exact BK1.out) hb); have n1_ := AZ.mk (pT (by repeat (first | (with_reducible first | exact HB.out | apply pA | apply pN | apply pD | refine pS ?_ GE1.out) | exact HB.out)) hb); clear BK1; clear HB; have BK1 := n0_; have HB := n1_; clear n0_ n1_; (try clear hb); (try clear hb2); (try clear hk); (try clear hi)))
 go_ret
 exact ⟨by first | rfl | (simp [errW_none, errW_some] <;> rfl) | (simp [*, errW_none, errW_some] <;> rfl), by repeat (first | (with_reducible first | exact HB.out | apply pA | apply pN | apply pD | refine pS ?_ GE1.out) | exact HB.out)⟩
end Go.Proofs.Ytlmkkmoammgjdaa.P
namespace Go.Proofs.Ytlmkkmoammgjdaa.P
open Go.RowKit Go.Proofs.YtlmkkmoammgjdaaW.PrintWords Go.Proofs.YtlmkkmoammgjdaaW.PrintLast Go.Proofs.YtlmkkmoammgjdaaW.PrintMore
attribute [local go_sem] max2_int min2_int max_two min_two max_three min_three max_four min_four
set_option linter.unusedVariables false
set_option linter.unusedSimpArgs false
def slices_IndexFunc_Lint64_int64_at_impl_ValidChecker_1_1.l0 : Nat → List Int → Int → Int → Int → Int → List Bool → List (List (S92)) → List (List (List Int)) → List (List Int) → Option (Int)
 | 0, _, _, _, _, _, _, _, _, _ => none
 | k + 1, x0, x7, x8, x56000, x56001, x56002, x56003, x56004, x56005 => if x8 < x7 then (if 0 ≤ x8 then (if x8 < (x0.length : Int) then ((impl_ValidChecker_1_1_c.f (rd x0 x8) x56000 x56001 x56002 x56003 x56004 x56005).bind fun t287 => (if t287 = true then (some x8) else (slices_IndexFunc_Lint64_int64_at_impl_ValidChecker_1_1.l0 k x0 x7 (wrap64 (x8 + 1)) x56000 x56001 x56002 x56003 x56004 x56005))) else (none)) else (none)) else (some (-1))
def slices_IndexFunc_Lint64_int64_at_impl_ValidChecker_1_1.f (k : Nat) (l0 : List Int) (a1_0 : Int) (a1_1 : Int) (l1_2 : List Bool) (l1_3 : List (List (S92))) (l1_4 : List (List (List Int))) (l1_5 : List (List Int)) : Option (Int) := slices_IndexFunc_Lint64_int64_at_impl_ValidChecker_1_1.l0 k l0 (l0.length : Int) 0 a1_0 a1_1 l1_2 l1_3 l1_4 l1_5
set_option maxHeartbeats 8000000 in
set_option maxRecDepth 100000 in
theorem slices_IndexFunc_Lint64_int64_at_impl_ValidChecker_1_1.calls (k : Nat) (A0 : Option Addr) (c0 : Nat) (l0 : List Int) (g1_0_ : Nat) (a1_0 : Int) (a1_1 : Int) (A1_2 : Option Addr) (c1_2 : Nat) (l1_2 : List Bool) (A1_3 : Option Addr) (c1_3 : Nat) (l1_3 : List (List (S92))) (A1_4 : Option Addr) (c1_4 : Nat) (l1_4 : List (List (List Int))) (A1_5 : Option Addr) (c1_5 : Nat) (l1_5 : List (List Int)) (r : Int) (w : World) (hr0 : Kd.C (Kd.int .i64) w A0 l0.length l0) (hc0 : l0.length ≤ c0) (hr1_2 : Kd.C Kd.bool w A1_2 l1_2.length l1_2) (hc1_2 : l1_2.length ≤ c1_2) (hr1_3 : Kd.C (Kd.slice 92 k92) w A1_3 l1_3.length l1_3) (hc1_3 : l1_3.length ≤ c1_3) (hr1_4 : Kd.C (Kd.slice 60 (Kd.slice 2 (Kd.int .i64))) w A1_4 l1_4.length l1_4) (hc1_4 : l1_4.length ≤ c1_4) (hr1_5 : Kd.C (Kd.slice 2 (Kd.int .i64)) w A1_5 l1_5.length l1_5) (hc1_5 : l1_5.length ≤ c1_5) (hbk1_0 : w.heap[g1_0_]? = some (.cells #[.int .i64 a1_0, .int .i64 a1_1, .slice A1_2 l1_2.length c1_2, .slice A1_3 l1_3.length c1_3, .slice A1_4 l1_4.length c1_4, .slice A1_5 l1_5.length c1_5] 36 (0, 0))) (h : slices_IndexFunc_Lint64_int64_at_impl_ValidChecker_1_1.f k l0 a1_0 a1_1 l1_2 l1_3 l1_4 l1_5 = some r) :
  Calls Try.prog 70 #[.slice A0 l0.length c0, .func (.func 56) #[] #[.pointer (some ⟨g1_0_, 0, none⟩)]] w fun e w' => e = .returned (.int .i64 r) ∧ Below w.heap.size w w' := by
 have HR0 := AZ.mk hr0
 have HC0 := AZ.mk hc0
 clear hr0 hc0
 have HR1_2 := AZ.mk hr1_2
 have HC1_2 := AZ.mk hc1_2
 clear hr1_2 hc1_2
 have HR1_3 := AZ.mk hr1_3
 have HC1_3 := AZ.mk hc1_3
 clear hr1_3 hc1_3
 have HR1_4 := AZ.mk hr1_4
 have HC1_4 := AZ.mk hc1_4
 clear hr1_4 hc1_4
 have HR1_5 := AZ.mk hr1_5
 have HC1_5 := AZ.mk hc1_5
 clear hr1_5 hc1_5
 have BK55 := AZ.mk hbk1_0
 clear hbk1_0
 have HB := AZ.mk (Below.refl w.heap.size w)
 have H : (slices_IndexFunc_Lint64_int64_at_impl_ValidChecker_1_1.l0 k l0 (l0.length : Int) 0 a1_0 a1_1 l1_2 l1_3 l1_4 l1_5) = some r := h
 clear h
 have H' := AZ.mk H
 clear H
 go_enter Try.func70, Try.ntmps70
 go_wp2
 go_loopg [8] k (fun kq v8 w' => ∃ (x8_1 : Int), v8 = .int .i64 x8_1 ∧ AZ (slices_IndexFunc_Lint64_int64_at_impl_ValidChecker_1_1.l0 kq l0 (l0.length : Int) x8_1 a1_0 a1_1 l1_2 l1_3 l1_4 l1_5 = some r) ∧ AZ (kq ≤ k) ∧ AZ (w'.heap[g1_0_]? = some (.cells #[.int .i64 a1_0, .int .i64 a1_1, (.slice A1_2 l1_2.length c1_2), (.slice A1_3 l1_3.length c1_3), (.slice A1_4 l1_4.length c1_4), (.slice A1_5 l1_5.length c1_5)] 36 (0, 0))) ∧ AZ (Below w.heap.size w w'))
 case atStart => exact ⟨(0), (by first | rfl | (simp; done) | (simp [*]; done)), H', ⟨Nat.le_refl _⟩, ⟨by (with_reducible repeat (first | refine bn_ ?_ _ | refine bd_ ?_ | refine ba_ ?_ _)); exact BK55.out⟩, ⟨by repeat (first | (with_reducible first | exact HB.out | apply pA | apply pN | apply pD | refine pS ?_ GE55.out) | exact HB.out)⟩⟩
 case round =>
  clear H'
  try clear c1
  try clear p2
  obtain ⟨x8_1, rfl, HA, HK1, BK55, HB⟩ := hrel
  cases gk with
  | zero => exact absurd HA.out (by simp [slices_IndexFunc_Lint64_int64_at_impl_ValidChecker_1_1.l0])
  | succ k1 =>
   have H := HA.out
   clear HA
   simp only [slices_IndexFunc_Lint64_int64_at_impl_ValidChecker_1_1.l0] at H
   by_cases c3 : x8_1 < (l0.length : Int)
   rotate_left
   ·rw [if_neg c3] at H
    have c3b0 : decide (x8_1 < (l0.length : Int)) = false := decide_eq_false c3
    clear c3
    obtain rfl := Option.some.inj H
    go_wp2
    go_ret
    exact ⟨by first | rfl | (simp [errW_none, errW_some] <;> rfl) | (simp [*, errW_none, errW_some] <;> rfl), by repeat (first | (with_reducible first | exact HB.out | apply pA | apply pN | apply pD | refine pS ?_ GE55.out) | exact HB.out)⟩
   rw [if_pos c3] at H
   have c3b0 : decide (x8_1 < (l0.length : Int)) = true := decide_eq_true c3
   clear c3
   by_cases c4 : 0 ≤ x8_1
   rotate_left
   ·rw [if_neg c4] at H
    exact absurd H (by simp)
   rw [if_pos c4] at H
   have c4b0 : decide (0 ≤ x8_1) = true := decide_eq_true c4
   clear c4
   by_cases c5 : x8_1 < (l0.length : Int)
   rotate_left
   ·rw [if_neg c5] at H
    exact absurd H (by simp)
   rw [if_pos c5] at H
   have c5b0 : decide (x8_1 < (l0.length : Int)) = true := decide_eq_true c5
   clear c5
   replace H := Option.bind_eq_some_iff.mp H
   obtain ⟨t287, A60, H⟩ := H
   replace H : (if t287 = true then (some x8_1) else (slices_IndexFunc_Lint64_int64_at_impl_ValidChecker_1_1.l0 k1 l0 (l0.length : Int) (wrap64 (x8_1 + 1)) a1_0 a1_1 l1_2 l1_3 l1_4 l1_5)) = some r := H
   have A6 := AZ.mk A60
   clear A60
   by_cases c7 : t287 = true
   ·subst c7
    have H1 : (some x8_1) = some r := by rw [if_pos rfl] at H; exact H
    clear H
    have H := H1
    clear H1
    obtain rfl := Option.some.inj H
    have p286 : 0 ≤ (x8_1 : Int) := oT (by first | (with_reducible assumption) | assumption)
    have q286 : x8_1 < (l0.length : Int) := oT (by first | (with_reducible assumption) | assumption)
    obtain ⟨ad286, e286, hx286_0⟩ := Kd.at_int HR0.out x8_1 p286 q286
    cases e286
    replace hx286_0 := (HB.out.cell (World.block_lt_of_cell? w _ hx286_0)).trans hx286_0
    replace p286 := eq_true p286
    replace q286 := eq_true q286
    go_wp2_with (first | ((with_reducible refine gate_value (t := 11) rfl ?_); refine goesVL_ (some 16) rfl rfl Try.func56 (by kernel_rfl) rfl #[.int .i64 (rd l0 x8_1)] #[.int .i64 (rd l0 x8_1), .pointer (some ⟨g1_0_, 0, none⟩)] rfl (by rfl) (by (try simp only [List.map_toArray, List.map_cons, List.map_nil]); first | done | rfl | (simp only [List.length_drop, List.length_take]; rfl)) (by rfl) ?_; (with_reducible refine (impl_ValidChecker_1_1_c.calls (rd l0 x8_1) g1_0_ a1_0 a1_1 A1_2 c1_2 l1_2 A1_3 c1_3 l1_3 A1_4 c1_4 l1_4 A1_5 c1_5 l1_5 true _ ?side1 ?side2 ?side3 ?side4 ?side5 ?side6 ?side7 ?side8 ?side9 A6.out).mono ?_); (case side1 => repeat (first | exact (Kd.C_below HR1_2.out HB.out) | (with_reducible refine Kd.C_alloc ?_ _) | (with_reducible refine Kd.C_drewN ?_ _) | (with_reducible refine Kd.C_drew ?_))); (case side2 => exact HC1_2.out); (case side3 => repeat (first | exact (Kd.C_below HR1_3.out HB.out) | (with_reducible refine Kd.C_alloc ?_ _) | (with_reducible refine Kd.C_drewN ?_ _) | (with_reducible refine Kd.C_drew ?_))); (case side4 => exact HC1_3.out); (case side5 => repeat (first | exact (Kd.C_below HR1_4.out HB.out) | (with_reducible refine Kd.C_alloc ?_ _) | (with_reducible refine Kd.C_drewN ?_ _) | (with_reducible refine Kd.C_drew ?_))); (case side6 => exact HC1_4.out); (case side7 => repeat (first | exact (Kd.C_below HR1_5.out HB.out) | (with_reducible refine Kd.C_alloc ?_ _) | (with_reducible refine Kd.C_drewN ?_ _) | (with_reducible refine Kd.C_drew ?_))); (case side8 => exact HC1_5.out); (case side9 => exact (by (with_reducible repeat (first | refine bn_ ?_ _ | refine bd_ ?_ | refine ba_ ?_ _)); exact BK55.out)); rintro e w8 ⟨rfl, hb⟩; refine ⟨_, rfl, ?_⟩; have n0_ := AZ.mk (bb_ (g := g1_0_) (o := .cells #[.int .i64 a1_0, .int .i64 a1_1, .slice A1_2 l1_2.length c1_2, .slice A1_3 l1_3.length c1_3, .slice A1_4 l1_4.length c1_4, .slice A1_5 l1_5.length c1_5] 36 (0, 0)) (by (with_reducible repeat (first | refine bn_ ?_ _ | refine bd_ ?_ | refine ba_ ?_ _)); exact BK55.out) hb); have n1_ := AZ.mk (pT (by repeat (first | (with_reducible first | exact HB.out | apply pA | apply pN | apply pD | refine pS ?_ GE55.out) | exact HB.out)) hb); clear BK55; clear HB; have BK55 := n0_; have HB := n1_; clear n0_ n1_; (try clear hb); (try clear hb2); (try clear hk); (try clear hi)))
    go_ret
    exact ⟨by first | rfl | (simp [errW_none, errW_some] <;> rfl) | (simp [*, errW_none, errW_some] <;> rfl), by repeat (first | (with_reducible first | exact HB.out | apply pA | apply pN | apply pD | refine pS ?_ GE55.out) | exact HB.out)⟩
   replace c7 := Bool.eq_false_iff.mpr c7
   subst c7
   have H1 : (slices_IndexFunc_Lint64_int64_at_impl_ValidChecker_1_1.l0 k1 l0 (l0.length : Int) (wrap64 (x8_1 + 1)) a1_0 a1_1 l1_2 l1_3 l1_4 l1_5) = some r := by rw [if_neg (show ¬ (false = true) by decide)] at H; exact H
   clear H
   have H := H1
   clear H1
   have H' := AZ.mk H
   clear H
   have p286 : 0 ≤ (x8_1 : Int) := oT (by first | (with_reducible assumption) | assumption)
   have q286 : x8_1 < (l0.length : Int) := oT (by first | (with_reducible assumption) | assumption)
   obtain ⟨ad286, e286, hx286_0⟩ := Kd.at_int HR0.out x8_1 p286 q286
   cases e286
   replace hx286_0 := (HB.out.cell (World.block_lt_of_cell? w _ hx286_0)).trans hx286_0
   replace p286 := eq_true p286
   replace q286 := eq_true q286
   go_wp2_with (first | ((with_reducible refine gate_value (t := 11) rfl ?_); refine goesVL_ (some 16) rfl rfl Try.func56 (by kernel_rfl) rfl #[.int .i64 (rd l0 x8_1)] #[.int .i64 (rd l0 x8_1), .pointer (some ⟨g1_0_, 0, none⟩)] rfl (by rfl) (by (try simp only [List.map_toArray, List.map_cons, List.map_nil]); first | done | rfl | (simp only [List.length_drop, List.length_take]; rfl)) (by rfl) ?_; (with_reducible refine (impl_ValidChecker_1_1_c.calls (rd l0 x8_1) g1_0_ a1_0 a1_1 A1_2 c1_2 l1_2 A1_3 c1_3 l1_3 A1_4 c1_4 l1_4 A1_5 c1_5 l1_5 false _ ?side1 ?side2 ?side3 ?side4 ?side5 ?side6 ?side7 ?side8 ?side9 A6.out).mono ?_); (case side1 => repeat (first | exact (Kd.C_below HR1_2.out HB.out) | (with_reducible refine Kd.C_alloc ?_ _) | (with_reducible refine Kd.C_drewN ?_ _) | (with_reducible refine Kd.C_drew ?_))); (case side2 => exact HC1_2.out); (case side3 => repeat (first | exact (Kd.C_below HR1_3.out HB.out) | (with_reducible refine Kd.C_alloc ?_ _) | (with_reducible refine Kd.C_drewN ?_ _) | (with_reducible refine Kd.C_drew ?_))); (case side4 => exact HC1_3.out); (case side5 => repeat (first | exact (Kd.C_below HR1_4.out HB.out) | (with_reducible refine Kd.C_alloc ?_ _) | (with_reducible refine Kd.C_drewN ?_ _) | (with_reducible refine Kd.C_drew ?_))); (case side6 => exact HC1_4.out); (case side7 => repeat (first | exact (Kd.C_below HR1_5.out HB.out) | (with_reducible refine Kd.C_alloc ?_ _) | (with_reducible refine Kd.C_drewN ?_ _) | (with_reducible refine Kd.C_drew ?_))); (case side8 => exact HC1_5.out); (case side9 => exact (by (with_reducible repeat (first | refine bn_ ?_ _ | refine bd_ ?_ | refine ba_ ?_ _)); exact BK55.out)); rintro e w9 ⟨rfl, hb⟩; refine ⟨_, rfl, ?_⟩; have n0_ := AZ.mk (bb_ (g := g1_0_) (o := .cells #[.int .i64 a1_0, .int .i64 a1_1, .slice A1_2 l1_2.length c1_2, .slice A1_3 l1_3.length c1_3, .slice A1_4 l1_4.length c1_4, .slice A1_5 l1_5.length c1_5] 36 (0, 0)) (by (with_reducible repeat (first | refine bn_ ?_ _ | refine bd_ ?_ | refine ba_ ?_ _)); exact BK55.out) hb); have n1_ := AZ.mk (pT (by repeat (first | (with_reducible first | exact HB.out | apply pA | apply pN | apply pD | refine pS ?_ GE55.out) | exact HB.out)) hb); clear BK55; clear HB; have BK55 := n0_; have HB := n1_; clear n0_ n1_; (try clear hb); (try clear hb2); (try clear hk); (try clear hi)))
   go_roundg k1
   case measure => have := HK1.out; omega
   case rel => exact ⟨(wrap64 (x8_1 + 1)), (by first | rfl | (simp; done) | (simp [*]; done)), H', ⟨by have := HK1.out; omega⟩, ⟨by (with_reducible repeat (first | refine bn_ ?_ _ | refine bd_ ?_ | refine ba_ ?_ _)); exact BK55.out⟩, ⟨by repeat (first | (with_reducible first | exact HB.out | apply pA | apply pN | apply pD | refine pS ?_ GE55.out) | exact HB.out)⟩⟩
end Go.Proofs.Ytlmkkmoammgjdaa.P
namespace Go.Proofs.Ytlmkkmoammgjdaa.P
open Go.RowKit Go.Proofs.YtlmkkmoammgjdaaW.PrintWords Go.Proofs.YtlmkkmoammgjdaaW.PrintLast Go.Proofs.YtlmkkmoammgjdaaW.PrintMore
attribute [local go_sem] max2_int min2_int max_two min_two max_three min_three max_four min_four
set_option linter.unusedVariables false
set_option linter.unusedSimpArgs false
def slices_ContainsFunc_Lint64_int64_at_impl_ValidChecker_1_1.f (k : Nat) (l0 : List Int) (a1_0 : Int) (a1_1 : Int) (l1_2 : List Bool) (l1_3 : List (List (S92))) (l1_4 : List (List (List Int))) (l1_5 : List (List Int)) : Option (Bool) := (slices_IndexFunc_Lint64_int64_at_impl_ValidChecker_1_1.f k l0 a1_0 a1_1 l1_2 l1_3 l1_4 l1_5).bind fun t286 => (some (decide (t286 ≥ 0)))
set_option maxHeartbeats 8000000 in
set_option maxRecDepth 100000 in
theorem slices_ContainsFunc_Lint64_int64_at_impl_ValidChecker_1_1.calls (k : Nat) (A0 : Option Addr) (c0 : Nat) (l0 : List Int) (g1_0_ : Nat) (a1_0 : Int) (a1_1 : Int) (A1_2 : Option Addr) (c1_2 : Nat) (l1_2 : List Bool) (A1_3 : Option Addr) (c1_3 : Nat) (l1_3 : List (List (S92))) (A1_4 : Option Addr) (c1_4 : Nat) (l1_4 : List (List (List Int))) (A1_5 : Option Addr) (c1_5 : Nat) (l1_5 : List (List Int)) (r : Bool) (w : World) (hr0 : Kd.C (Kd.int .i64) w A0 l0.length l0) (hc0 : l0.length ≤ c0) (hr1_2 : Kd.C Kd.bool w A1_2 l1_2.length l1_2) (hc1_2 : l1_2.length ≤ c1_2) (hr1_3 : Kd.C (Kd.slice 92 k92) w A1_3 l1_3.length l1_3) (hc1_3 : l1_3.length ≤ c1_3) (hr1_4 : Kd.C (Kd.slice 60 (Kd.slice 2 (Kd.int .i64))) w A1_4 l1_4.length l1_4) (hc1_4 : l1_4.length ≤ c1_4) (hr1_5 : Kd.C (Kd.slice 2 (Kd.int .i64)) w A1_5 l1_5.length l1_5) (hc1_5 : l1_5.length ≤ c1_5) (hbk1_0 : w.heap[g1_0_]? = some (.cells #[.int .i64 a1_0, .int .i64 a1_1, .slice A1_2 l1_2.length c1_2, .slice A1_3 l1_3.length c1_3, .slice A1_4 l1_4.length c1_4, .slice A1_5 l1_5.length c1_5] 36 (0, 0))) (h : slices_ContainsFunc_Lint64_int64_at_impl_ValidChecker_1_1.f k l0 a1_0 a1_1 l1_2 l1_3 l1_4 l1_5 = some r) :
  Calls Try.prog 55 #[.slice A0 l0.length c0, .func (.func 56) #[] #[.pointer (some ⟨g1_0_, 0, none⟩)]] w fun e w' => e = .returned (.bool r) ∧ Below w.heap.size w w' := by
 have HR0 := AZ.mk hr0
 have HC0 := AZ.mk hc0
 clear hr0 hc0
 have HR1_2 := AZ.mk hr1_2
 have HC1_2 := AZ.mk hc1_2
 clear hr1_2 hc1_2
 have HR1_3 := AZ.mk hr1_3
 have HC1_3 := AZ.mk hc1_3
 clear hr1_3 hc1_3
 have HR1_4 := AZ.mk hr1_4
 have HC1_4 := AZ.mk hc1_4
 clear hr1_4 hc1_4
 have HR1_5 := AZ.mk hr1_5
 have HC1_5 := AZ.mk hc1_5
 clear hr1_5 hc1_5
 have BK55 := AZ.mk hbk1_0
 clear hbk1_0
 have HB := AZ.mk (Below.refl w.heap.size w)
 have H : ((slices_IndexFunc_Lint64_int64_at_impl_ValidChecker_1_1.f k l0 a1_0 a1_1 l1_2 l1_3 l1_4 l1_5).bind fun t286 => (some (decide (t286 ≥ 0)))) = some r := h
 clear h
 replace H := Option.bind_eq_some_iff.mp H
 obtain ⟨t286, A30, H⟩ := H
 replace H : (some (decide (t286 ≥ 0))) = some r := H
 have A3 := AZ.mk A30
 clear A30
 obtain rfl := Option.some.inj H
 go_enter Try.func55, Try.ntmps55
 go_wp2_with (first | ((with_reducible refine gate_callee (f := 70) rfl ?_); refine goesL_ (some 7) rfl rfl Try.func70 (by kernel_rfl) rfl #[.slice A0 l0.length c0, .func (.func 56) #[] #[.pointer (some ⟨g1_0_, 0, none⟩)]] rfl (by (try simp only [List.map_toArray, List.map_cons, List.map_nil]); first | done | rfl | (simp only [List.length_drop, List.length_take]; rfl)) ?_; (with_reducible refine (slices_IndexFunc_Lint64_int64_at_impl_ValidChecker_1_1.calls k _ _ l0 g1_0_ a1_0 a1_1 A1_2 c1_2 l1_2 A1_3 c1_3 l1_3 A1_4 c1_4 l1_4 A1_5 c1_5 l1_5 t286 _ ?side1 ?side2 ?side3 ?side4 ?side5 ?side6 ?side7 ?side8 ?side9 ?side10 ?side11 A3.out).mono ?_); (case side1 => repeat (first | exact HR0.out | (with_reducible refine Kd.C_alloc ?_ _) | (with_reducible refine Kd.C_drewN ?_ _) | (with_reducible refine Kd.C_drew ?_))); (case side2 => exact HC0.out); (case side3 => repeat (first | exact HR1_2.out | (with_reducible refine Kd.C_alloc ?_ _) | (with_reducible refine Kd.C_drewN ?_ _) | (with_reducible refine Kd.C_drew ?_))); (case side4 => exact HC1_2.out); (case side5 => repeat (first | exact HR1_3.out | (with_reducible refine Kd.C_alloc ?_ _) | (with_reducible refine Kd.C_drewN ?_ _) | (with_reducible refine Kd.C_drew ?_))); (case side6 => exact HC1_3.out); (case side7 => repeat (first | exact HR1_4.out | (with_reducible refine Kd.C_alloc ?_ _) | (with_reducible refine Kd.C_drewN ?_ _) | (with_reducible refine Kd.C_drew ?_))); (case side8 => exact HC1_4.out); (case side9 => repeat (first | exact HR1_5.out | (with_reducible refine Kd.C_alloc ?_ _) | (with_reducible refine Kd.C_drewN ?_ _) | (with_reducible refine Kd.C_drew ?_))); (case side10 => exact HC1_5.out); (case side11 => exact (by (with_reducible repeat (first | refine bn_ ?_ _ | refine bd_ ?_ | refine ba_ ?_ _)); exact BK55.out)); rintro e w4 ⟨rfl, hb⟩; refine ⟨_, rfl, ?_⟩; have n0_ := AZ.mk (bb_ (g := g1_0_) (o := .cells #[.int .i64 a1_0, .int .i64 a1_1, .slice A1_2 l1_2.length c1_2, .slice A1_3 l1_3.length c1_3, .slice A1_4 l1_4.length c1_4, .slice A1_5 l1_5.length c1_5] 36 (0, 0)) (by (with_reducible repeat (first | refine bn_ ?_ _ | refine bd_ ?_ | refine ba_ ?_ _)); exact BK55.out) hb); have n1_ := AZ.mk (pT (by repeat (first | (with_reducible first | exact HB.out | apply pA | apply pN | apply pD | refine pS ?_ GE55.out) | exact HB.out)) hb); clear BK55; clear HB; have BK55 := n0_; have HB := n1_; clear n0_ n1_; (try clear hb); (try clear hb2); (try clear hk); (try clear hi)))
 go_ret
 exact ⟨by first | rfl | (simp [errW_none, errW_some] <;> rfl) | (simp [*, errW_none, errW_some] <;> rfl), by repeat (first | (with_reducible first | exact HB.out | apply pA | apply pN | apply pD | refine pS ?_ GE55.out) | exact HB.out)⟩
end Go.Proofs.Ytlmkkmoammgjdaa.P
namespace Go.Proofs.Ytlmkkmoammgjdaa.P
open Go.RowKit Go.Proofs.YtlmkkmoammgjdaaW.PrintWords Go.Proofs.YtlmkkmoammgjdaaW.PrintLast Go.Proofs.YtlmkkmoammgjdaaW.PrintMore
attribute [local go_sem] max2_int min2_int max_two min_two max_three min_three max_four min_four
set_option linter.unusedVariables false
set_option linter.unusedSimpArgs false
def impl_ValidChecker_1_c.f (k : Nat) (l0 : List Int) (a1 : Int) (a2_0 : Int) (a2_1 : Int) (l2_2 : List Bool) (l2_3 : List (List (S92))) (l2_4 : List (List (List Int))) (l2_5 : List (List Int)) : Option (Bool) := (impl_size_int64.f l0).bind fun t285 => (if t285 = a1 then ((slices_ContainsFunc_Lint64_int64_at_impl_ValidChecker_1_1.f k l0 a2_0 a2_1 l2_2 l2_3 l2_4 l2_5).bind fun t286 => (some (!t286))) else (some false))
set_option maxHeartbeats 8000000 in
set_option maxRecDepth 100000 in
theorem impl_ValidChecker_1_c.calls (k : Nat) (A0 : Option Addr) (c0 : Nat) (l0 : List Int) (a1 : Int) (g2_ : Nat) (a2_0 : Int) (a2_1 : Int) (A2_2 : Option Addr) (c2_2 : Nat) (l2_2 : List Bool) (A2_3 : Option Addr) (c2_3 : Nat) (l2_3 : List (List (S92))) (A2_4 : Option Addr) (c2_4 : Nat) (l2_4 : List (List (List Int))) (A2_5 : Option Addr) (c2_5 : Nat) (l2_5 : List (List Int)) (r : Bool) (w : World) (hr0 : Kd.C (Kd.int .i64) w A0 l0.length l0) (hc0 : l0.length ≤ c0) (hr2_2 : Kd.C Kd.bool w A2_2 l2_2.length l2_2) (hc2_2 : l2_2.length ≤ c2_2) (hr2_3 : Kd.C (Kd.slice 92 k92) w A2_3 l2_3.length l2_3) (hc2_3 : l2_3.length ≤ c2_3) (hr2_4 : Kd.C (Kd.slice 60 (Kd.slice 2 (Kd.int .i64))) w A2_4 l2_4.length l2_4) (hc2_4 : l2_4.length ≤ c2_4) (hr2_5 : Kd.C (Kd.slice 2 (Kd.int .i64)) w A2_5 l2_5.length l2_5) (hc2_5 : l2_5.length ≤ c2_5) (hbk2_0 : w.heap[g2_]? = some (.cells #[.int .i64 a2_0, .int .i64 a2_1, .slice A2_2 l2_2.length c2_2, .slice A2_3 l2_3.length c2_3, .slice A2_4 l2_4.length c2_4, .slice A2_5 l2_5.length c2_5] 36 (0, 0))) (h : impl_ValidChecker_1_c.f k l0 a1 a2_0 a2_1 l2_2 l2_3 l2_4 l2_5 = some r) :
  Calls Try.prog 53 #[.slice A0 l0.length c0, .int .i64 a1, .pointer (some ⟨g2_, 0, none⟩)] w fun e w' => e = .returned (.bool r) ∧ Below w.heap.size w w' := by
 have HR0 := AZ.mk hr0
 have HC0 := AZ.mk hc0
 clear hr0 hc0
 have HR2_2 := AZ.mk hr2_2
 have HC2_2 := AZ.mk hc2_2
 clear hr2_2 hc2_2
 have HR2_3 := AZ.mk hr2_3
 have HC2_3 := AZ.mk hc2_3
 clear hr2_3 hc2_3
 have HR2_4 := AZ.mk hr2_4
 have HC2_4 := AZ.mk hc2_4
 clear hr2_4 hc2_4
 have HR2_5 := AZ.mk hr2_5
 have HC2_5 := AZ.mk hc2_5
 clear hr2_5 hc2_5
 have BK2 := AZ.mk hbk2_0
 clear hbk2_0
 have HB := AZ.mk (Below.refl w.heap.size w)
 have H : ((impl_size_int64.f l0).bind fun t285 => (if t285 = a1 then ((slices_ContainsFunc_Lint64_int64_at_impl_ValidChecker_1_1.f k l0 a2_0 a2_1 l2_2 l2_3 l2_4 l2_5).bind fun t286 => (some (!t286))) else (some false))) = some r := h
 clear h
 replace H := Option.bind_eq_some_iff.mp H
 obtain ⟨t285, A40, H⟩ := H
 replace H : (if t285 = a1 then ((slices_ContainsFunc_Lint64_int64_at_impl_ValidChecker_1_1.f k l0 a2_0 a2_1 l2_2 l2_3 l2_4 l2_5).bind fun t286 => (some (!t286))) else (some false)) = some r := H
 have A4 := AZ.mk A40
 clear A40
 by_cases c5 : t285 = a1
 rotate_left
 ·rw [if_neg c5] at H
  have c5b0 : (t285 == a1) = false := beq_eq_false_iff_ne.mpr c5
  have c5b1 : (t285 != a1) = true := bne_iff_ne.mpr c5
  obtain rfl := Option.some.inj H
  go_enter Try.func53, Try.ntmps53
  go_wp2_with (first | ((with_reducible refine gate_callee (f := 54) rfl ?_); refine goesL_ (some 7) rfl rfl Try.func54 (by kernel_rfl) rfl #[.slice A0 l0.length c0] rfl (by (try simp only [List.map_toArray, List.map_cons, List.map_nil]); first | done | rfl | (simp only [List.length_drop, List.length_take]; rfl)) ?_; (with_reducible refine (impl_size_int64.calls _ _ l0 t285 _ ?side1 ?side2 A4.out).mono ?_); (case side1 => repeat (first | exact HR0.out | (with_reducible refine Kd.C_alloc ?_ _) | (with_reducible refine Kd.C_drewN ?_ _) | (with_reducible refine Kd.C_drew ?_))); (case side2 => exact HC0.out); rintro e w' ⟨rfl, ⟨nd, rfl⟩⟩; refine ⟨_, rfl, ?_⟩))
  go_ret
  exact ⟨by first | rfl | (simp [errW_none, errW_some] <;> rfl) | (simp [*, errW_none, errW_some] <;> rfl), by repeat (first | (with_reducible first | exact HB.out | apply pA | apply pN | apply pD | refine pS ?_ GE2.out) | exact HB.out)⟩
 rw [if_pos c5] at H
 have c5b0 : (t285 == a1) = true := beq_iff_eq.mpr c5
 have c5b1 : (t285 != a1) = false := bne_eq_false_iff_eq.mpr c5
 clear c5
 replace H := Option.bind_eq_some_iff.mp H
 obtain ⟨t286, A60, H⟩ := H
 replace H : (some (!t286)) = some r := H
 have A6 := AZ.mk A60
 clear A60
 obtain rfl := Option.some.inj H
 go_enter Try.func53, Try.ntmps53
 go_wp2_with (first | ((with_reducible refine gate_callee (f := 54) rfl ?_); refine goesL_ (some 7) rfl rfl Try.func54 (by kernel_rfl) rfl #[.slice A0 l0.length c0] rfl (by (try simp only [List.map_toArray, List.map_cons, List.map_nil]); first | done | rfl | (simp only [List.length_drop, List.length_take]; rfl)) ?_; (with_reducible refine (impl_size_int64.calls _ _ l0 t285 _ ?side1 ?side2 A4.out).mono ?_); (case side1 => repeat (first | exact HR0.out | (with_reducible refine Kd.C_alloc ?_ _) | (with_reducible refine Kd.C_drewN ?_ _) | (with_reducible refine Kd.C_drew ?_))); (case side2 => exact HC0.out); rintro e w' ⟨rfl, ⟨nd, rfl⟩⟩; refine ⟨_, rfl, ?_⟩) | (go_at_call 55; (with_reducible refine (slices_ContainsFunc_Lint64_int64_at_impl_ValidChecker_1_1.calls k _ _ l0 g2_ a2_0 a2_1 A2_2 c2_2 l2_2 A2_3 c2_3 l2_3 A2_4 c2_4 l2_4 A2_5 c2_5 l2_5 t286 _ ?side1 ?side2 ?side3 ?side4 ?side5 ?side6 ?side7 ?side8 ?side9 ?side10 ?side11 A6.out).mono ?_); (case side1 => repeat (first | exact HR0.out | (with_reducible refine Kd.C_alloc ?_ _) | (with_reducible refine Kd.C_drewN ?_ _) | (with_reducible refine Kd.C_drew ?_))); (case side2 => exact HC0.out); (case side3 => repeat (first | exact HR2_2.out | (with_reducible refine Kd.C_alloc ?_ _) | (with_reducible refine Kd.C_drewN ?_ _) | (with_reducible refine Kd.C_drew ?_))); (case side4 => exact HC2_2.out); (case side5 => repeat (first | exact HR2_3.out | (with_reducible refine Kd.C_alloc ?_ _) | (with_reducible refine Kd.C_drewN ?_ _) | (with_reducible refine Kd.C_drew ?_))); (case side6 => exact HC2_3.out); (case side7 => repeat (first | exact HR2_4.out | (with_reducible refine Kd.C_alloc ?_ _) | (with_reducible refine Kd.C_drewN ?_ _) | (with_reducible refine Kd.C_drew ?_))); (case side8 => exact HC2_4.out); (case side9 => repeat (first | exact HR2_5.out | (with_reducible refine Kd.C_alloc ?_ _) | (with_reducible refine Kd.C_drewN ?_ _) | (with_reducible refine Kd.C_drew ?_))); (case side10 => exact HC2_5.out); (case side11 => exact (by (with_reducible repeat (first | refine bn_ ?_ _ | refine bd_ ?_ | refine ba_ ?_ _)); exact BK2.out)); rintro e w7 ⟨rfl, hb⟩; have n0_ := AZ.mk (bb_ (g := g2_) (o := .cells #[.int .i64 a2_0, .int .i64 a2_1, .slice A2_2 l2_2.length c2_2, .slice A2_3 l2_3.length c2_3, .slice A2_4 l2_4.length c2_4, .slice A2_5 l2_5.length c2_5] 36 (0, 0)) (by (with_reducible repeat (first | refine bn_ ?_ _ | refine bd_ ?_ | refine ba_ ?_ _)); exact BK2.out) hb); have n1_ := AZ.mk (pT (by repeat (first | (with_reducible first | exact HB.out | apply pA | apply pN | apply pD | refine pS ?_ GE2.out) | exact HB.out)) hb); clear BK2; clear HB; have BK2 := n0_; have HB := n1_; clear n0_ n1_; (try clear hb); (try clear hb2); (try clear hk); (try clear hi)))
 go_ret
 exact ⟨by first | rfl | (simp [errW_none, errW_some] <;> rfl) | (simp [*, errW_none, errW_some] <;> rfl), by repeat (first | (with_reducible first | exact HB.out | apply pA | apply pN | apply pD | refine pS ?_ GE2.out) | exact HB.out)⟩
end Go.Proofs.Ytlmkkmoammgjdaa.P
