/- Texts that this law leans on, several in one; written by programs of these sessions (print, wip/deep, gather.py). -/
import Derived.Test.YteeplponconnjaaGb2
import Derived.Test.YteeplponconnjaaRows
import Derived.WalkKit
import Derived.ProofKit
import Derived.OpenShut
import Derived.ShutString
import Derived.ChangeOld
import Derived.Below
import Derived.SizedLaws
import Derived.Deep.Slices
import Derived.ChangeArms
import Derived.DataReads
namespace Go.Proofs.Yteeplponconnjaa.P
open Go.RowKit Go.Proofs.YteeplponconnjaaW.PrintWords Go.Proofs.YteeplponconnjaaW.PrintLast Go.Proofs.YteeplponconnjaaW.PrintMore
attribute [local go_sem] max2_int min2_int max_two min_two max_three min_three max_four min_four
set_option linter.unusedVariables false
set_option linter.unusedSimpArgs false
def laws_markText.l0 : Nat → Int → ByteArray → Option (ByteArray)
 | 0, _, _ => none
 | k + 1, x0, x3 => if x0 > 0 then ((some (([(wrap64 (48 + (Int.tmod x0 10))) % 256] : List Int) : List Int)).bind fun y315 => (if (strOfNums y315).size + x3.size ≤ 9223372036854775807 then (laws_markText.l0 k (wrap64 (Int.tdiv x0 10)) ((strOfNums y315) ++ x3)) else (none))) else (if 1 + x3.size ≤ 9223372036854775807 then (some ((⟨#[109]⟩ : ByteArray) ++ x3)) else (none))
def laws_markText.f (k : Nat) (a0 : Int) : Option (ByteArray) := if a0 ≤ 0 then (some (⟨#[109, 48]⟩ : ByteArray)) else (laws_markText.l0 k a0 (⟨#[]⟩ : ByteArray))
set_option maxHeartbeats 8000000 in
set_option maxRecDepth 100000 in
theorem laws_markText.calls (k : Nat) (a0 : Int) (r : ByteArray) (w : World) (h : laws_markText.f k a0 = some r) :
  Calls Try.prog 44 #[.int .i64 a0] w fun e w' => e = .returned (.string r) ∧ Below w.heap.size w w' := by
 have HB := AZ.mk (Below.refl w.heap.size w)
 have H : (if a0 ≤ 0 then (some (⟨#[109, 48]⟩ : ByteArray)) else (laws_markText.l0 k a0 (⟨#[]⟩ : ByteArray))) = some r := h
 clear h
 by_cases c2 : a0 ≤ 0
 ·rw [if_pos c2] at H
  have c2b0 : decide (a0 ≤ 0) = true := decide_eq_true c2
  clear c2
  obtain rfl := Option.some.inj H
  go_enter Try.func44, Try.ntmps44
  go_wp2
  go_ret
  exact ⟨by first | rfl | (simp [errW_none, errW_some] <;> rfl) | (simp [*, errW_none, errW_some] <;> rfl), by repeat (first | (with_reducible first | exact HB.out | apply pA | apply pN | apply pD) | exact HB.out)⟩
 rw [if_neg c2] at H
 have c2b0 : decide (a0 ≤ 0) = false := decide_eq_false c2
 clear c2
 have H' := AZ.mk H
 clear H
 go_enter Try.func44, Try.ntmps44
 go_wp2
 go_loopg [0, 3] k (fun kq v0 v3 w' => ∃ (x0_1 : Int) (x3_1 : ByteArray), v0 = .int .i64 x0_1 ∧ v3 = .string x3_1 ∧ AZ (laws_markText.l0 kq x0_1 x3_1 = some r) ∧ AZ (kq ≤ k) ∧ AZ (Below w.heap.size w w'))
 case atStart => exact ⟨(a0), ((⟨#[]⟩ : ByteArray)), (by first | rfl | (simp; done) | (simp [*]; done)), (by first | rfl | (simp; done) | (simp [*]; done)), H', ⟨Nat.le_refl _⟩, ⟨by repeat (first | (with_reducible first | exact HB.out | apply pA | apply pN | apply pD) | exact HB.out)⟩⟩
 case round =>
  clear H'
  try clear c2
  try clear c2b0
  try clear p2
  obtain ⟨x0_1, x3_1, rfl, rfl, HA, HK1, HB⟩ := hrel
  cases gk with
  | zero => exact absurd HA.out (by simp [laws_markText.l0])
  | succ k1 =>
   have H := HA.out
   clear HA
   simp only [laws_markText.l0] at H
   by_cases c3 : x0_1 > 0
   rotate_left
   ·rw [if_neg c3] at H
    have c3b0 : decide (0 < x0_1) = false := decide_eq_false c3
    clear c3
    by_cases c8 : 1 + x3_1.size ≤ 9223372036854775807
    rotate_left
    ·rw [if_neg c8] at H
     exact absurd H (by simp)
    rw [if_pos c8] at H
    have c8b0 := eq_true c8
    have c8b1 : decide (1 + x3_1.size ≤ 9223372036854775807) = true := decide_eq_true c8
    try have c8b2 : (9223372036854775807 < 1 + x3_1.size) = False := eq_false (Nat.not_lt.2 c8)
    obtain rfl := Option.some.inj H
    go_wp2
    go_ret
    exact ⟨by first | rfl | (simp [errW_none, errW_some] <;> rfl) | (simp [*, errW_none, errW_some] <;> rfl), by repeat (first | (with_reducible first | exact HB.out | apply pA | apply pN | apply pD) | exact HB.out)⟩
   rw [if_pos c3] at H
   have c3b0 : decide (0 < x0_1) = true := decide_eq_true c3
   clear c3
   obtain ⟨y315, hy315⟩ : ∃ y_ : List Int, y_ = (([(wrap64 (48 + (Int.tmod x0_1 10))) % 256] : List Int)) := ⟨_, rfl⟩
   replace H : (if (strOfNums y315).size + x3_1.size ≤ 9223372036854775807 then (laws_markText.l0 k1 (wrap64 (Int.tdiv x0_1 10)) ((strOfNums y315) ++ x3_1)) else (none)) = some r := by first | (rw [hy315]; with_reducible exact H) | (have H2_ := (Option.bind_some _ _).symm.trans H; rw [hy315]; with_reducible exact H2_) | (have H2_ := (Option.bind_some _ _).symm.trans H; with_reducible exact H2_) | with_reducible exact H | (rw [hy315]; exact H) | exact H
   have Ny315 := AZ.mk hy315
   clear hy315
   by_cases c4 : (strOfNums y315).size + x3_1.size ≤ 9223372036854775807
   rotate_left
   ·rw [if_neg c4] at H
    exact absurd H (by simp)
   rw [if_pos c4] at H
   have c4b0 := eq_true c4
   have c4b1 : decide ((strOfNums y315).size + x3_1.size ≤ 9223372036854775807) = true := decide_eq_true c4
   try have c4b2 : (9223372036854775807 < (strOfNums y315).size + x3_1.size) = False := eq_false (Nat.not_lt.2 c4)
   have H' := AZ.mk H
   clear H
   go_wp2_with (first | ((with_reducible refine gate_dst (N := 12) rfl ?_); refine Kd.R_lit (Kd.int .u8) _ 5 ?hg (N := 12) ?hd (xs := ([(wrap64 (48 + (Int.tmod x0_1 10))) % 256] : List Int)) (inner := [.int .u8 ((wrap64 (48 + (Int.tmod x0_1 10))) % 256)]) (ok := fun _ => True) (okp := fun _ => True) ?hr ?hp (fun _ hk => hk) trivial (Below.refl _ _) (Nat.le_refl _) (by simp) ?_; (case hd => rfl); (case hg => rfl); (case hr => first | (go_simp; done) | (go_simp; rfl)); (case hp => exact (Reps.one (show Kd.M (Kd.int .u8) _ _ _ ((wrap64 (48 + (Int.tmod x0_1 10))) % 256) [.int .u8 ((wrap64 (48 + (Int.tmod x0_1 10))) % 256)] from rfl) (Reps.none _ _))); intro v316 w5 ho6 hb hg_ hnew_; clear hg_ hnew_; (first | rw [← Ny315.out] at ho6 | (simp only [Int.reduceToNat] at ho6; rw [← Ny315.out] at ho6)); have n0_ := AZ.mk (Kd.R_lower ho6 (pZ (by repeat (first | (with_reducible first | exact HB.out | apply pA | apply pN | apply pD) | exact HB.out)))); have n1_ := AZ.mk (pT (by repeat (first | (with_reducible first | exact HB.out | apply pA | apply pN | apply pD) | exact HB.out)) hb); clear HB; have HO317 := n0_; have HB := n1_; clear n0_ n1_; clear hb ho6; have hcv7 := own_string (P := Try.prog) Try.underlying82 Try.underlying5 Try.underlying9 (Kd.own_of_R HO317.out)))
   go_roundg k1
   case measure => have := HK1.out; omega
   case rel => exact ⟨(wrap64 (Int.tdiv x0_1 10)), ((strOfNums y315) ++ x3_1), (by first | rfl | (simp; done) | (simp [*]; done)), (by first | rfl | (simp; done) | (simp [*]; done)), H', ⟨by have := HK1.out; omega⟩, ⟨by repeat (first | (with_reducible first | exact HB.out | apply pA | apply pN | apply pD) | exact HB.out)⟩⟩
end Go.Proofs.Yteeplponconnjaa.P
namespace Go.Proofs.Yteeplponconnjaa.P
open Go.RowKit Go.Proofs.YteeplponconnjaaW.PrintWords Go.Proofs.YteeplponconnjaaW.PrintLast Go.Proofs.YteeplponconnjaaW.PrintMore
attribute [local go_sem] max2_int min2_int max_two min_two max_three min_three max_four min_four
set_option linter.unusedVariables false
set_option linter.unusedSimpArgs false
def laws_markQueryStepS.l0 : Nat → List (S62) → Int → Int → Option (Int × (List (S62)))
 | 0, _, _, _ => none
 | k + 1, x0, x1, x5 => if x5 < (x0.length : Int) then (if 0 ≤ x5 then ((some (x0.set (x5 : Int).toNat (⟨((Int.tmod x1 3) == 0), (rd_T62 x0 x5).f1⟩ : S62) : List (S62))).bind fun y318 => ((laws_markText.f k (wrap64 (x1 + 1))).bind fun t319 => (laws_markQueryStepS.l0 k (y318.set (x5 : Int).toNat (⟨(rd_T62 y318 x5).f0, t319⟩ : S62)) (wrap64 ((wrap64 (x1 + 1)) + 1)) (wrap64 (x5 + 1))))) else (none)) else (some (x1, x0))
def laws_markQueryStepS.f (k : Nat) (l0 : List (S62)) (a1 : Int) : Option (Int × (List (S62))) := laws_markQueryStepS.l0 k l0 a1 0
set_option maxHeartbeats 8000000 in
set_option maxRecDepth 100000 in
theorem laws_markQueryStepS.calls (k : Nat) (P0_ : Nat → Prop) (u9000_ : Value) (l0 : List (S62)) (a1 : Int) (r1 : Int) (r2 : List (S62)) (w0 w : World) (hB : Below w0.heap.size w0 w) (ho0 : Kd.R k62 62 w w0.heap.size P0_ u9000_ l0) (h : laws_markQueryStepS.f k l0 a1 = some (r1, r2)) :
  Calls Try.prog 26 #[u9000_, .int .i64 a1] w fun e w' => e = .returned (.int .i64 r1) ∧ Kd.R k62 62 w' w0.heap.size (fun k_ => (P0_ k_ ∨ w.heap.size ≤ k_)) u9000_ r2 ∧ Below w0.heap.size w0 w' ∧ Kept w w' (fun k_ => P0_ k_) := by
 have HO0 := AZ.mk (show Kd.R k62 62 w w0.heap.size (fun k_ => (P0_ k_ ∨ w.heap.size ≤ k_)) u9000_ l0 from Kd.R_mono ho0 (fun k_ hk => (.inl hk)))
 have HK := AZ.mk (Kept.refl w (fun k_ => P0_ k_))
 have HW0 := AZ.mk hB.size
 have HB := AZ.mk hB
 clear hB
 have H : (laws_markQueryStepS.l0 k l0 a1 0) = some (r1, r2) := h
 clear h
 have H' := AZ.mk H
 clear H
 go_enter Try.func26, Try.ntmps26
 go_wp2
 go_loopg [1, 5] k (fun kq v1 v5 w' => ∃ (x0_1 : List (S62)) (x1_1 : Int) (x5_1 : Int), v1 = .int .i64 x1_1 ∧ v5 = .int .i64 x5_1 ∧ AZ (laws_markQueryStepS.l0 kq x0_1 x1_1 x5_1 = some (r1, r2)) ∧ AZ (kq ≤ k) ∧ AZ (Kd.R k62 62 w' w0.heap.size (fun k_ => (P0_ k_ ∨ w.heap.size ≤ k_)) u9000_ x0_1) ∧ AZ (Kept w w' (fun k_ => P0_ k_)) ∧ AZ (Below w0.heap.size w0 w'))
 case atStart => exact ⟨(l0), (a1), (0), (by first | rfl | (simp; done) | (simp [*]; done)), (by first | rfl | (simp; done) | (simp [*]; done)), H', ⟨Nat.le_refl _⟩, ⟨by (with_reducible repeat (first | apply Kd.R_alloc | apply Kd.R_drewN | apply Kd.R_drew)); exact HO0.out⟩, ⟨by repeat (first | (with_reducible first | exact HK.out | apply Kept.alloc | apply Kept.drewN | apply Kept.drew) | exact HK.out)⟩, ⟨by repeat (first | (with_reducible first | exact HB.out | apply pA | apply pN | apply pD) | exact HB.out)⟩⟩
 case round =>
  clear H'
  try clear c2
  try clear p2
  obtain ⟨x0_1, x1_1, x5_1, rfl, rfl, HA, HK1, HO_0, HK, HB⟩ := hrel
  cases gk with
  | zero => exact absurd HA.out (by simp [laws_markQueryStepS.l0])
  | succ k1 =>
   have H := HA.out
   clear HA
   simp only [laws_markQueryStepS.l0] at H
   by_cases c3 : x5_1 < (x0_1.length : Int)
   rotate_left
   ·rw [if_neg c3] at H
    have c3b0 : decide (x5_1 < (x0_1.length : Int)) = false := decide_eq_false c3
    clear c3
    simp only [Option.some.injEq, Prod.mk.injEq] at H
    obtain ⟨rfl, rfl⟩ := H
    obtain ⟨Ao14, co14, eo14⟩ := Kd.R_slice HO_0.out
    subst eo14
    go_wp2
    go_ret
    exact ⟨by first | rfl | (simp [errW_none, errW_some] <;> rfl) | (simp [*, errW_none, errW_some] <;> rfl), by (with_reducible repeat (first | apply Kd.R_alloc | apply Kd.R_drewN | apply Kd.R_drew)); exact HO_0.out, by repeat (first | (with_reducible first | exact HB.out | apply pA | apply pN | apply pD) | exact HB.out), by repeat (first | (with_reducible first | exact HK.out | apply Kept.alloc | apply Kept.drewN | apply Kept.drew) | exact HK.out)⟩
   rw [if_pos c3] at H
   have c3b0 : decide (x5_1 < (x0_1.length : Int)) = true := decide_eq_true c3
   clear c3
   by_cases c4 : 0 ≤ x5_1
   rotate_left
   ·rw [if_neg c4] at H
    exact absurd H (by simp)
   rw [if_pos c4] at H
   have c4b0 : decide (0 ≤ x5_1) = true := decide_eq_true c4
   clear c4
   obtain ⟨y318, hy318⟩ : ∃ y_ : List (S62), y_ = (x0_1.set (x5_1 : Int).toNat (⟨((Int.tmod x1_1 3) == 0), (rd_T62 x0_1 x5_1).f1⟩ : S62)) := ⟨_, rfl⟩
   replace H : ((laws_markText.f k1 (wrap64 (x1_1 + 1))).bind fun t319 => (laws_markQueryStepS.l0 k1 (y318.set (x5_1 : Int).toNat (⟨(rd_T62 y318 x5_1).f0, t319⟩ : S62)) (wrap64 ((wrap64 (x1_1 + 1)) + 1)) (wrap64 (x5_1 + 1)))) = some (r1, r2) := by first | (rw [hy318]; with_reducible exact H) | (have H2_ := (Option.bind_some _ _).symm.trans H; rw [hy318]; with_reducible exact H2_) | (have H2_ := (Option.bind_some _ _).symm.trans H; with_reducible exact H2_) | with_reducible exact H | (rw [hy318]; exact H) | exact H
   have Ny318 := AZ.mk hy318
   clear hy318
   replace H := Option.bind_eq_some_iff.mp H
   obtain ⟨t319, A60, H⟩ := H
   replace H : (laws_markQueryStepS.l0 k1 (y318.set (x5_1 : Int).toNat (⟨(rd_T62 y318 x5_1).f0, t319⟩ : S62)) (wrap64 ((wrap64 (x1_1 + 1)) + 1)) (wrap64 (x5_1 + 1))) = some (r1, r2) := H
   have A6 := AZ.mk A60
   clear A60
   obtain ⟨y320, hy320⟩ : ∃ y_ : List (S62), y_ = (y318.set (x5_1 : Int).toNat (⟨(rd_T62 y318 x5_1).f0, t319⟩ : S62)) := ⟨_, rfl⟩
   replace H : (laws_markQueryStepS.l0 k1 y320 (wrap64 ((wrap64 (x1_1 + 1)) + 1)) (wrap64 (x5_1 + 1))) = some (r1, r2) := by first | (rw [hy320]; with_reducible exact H) | (have H2_ := (Option.bind_some _ _).symm.trans H; rw [hy320]; with_reducible exact H2_) | (have H2_ := (Option.bind_some _ _).symm.trans H; with_reducible exact H2_) | with_reducible exact H | (rw [hy320]; exact H) | exact H
   have Ny320 := AZ.mk hy320
   clear hy320
   have H' := AZ.mk H
   clear H
   obtain ⟨Ao8, co8, eo8⟩ := Kd.R_slice HO_0.out
   subst eo8
   have p5 : 0 ≤ (x5_1 : Int) := oT (by first | (with_reducible assumption) | assumption)
   have q5 : (x5_1 : Int) < ((x0_1.length : Int) : Int) := oT (by first | (with_reducible assumption) | assumption)
   obtain ⟨go5, co5, eo5, gb5, gl5, cl5, HG5⟩ := Kd.R_form HO_0.out (by omega)
   (first | cases eo5 | (injection eo5 with ea_ en_ ec_; (first | subst ea_ | (injection ea_ with ea_; subst ea_)); subst ec_; clear en_))
   have GB5 := AZ.mk gb5
   have GG5 := AZ.mk HG5
   clear gb5 gl5 HG5
   have HMgo5 := AZ.mk (show (P0_ go5 ∨ w.heap.size ≤ go5) from (HO_0.out.1 _ rfl))
   obtain ⟨ce5, hcl5, hM5, hcc5, hfr5⟩ := Kd.R_elem HO_0.out z62 (x5_1 : Int) p5 q5
   obtain rfl := k62_openM hM5
   have hx5_0 : wr.cell? ⟨go5, (x5_1 : Int).toNat * 2, none⟩ = some (.bool ((rd_T62 x0_1 x5_1).f0)) := hcc5 0 _ rfl
   have hx5_1 : wr.cell? ⟨go5, (x5_1 : Int).toNat * 2 + 1, none⟩ = some (.string ((rd_T62 x0_1 x5_1).f1)) := hcc5 1 _ rfl
   have hf5_0 : wr.frozen? ⟨go5, (x5_1 : Int).toNat * 2, none⟩ = false := hfr5 0
   have hf5_1 : wr.frozen? ⟨go5, (x5_1 : Int).toNat * 2 + 1, none⟩ = false := hfr5 1
   clear hcl5 hcc5 hfr5; (try clear hM5)
   replace p5 := eq_true p5
   replace q5 := eq_true q5
   have HX9 := AZ.mk (show Kd.R k62 62 wr w0.heap.size (fun k_ => (P0_ k_ ∨ w.heap.size ≤ k_)) (.slice (some ⟨go5, 0, none⟩) x0_1.length co8) x0_1 from (by (with_reducible repeat (first | apply Kd.R_alloc | apply Kd.R_drewN | apply Kd.R_drew)); exact HO_0.out))
   obtain ⟨ce9, hcl9, hM9, hcc9, hfr9⟩ := Kd.R_elem HX9.out z62 (x5_1 : Int) (oT (by first | (with_reducible assumption) | assumption)) (by have h_ : (x5_1 : Int) < ((x0_1.length : Int) : Int) := oT (by first | (with_reducible assumption) | assumption); first | exact h_ | (have e_ := (Kd.R_reads' HO_0.out).1; omega) | simpa using h_)
   obtain rfl := k62_openM hM9
   have HP9 := Kd.R_seg HX9.out (x5_1 : Int) (oT (by first | (with_reducible assumption) | assumption)) (by have h_ : (x5_1 : Int) < ((x0_1.length : Int) : Int) := oT (by first | (with_reducible assumption) | assumption); first | exact h_ | (have e_ := (Kd.R_reads' HO_0.out).1; omega) | simpa using h_) (seg := [.bool ((Int.tmod x1_1 3) == 0)]) (j := 0) hcl9 hcc9 (show 1 ≤ 2 from by decide) (x' := (⟨((Int.tmod x1_1 3) == 0), (rd_T62 x0_1 x5_1).f1⟩ : S62)) (k62_mkM _ _ _ (⟨((Int.tmod x1_1 3) == 0), (rd_T62 x0_1 x5_1).f1⟩ : S62) ) (fun _ hk => hk)
   have hx9_0 := hcc9 0 _ rfl
   (try simp only [show (k62).sz = 2 from rfl, Nat.mul_one, Nat.add_zero] at hx9_0)
   have hf9_0 := hfr9 0
   (try simp only [show (k62).sz = 2 from rfl, Nat.mul_one, Nat.add_zero] at hf9_0)
   clear hcl9 hcc9 hfr9; (try clear hM9)
   go_wp2_with (first | ((with_reducible refine gate_store (t := 4) (p := 18) rfl ?_); refine store_event (t := 4) (p := 18) (v := ?vo_w10) (w1 := (wr.setCell ⟨go5, (x5_1 : Int).toNat * 2, none⟩ (.bool ((Int.tmod x1_1 3) == 0)))) ?hg ?ho ?hn ?hr ?_; (case ho => rfl); (case hg => rfl); (case hn => rfl); (case hr => first | (go_simp; done) | (go_simp; rfl)); intro w10 hw; have hg : wr.grownBy w10 (some go5) := (by rw [hw]; exact HP9.2); have hp_ : Kd.R k62 62 w10 w0.heap.size (fun k_ => (P0_ k_ ∨ w.heap.size ≤ k_)) (.slice (some ⟨go5, 0, none⟩) x0_1.length co8) y318 := (by rw [hw, Ny318.out]; exact HP9.1); clear HP9; have n0_ := AZ.mk (hp_); have n1_ := AZ.mk ((by rw [hw]; exact pS (HB.out) GB5.out : Below w0.heap.size w0 w10)); have n2_ := AZ.mk (Kept.of_grown (S := (fun k_ => P0_ k_)) hg (by repeat (first | (with_reducible first | exact HK.out | apply Kept.alloc | apply Kept.drewN | apply Kept.drew) | exact HK.out)) (fun k_ e_ => (HO_0.out.1 k_ e_))); clear HO_0; clear HB; clear HK; have HO_0 := n0_; have HB := n1_; have HK := n2_; clear n0_ n1_ n2_; clear hg hw hp_) | ((with_reducible refine gate_callee (f := 44) rfl ?_); refine goesL_ (some 24) rfl rfl Try.func44 (by kernel_rfl) rfl #[.int .i64 (wrap64 (x1_1 + 1))] rfl (by (try simp only [List.map_toArray, List.map_cons, List.map_nil]); first | done | rfl | (simp only [List.length_drop, List.length_take]; rfl)) ?_; (with_reducible refine (laws_markText.calls k1 (wrap64 (x1_1 + 1)) t319 _ A6.out).mono ?_); rintro e w11 ⟨rfl, hb⟩; refine ⟨_, rfl, ?_⟩; have n0_ := AZ.mk (Kd.R_below (by (with_reducible repeat (first | apply Kd.R_alloc | apply Kd.R_drewN | apply Kd.R_drew)); exact HO_0.out) hb); have n1_ := AZ.mk (Kept.below (S := (fun k_ => P0_ k_)) (by repeat (first | (with_reducible first | exact HK.out | apply Kept.alloc | apply Kept.drewN | apply Kept.drew) | exact HK.out)) hb); have n2_ := AZ.mk (pT (by repeat (first | (with_reducible first | exact HB.out | apply pA | apply pN | apply pD) | exact HB.out)) hb); clear HO_0; clear HK; clear HB; have HO_0 := n0_; have HK := n1_; have HB := n2_; clear n0_ n1_ n2_; (try clear hb); (try clear hb2); (try clear hk); (try clear hi); have p7 : 0 ≤ (x5_1 : Int) := oT (by first | (with_reducible assumption) | assumption); have q7 : (x5_1 : Int) < ((x0_1.length : Int) : Int) := oT (by first | (with_reducible assumption) | assumption); obtain ⟨ce7, hcl7, hM7, hcc7, hfr7⟩ := Kd.R_elem HO_0.out z62 (x5_1 : Int) p7 q7; obtain rfl := k62_openM hM7; have hx7_0 : w11.cell? ⟨go5, (x5_1 : Int).toNat * 2, none⟩ = some (.bool ((rd_T62 y318 x5_1).f0)) := hcc7 0 _ rfl; have hx7_1 : w11.cell? ⟨go5, (x5_1 : Int).toNat * 2 + 1, none⟩ = some (.string ((rd_T62 y318 x5_1).f1)) := hcc7 1 _ rfl; have hf7_0 : w11.frozen? ⟨go5, (x5_1 : Int).toNat * 2, none⟩ = false := hfr7 0; have hf7_1 : w11.frozen? ⟨go5, (x5_1 : Int).toNat * 2 + 1, none⟩ = false := hfr7 1; clear hcl7 hcc7 hfr7; (try clear hM7); replace p7 := eq_true p7; replace q7 := eq_true q7; have HX12 := AZ.mk (show Kd.R k62 62 w11 w0.heap.size (fun k_ => (P0_ k_ ∨ w.heap.size ≤ k_)) (.slice (some ⟨go5, 0, none⟩) x0_1.length co8) y318 from (by (with_reducible repeat (first | apply Kd.R_alloc | apply Kd.R_drewN | apply Kd.R_drew)); exact HO_0.out)); obtain ⟨ce12, hcl12, hM12, hcc12, hfr12⟩ := Kd.R_elem HX12.out z62 (x5_1 : Int) (oT (by first | (with_reducible assumption) | assumption)) (by have h_ : (x5_1 : Int) < ((x0_1.length : Int) : Int) := oT (by first | (with_reducible assumption) | assumption); first | exact h_ | (have e_ := (Kd.R_reads' HO_0.out).1; omega) | simpa using h_); obtain rfl := k62_openM hM12; have HP12 := Kd.R_seg HX12.out (x5_1 : Int) (oT (by first | (with_reducible assumption) | assumption)) (by have h_ : (x5_1 : Int) < ((x0_1.length : Int) : Int) := oT (by first | (with_reducible assumption) | assumption); first | exact h_ | (have e_ := (Kd.R_reads' HO_0.out).1; omega) | simpa using h_) (seg := [.string t319]) (j := 1) hcl12 hcc12 (show 2 ≤ 2 from by decide) (x' := (⟨(rd_T62 y318 x5_1).f0, t319⟩ : S62)) (k62_mkM _ _ _ (⟨(rd_T62 y318 x5_1).f0, t319⟩ : S62) ) (fun _ hk => hk); have hx12_1 := hcc12 1 _ rfl; (try simp only [show (k62).sz = 2 from rfl, Nat.mul_one, Nat.add_zero] at hx12_1); have hf12_1 := hfr12 1; (try simp only [show (k62).sz = 2 from rfl, Nat.mul_one, Nat.add_zero] at hf12_1); clear hcl12 hcc12 hfr12; (try clear hM12)) | ((with_reducible refine gate_store (t := 9) (p := 26) rfl ?_); refine store_event (t := 9) (p := 26) (v := ?vo_w13) (w1 := (w11.setCell ⟨go5, (x5_1 : Int).toNat * 2 + 1, none⟩ (.string t319))) ?hg ?ho ?hn ?hr ?_; (case ho => rfl); (case hg => rfl); (case hn => rfl); (case hr => first | (go_simp; done) | (go_simp; rfl)); intro w13 hw; have hg : w11.grownBy w13 (some go5) := (by rw [hw]; exact HP12.2); have hp_ : Kd.R k62 62 w13 w0.heap.size (fun k_ => (P0_ k_ ∨ w.heap.size ≤ k_)) (.slice (some ⟨go5, 0, none⟩) x0_1.length co8) y320 := (by rw [hw, Ny320.out]; exact HP12.1); clear HP12; have n0_ := AZ.mk (hp_); have n1_ := AZ.mk ((by rw [hw]; exact pS (HB.out) GB5.out : Below w0.heap.size w0 w13)); have n2_ := AZ.mk (Kept.of_grown (S := (fun k_ => P0_ k_)) hg (by repeat (first | (with_reducible first | exact HK.out | apply Kept.alloc | apply Kept.drewN | apply Kept.drew) | exact HK.out)) (fun k_ e_ => (HO_0.out.1 k_ e_))); clear HO_0; clear HB; clear HK; have HO_0 := n0_; have HB := n1_; have HK := n2_; clear n0_ n1_ n2_; clear hg hw hp_))
   go_roundg k1
   case measure => have := HK1.out; omega
   case rel => exact ⟨(y320), (wrap64 ((wrap64 (x1_1 + 1)) + 1)), (wrap64 (x5_1 + 1)), (by first | rfl | (simp; done) | (simp [*]; done)), (by first | rfl | (simp; done) | (simp [*]; done)), H', ⟨by have := HK1.out; omega⟩, ⟨by (with_reducible repeat (first | apply Kd.R_alloc | apply Kd.R_drewN | apply Kd.R_drew)); exact HO_0.out⟩, ⟨by repeat (first | (with_reducible first | exact HK.out | apply Kept.alloc | apply Kept.drewN | apply Kept.drew) | exact HK.out)⟩, ⟨by repeat (first | (with_reducible first | exact HB.out | apply pA | apply pN | apply pD) | exact HB.out)⟩⟩
end Go.Proofs.Yteeplponconnjaa.P
namespace Go.Proofs.Yteeplponconnjaa.P
open Go.RowKit Go.Proofs.YteeplponconnjaaW.PrintWords Go.Proofs.YteeplponconnjaaW.PrintLast Go.Proofs.YteeplponconnjaaW.PrintMore
attribute [local go_sem] max2_int min2_int max_two min_two max_three min_three max_four min_four
set_option linter.unusedVariables false
set_option linter.unusedSimpArgs false
def laws_markQuery.f (k : Nat) (l0_0 : List (S62)) (a1 : Int) : Option (Int × (List (S62))) := (laws_markQueryStepS.f k l0_0 a1).bind fun bt322 => (some (bt322.1, bt322.2))
set_option maxHeartbeats 8000000 in
set_option maxRecDepth 100000 in
theorem laws_markQuery.calls (k : Nat) (P0_0_ : Nat → Prop) (u9000_ : Value) (l0_0 : List (S62)) (a1 : Int) (r1 : Int) (r2 : List (S62)) (w0 w : World) (hB : Below w0.heap.size w0 w) (ho0_0 : Kd.R k62 62 w w0.heap.size P0_0_ u9000_ l0_0) (h : laws_markQuery.f k l0_0 a1 = some (r1, r2)) :
  Calls Try.prog 13 #[.agg #[u9000_], .int .i64 a1] w fun e w' => e = .returned (.int .i64 r1) ∧ Kd.R k62 62 w' w0.heap.size (fun k_ => (P0_0_ k_ ∨ w.heap.size ≤ k_)) u9000_ r2 ∧ Below w0.heap.size w0 w' ∧ Kept w w' (fun k_ => P0_0_ k_) := by
 have hu30 := Try.underlying30
 have HO0_0 := AZ.mk (show Kd.R k62 62 w w0.heap.size (fun k_ => (P0_0_ k_ ∨ w.heap.size ≤ k_)) u9000_ l0_0 from Kd.R_mono ho0_0 (fun k_ hk => (.inl hk)))
 have HK := AZ.mk (Kept.refl w (fun k_ => P0_0_ k_))
 have HW0 := AZ.mk hB.size
 have HB := AZ.mk hB
 clear hB
 have H : ((laws_markQueryStepS.f k l0_0 a1).bind fun bt322 => (some (bt322.1, bt322.2))) = some (r1, r2) := h
 clear h
 replace H := Option.bind_eq_some_iff.mp H
 obtain ⟨⟨t322, t323⟩, A30, H⟩ := H
 replace H : (some (t322, t323)) = some (r1, r2) := H
 have A3 := AZ.mk A30
 clear A30
 simp only [Option.some.injEq, Prod.mk.injEq] at H
 obtain ⟨rfl, rfl⟩ := H
 obtain ⟨Ao4, co4, eo4⟩ := Kd.R_slice HO0_0.out
 subst eo4
 go_enter Try.func13, Try.ntmps13
 go_wp2_with (first | ((with_reducible refine gate_dst (N := 2) rfl ?_); refine box_event ?hg (N := 2) ?hd (cs := #[.slice Ao4 l0_0.length co4]) (t := 30) ?hr ?_; (case hd => rfl); (case hg => rfl); (case hr => first | (go_simp; done) | (go_simp; rfl)); intro gb321 hg w5 hbox hb; have n0_ := AZ.mk (Kd.R_below (by (with_reducible repeat (first | apply Kd.R_alloc | apply Kd.R_drewN | apply Kd.R_drew)); exact HO0_0.out) hb); have n1_ := AZ.mk (Kept.below (S := (fun k_ => P0_0_ k_)) (by repeat (first | (with_reducible first | exact HK.out | apply Kept.alloc | apply Kept.drewN | apply Kept.drew) | exact HK.out)) hb); have n2_ := AZ.mk (pT (by repeat (first | (with_reducible first | exact HB.out | apply pA | apply pN | apply pD) | exact HB.out)) hb); have n3_ := AZ.mk (hbox); have n4_ := AZ.mk ((by rw [hg]; exact (by first | exact HK.out.1 | exact (show Kept w _ (fun k_ => P0_0_ k_) from by repeat (first | (with_reducible first | exact HK.out | apply Kept.alloc | apply Kept.drewN | apply Kept.drew) | exact HK.out)).1) : w.heap.size ≤ gb321)); have n5_ := AZ.mk ((by rw [hg]; exact (pZ (by repeat (first | (with_reducible first | exact HB.out | apply pA | apply pN | apply pD) | exact HB.out))) : w0.heap.size ≤ gb321)); clear HO0_0; clear HK; clear HB; have HO0_0 := n0_; have HK := n1_; have HB := n2_; have BK321 := n3_; have GW321 := n4_; have GE321 := n5_; clear n0_ n1_ n2_ n3_ n4_ n5_; clear hb hbox hg; have hcz6_0 : w5.cell? ⟨gb321, 0, none⟩ = some (.slice Ao4 l0_0.length co4) := (bc BK321.out 0).trans rfl; have hfz6_0 := bf BK321.out 0) | ((with_reducible refine gate_callee (f := 26) rfl ?_); refine goesL_ (some 8) rfl rfl Try.func26 (by kernel_rfl) rfl #[.slice Ao4 l0_0.length co4, .int .i64 a1] rfl (by (try simp only [List.map_toArray, List.map_cons, List.map_nil]); first | done | rfl | (simp only [List.length_drop, List.length_take]; rfl)) ?_; (with_reducible refine (laws_markQueryStepS.calls k (fun k_ => some k_ = (.slice Ao4 l0_0.length co4 : Value).ownBlock) (.slice Ao4 l0_0.length co4) l0_0 a1 t322 t323 w0 _ ?side1 ?side2 A3.out).mono ?_); (case side1 => repeat (first | (with_reducible first | exact HB.out | apply pA | apply pN | apply pD | refine pS ?_ GE321.out) | exact HB.out)); (case side2 => exact Kd.R_tight rfl HO0_0.out); rintro e w7 ⟨rfl, hy0, hb, hkp⟩; refine ⟨_, rfl, ?_⟩; have n0_ := AZ.mk (Kd.R_reok rfl hy0 (fun k_ e_ => HO0_0.out.1 k_ e_)); have n1_ := AZ.mk (blk_kept (by (with_reducible repeat (first | refine bn_ ?_ _ | refine bd_ ?_ | refine ba_ ?_ _)); exact BK321.out) hkp (fun hs_ => (fun e_ => (Kd.R_ne HO0_0.out BK321.out (by decide)) e_) hs_)); have n2_ := AZ.mk (Kept.then_ (S := (fun k_ => P0_0_ k_)) (by repeat (first | (with_reducible first | exact HK.out | apply Kept.alloc | apply Kept.drewN | apply Kept.drew | refine Kept.setCell ?_ (.inr GW321.out) _) | exact HK.out)) hkp (fun k_ hs_ => (fun e_ => (HO0_0.out.1 k_ e_.symm)) hs_)); have n3_ := AZ.mk (hb); clear HO0_0; clear BK321; clear HK; clear HB; have HO0_0 := n0_; have BK321 := n1_; have HK := n2_; have HB := n3_; clear n0_ n1_ n2_ n3_; (try clear hb); (try clear hkp); (try clear hy0)))
 go_ret
 exact ⟨by first | rfl | (simp [errW_none, errW_some] <;> rfl) | (simp [*, errW_none, errW_some] <;> rfl), by (with_reducible repeat (first | apply Kd.R_alloc | apply Kd.R_drewN | apply Kd.R_drew)); exact HO0_0.out, by repeat (first | (with_reducible first | exact HB.out | apply pA | apply pN | apply pD | refine pS ?_ GE321.out) | exact HB.out), by repeat (first | (with_reducible first | exact HK.out | apply Kept.alloc | apply Kept.drewN | apply Kept.drew | refine Kept.setCell ?_ (.inr GW321.out) _) | exact HK.out)⟩
end Go.Proofs.Yteeplponconnjaa.P
namespace Go.Proofs.Yteeplponconnjaa.P
open Go.RowKit Go.Proofs.YteeplponconnjaaW.PrintWords Go.Proofs.YteeplponconnjaaW.PrintLast Go.Proofs.YteeplponconnjaaW.PrintMore
attribute [local go_sem] max2_int min2_int max_two min_two max_three min_three max_four min_four
set_option linter.unusedVariables false
set_option linter.unusedSimpArgs false
def laws_markInt64S.l0 : Nat → List Int → Int → Int → Option (Int × List Int)
 | 0, _, _, _ => none
 | k + 1, x0, x1, x5 => if x5 < (x0.length : Int) then (if 0 ≤ x5 then (laws_markInt64S.l0 k (x0.set (x5 : Int).toNat x1) (wrap64 (x1 + 1)) (wrap64 (x5 + 1))) else (none)) else (some (x1, x0))
def laws_markInt64S.f (k : Nat) (l0 : List Int) (a1 : Int) : Option (Int × List Int) := laws_markInt64S.l0 k l0 a1 0
set_option maxHeartbeats 8000000 in
set_option maxRecDepth 100000 in
theorem laws_markInt64S.calls (k : Nat) (P0_ : Nat → Prop) (u9000_ : Value) (l0 : List Int) (a1 : Int) (r1 : Int) (r2 : List Int) (w0 w : World) (hB : Below w0.heap.size w0 w) (ho0 : Kd.R (Kd.int .i64) 2 w w0.heap.size P0_ u9000_ l0) (h : laws_markInt64S.f k l0 a1 = some (r1, r2)) :
  Calls Try.prog 14 #[u9000_, .int .i64 a1] w fun e w' => e = .returned (.int .i64 r1) ∧ Kd.R (Kd.int .i64) 2 w' w0.heap.size (fun k_ => (P0_ k_ ∨ w.heap.size ≤ k_)) u9000_ r2 ∧ Below w0.heap.size w0 w' ∧ Kept w w' (fun k_ => P0_ k_) := by
 have HO0 := AZ.mk (show Kd.R (Kd.int .i64) 2 w w0.heap.size (fun k_ => (P0_ k_ ∨ w.heap.size ≤ k_)) u9000_ l0 from Kd.R_mono ho0 (fun k_ hk => (.inl hk)))
 have HK := AZ.mk (Kept.refl w (fun k_ => P0_ k_))
 have HW0 := AZ.mk hB.size
 have HB := AZ.mk hB
 clear hB
 have H : (laws_markInt64S.l0 k l0 a1 0) = some (r1, r2) := h
 clear h
 have H' := AZ.mk H
 clear H
 go_enter Try.func14, Try.ntmps14
 go_wp2
 go_loopg [1, 5] k (fun kq v1 v5 w' => ∃ (x0_1 : List Int) (x1_1 : Int) (x5_1 : Int), v1 = .int .i64 x1_1 ∧ v5 = .int .i64 x5_1 ∧ AZ (laws_markInt64S.l0 kq x0_1 x1_1 x5_1 = some (r1, r2)) ∧ AZ (kq ≤ k) ∧ AZ (Kd.R (Kd.int .i64) 2 w' w0.heap.size (fun k_ => (P0_ k_ ∨ w.heap.size ≤ k_)) u9000_ x0_1) ∧ AZ (Kept w w' (fun k_ => P0_ k_)) ∧ AZ (Below w0.heap.size w0 w'))
 case atStart => exact ⟨(l0), (a1), (0), (by first | rfl | (simp; done) | (simp [*]; done)), (by first | rfl | (simp; done) | (simp [*]; done)), H', ⟨Nat.le_refl _⟩, ⟨by (with_reducible repeat (first | apply Kd.R_alloc | apply Kd.R_drewN | apply Kd.R_drew)); exact HO0.out⟩, ⟨by repeat (first | (with_reducible first | exact HK.out | apply Kept.alloc | apply Kept.drewN | apply Kept.drew) | exact HK.out)⟩, ⟨by repeat (first | (with_reducible first | exact HB.out | apply pA | apply pN | apply pD) | exact HB.out)⟩⟩
 case round =>
  clear H'
  try clear c1
  try clear p2
  obtain ⟨x0_1, x1_1, x5_1, rfl, rfl, HA, HK1, HO_0, HK, HB⟩ := hrel
  cases gk with
  | zero => exact absurd HA.out (by simp [laws_markInt64S.l0])
  | succ k1 =>
   have H := HA.out
   clear HA
   simp only [laws_markInt64S.l0] at H
   by_cases c3 : x5_1 < (x0_1.length : Int)
   rotate_left
   ·rw [if_neg c3] at H
    have c3b0 : decide (x5_1 < (x0_1.length : Int)) = false := decide_eq_false c3
    clear c3
    simp only [Option.some.injEq, Prod.mk.injEq] at H
    obtain ⟨rfl, rfl⟩ := H
    obtain ⟨Ao9, co9, eo9⟩ := Kd.R_slice HO_0.out
    subst eo9
    go_wp2
    go_ret
    exact ⟨by first | rfl | (simp [errW_none, errW_some] <;> rfl) | (simp [*, errW_none, errW_some] <;> rfl), by (with_reducible repeat (first | apply Kd.R_alloc | apply Kd.R_drewN | apply Kd.R_drew)); exact HO_0.out, by repeat (first | (with_reducible first | exact HB.out | apply pA | apply pN | apply pD) | exact HB.out), by repeat (first | (with_reducible first | exact HK.out | apply Kept.alloc | apply Kept.drewN | apply Kept.drew) | exact HK.out)⟩
   rw [if_pos c3] at H
   have c3b0 : decide (x5_1 < (x0_1.length : Int)) = true := decide_eq_true c3
   clear c3
   by_cases c4 : 0 ≤ x5_1
   rotate_left
   ·rw [if_neg c4] at H
    exact absurd H (by simp)
   rw [if_pos c4] at H
   have c4b0 : decide (0 ≤ x5_1) = true := decide_eq_true c4
   clear c4
   obtain ⟨y324, hy324⟩ : ∃ y_ : List Int, y_ = (x0_1.set (x5_1 : Int).toNat x1_1) := ⟨_, rfl⟩
   replace H : (laws_markInt64S.l0 k1 y324 (wrap64 (x1_1 + 1)) (wrap64 (x5_1 + 1))) = some (r1, r2) := by first | (rw [hy324]; with_reducible exact H) | (have H2_ := (Option.bind_some _ _).symm.trans H; rw [hy324]; with_reducible exact H2_) | (have H2_ := (Option.bind_some _ _).symm.trans H; with_reducible exact H2_) | with_reducible exact H | (rw [hy324]; exact H) | exact H
   have Ny324 := AZ.mk hy324
   clear hy324
   have H' := AZ.mk H
   clear H
   obtain ⟨Ao6, co6, eo6⟩ := Kd.R_slice HO_0.out
   subst eo6
   have p5 : 0 ≤ (x5_1 : Int) := oT (by first | (with_reducible assumption) | assumption)
   have q5 : (x5_1 : Int) < ((x0_1.length : Int) : Int) := oT (by first | (with_reducible assumption) | assumption)
   obtain ⟨go5, co5, eo5, gb5, gl5, cl5, HG5⟩ := Kd.R_form HO_0.out (by omega)
   (first | cases eo5 | (injection eo5 with ea_ en_ ec_; (first | subst ea_ | (injection ea_ with ea_; subst ea_)); subst ec_; clear en_))
   have GB5 := AZ.mk gb5
   have GG5 := AZ.mk HG5
   clear gb5 gl5 HG5
   have HMgo5 := AZ.mk (show (P0_ go5 ∨ w.heap.size ≤ go5) from (HO_0.out.1 _ rfl))
   obtain ⟨hx5_0, hf5_0⟩ := Kd.R_celln 0 HO_0.out (x5_1 : Int) p5 q5
   replace p5 := eq_true p5
   replace q5 := eq_true q5
   have HP7 := Kd.R_putg HO_0.out (x5_1 : Int) x1_1
   go_wp2_with (first | ((with_reducible refine gate_store (t := 2) (p := 15) rfl ?_); refine store_event (t := 2) (p := 15) (v := ?vo_w8) (w1 := (wr.setCell ⟨go5, (x5_1 : Int).toNat, none⟩ (.int .i64 x1_1))) ?hg ?ho ?hn ?hr ?_; (case ho => rfl); (case hg => rfl); (case hn => rfl); (case hr => first | (go_simp; done) | (go_simp; rfl)); intro w8 hw; have hg : wr.grownBy w8 (some go5) := (by rw [hw]; exact HP7.2); have hp_ : Kd.R (Kd.int .i64) 2 w8 w0.heap.size (fun k_ => (P0_ k_ ∨ w.heap.size ≤ k_)) (.slice (some ⟨go5, 0, none⟩) x0_1.length co6) y324 := (by rw [hw, Ny324.out]; exact HP7.1); clear HP7; have n0_ := AZ.mk (hp_); have n1_ := AZ.mk ((by rw [hw]; exact pS (HB.out) GB5.out : Below w0.heap.size w0 w8)); have n2_ := AZ.mk (Kept.of_grown (S := (fun k_ => P0_ k_)) hg (by repeat (first | (with_reducible first | exact HK.out | apply Kept.alloc | apply Kept.drewN | apply Kept.drew) | exact HK.out)) (fun k_ e_ => (HO_0.out.1 k_ e_))); clear HO_0; clear HB; clear HK; have HO_0 := n0_; have HB := n1_; have HK := n2_; clear n0_ n1_ n2_; clear hg hw hp_))
   go_roundg k1
   case measure => have := HK1.out; omega
   case rel => exact ⟨(y324), (wrap64 (x1_1 + 1)), (wrap64 (x5_1 + 1)), (by first | rfl | (simp; done) | (simp [*]; done)), (by first | rfl | (simp; done) | (simp [*]; done)), H', ⟨by have := HK1.out; omega⟩, ⟨by (with_reducible repeat (first | apply Kd.R_alloc | apply Kd.R_drewN | apply Kd.R_drew)); exact HO_0.out⟩, ⟨by repeat (first | (with_reducible first | exact HK.out | apply Kept.alloc | apply Kept.drewN | apply Kept.drew) | exact HK.out)⟩, ⟨by repeat (first | (with_reducible first | exact HB.out | apply pA | apply pN | apply pD) | exact HB.out)⟩⟩
end Go.Proofs.Yteeplponconnjaa.P
namespace Go.Proofs.Yteeplponconnjaa.P
open Go.RowKit Go.Proofs.YteeplponconnjaaW.PrintWords Go.Proofs.YteeplponconnjaaW.PrintLast Go.Proofs.YteeplponconnjaaW.PrintMore
attribute [local go_sem] max2_int min2_int max_two min_two max_three min_three max_four min_four
set_option linter.unusedVariables false
set_option linter.unusedSimpArgs false
def laws_heldInt64S.l0 : Nat → List Int → Int → Int → Option (Int)
 | 0, _, _, _ => none
 | k + 1, x0, x1, x5 => if x5 < (x0.length : Int) then (if 0 ≤ x5 then (if (rd x0 x5) = x1 then (laws_heldInt64S.l0 k x0 (wrap64 (x1 + 1)) (wrap64 (x5 + 1))) else (some (-1))) else (none)) else (some x1)
def laws_heldInt64S.f (k : Nat) (l0 : List Int) (a1 : Int) : Option (Int) := laws_heldInt64S.l0 k l0 a1 0
set_option maxHeartbeats 8000000 in
set_option maxRecDepth 100000 in
theorem laws_heldInt64S.calls (k : Nat) (A0 : Option Addr) (c0 : Nat) (l0 : List Int) (a1 : Int) (r : Int) (w : World) (hr0 : Kd.C (Kd.int .i64) w A0 l0.length l0) (hc0 : l0.length ≤ c0) (h : laws_heldInt64S.f k l0 a1 = some r) :
  Calls Try.prog 15 #[.slice A0 l0.length c0, .int .i64 a1] w fun e w' => e = .returned (.int .i64 r) ∧ Drawn0 w w' := by
 have HR0 := AZ.mk hr0
 have HC0 := AZ.mk hc0
 clear hr0 hc0
 have H : (laws_heldInt64S.l0 k l0 a1 0) = some r := h
 clear h
 have H' := AZ.mk H
 clear H
 go_enter Try.func15, Try.ntmps15
 go_wp2
 go_loopg [1, 5] k (fun kq v1 v5 w' => ∃ (x1_1 : Int) (x5_1 : Int), v1 = .int .i64 x1_1 ∧ v5 = .int .i64 x5_1 ∧ AZ (laws_heldInt64S.l0 kq l0 x1_1 x5_1 = some r) ∧ AZ (kq ≤ k) ∧ Drawn0 w w')
 case atStart => exact ⟨(a1), (0), (by first | rfl | (simp; done) | (simp [*]; done)), (by first | rfl | (simp; done) | (simp [*]; done)), H', ⟨Nat.le_refl _⟩, by repeat (first | exact Drawn0.refl _ | apply Drawn0.step)⟩
 case round =>
  clear H'
  try clear c1
  try clear p2
  obtain ⟨x1_1, x5_1, rfl, rfl, HA, HK1, ⟨m1, rfl⟩⟩ := hrel
  cases gk with
  | zero => exact absurd HA.out (by simp [laws_heldInt64S.l0])
  | succ k1 =>
   have H := HA.out
   clear HA
   simp only [laws_heldInt64S.l0] at H
   by_cases c3 : x5_1 < (l0.length : Int)
   rotate_left
   ·rw [if_neg c3] at H
    have c3b0 : decide (x5_1 < (l0.length : Int)) = false := decide_eq_false c3
    clear c3
    obtain rfl := Option.some.inj H
    go_wp2
    go_ret
    exact ⟨by first | rfl | (simp; done) | (simp [*]; done), by repeat (first | exact Drawn0.refl _ | apply Drawn0.step)⟩
   rw [if_pos c3] at H
   have c3b0 : decide (x5_1 < (l0.length : Int)) = true := decide_eq_true c3
   clear c3
   by_cases c4 : 0 ≤ x5_1
   rotate_left
   ·rw [if_neg c4] at H
    exact absurd H (by simp)
   rw [if_pos c4] at H
   have c4b0 : decide (0 ≤ x5_1) = true := decide_eq_true c4
   clear c4
   by_cases c5 : (rd l0 x5_1) = x1_1
   rotate_left
   ·rw [if_neg c5] at H
    have c5b0 : ((rd l0 x5_1) == x1_1) = false := beq_eq_false_iff_ne.mpr c5
    have c5b1 : ((rd l0 x5_1) != x1_1) = true := bne_iff_ne.mpr c5
    obtain rfl := Option.some.inj H
    have p325 : 0 ≤ (x5_1 : Int) := oT (by first | (with_reducible assumption) | assumption)
    have q325 : x5_1 < (l0.length : Int) := oT (by first | (with_reducible assumption) | assumption)
    obtain ⟨ad325, e325, hx325_0⟩ := Kd.at_int HR0.out x5_1 p325 q325
    cases e325
    replace p325 := eq_true p325
    replace q325 := eq_true q325
    go_wp2
    go_ret
    exact ⟨by first | rfl | (simp; done) | (simp [*]; done), by repeat (first | exact Drawn0.refl _ | apply Drawn0.step)⟩
   rw [if_pos c5] at H
   have c5b0 : ((rd l0 x5_1) == x1_1) = true := beq_iff_eq.mpr c5
   have c5b1 : ((rd l0 x5_1) != x1_1) = false := bne_eq_false_iff_eq.mpr c5
   clear c5
   have H' := AZ.mk H
   clear H
   have p325 : 0 ≤ (x5_1 : Int) := oT (by first | (with_reducible assumption) | assumption)
   have q325 : x5_1 < (l0.length : Int) := oT (by first | (with_reducible assumption) | assumption)
   obtain ⟨ad325, e325, hx325_0⟩ := Kd.at_int HR0.out x5_1 p325 q325
   cases e325
   replace p325 := eq_true p325
   replace q325 := eq_true q325
   go_wp2
   go_roundg k1
   case measure => have := HK1.out; omega
   case rel => exact ⟨(wrap64 (x1_1 + 1)), (wrap64 (x5_1 + 1)), (by first | rfl | (simp; done) | (simp [*]; done)), (by first | rfl | (simp; done) | (simp [*]; done)), H', ⟨by have := HK1.out; omega⟩, by repeat (first | exact Drawn0.refl _ | apply Drawn0.step)⟩
end Go.Proofs.Yteeplponconnjaa.P
namespace Go.Proofs.Yteeplponconnjaa.P
open Go.RowKit Go.Proofs.YteeplponconnjaaW.PrintWords Go.Proofs.YteeplponconnjaaW.PrintLast Go.Proofs.YteeplponconnjaaW.PrintMore
attribute [local go_sem] max2_int min2_int max_two min_two max_three min_three max_four min_four
set_option linter.unusedVariables false
set_option linter.unusedSimpArgs false
mutual
def laws_FnExactAnswersOf.j0 : Nat → ByteArray → List Int → Int → List Int → Int → Bool → List (S57) → List (S62) → Option (Bool)
 | 0, _, _, _, _, _, _, _, _ => none
 | k + 1, x1, x6, x7, x9, x10, x47, x327000, x339000 => if x47 = true then (some false) else ((laws_toQuery.f k x327000).bind fun t344 => ((laws_eqQuery.f k x339000 t344).bind fun t347 => (if t347 = true then ((laws_markQuery.f k x339000 1).bind fun bt348 => (if bt348.1 < 0 then (laws_FnExactAnswersOf.j1 k x1 x6 x7 x9 true x327000) else ((laws_eqInt64S.f k x9 x6).bind fun t350 => (if t350 = true then (laws_FnExactAnswersOf.j1 k x1 x6 x7 x9 (x10 != x7) x327000) else (laws_FnExactAnswersOf.j1 k x1 x6 x7 x9 true x327000))))) else (some false))))
def laws_FnExactAnswersOf.j1 : Nat → ByteArray → List Int → Int → List Int → Bool → List (S57) → Option (Bool)
 | 0, _, _, _, _, _, _ => none
 | k + 1, x1, x6, x7, x9, x68, x327000 => if x68 = true then (some false) else ((laws_markInt64S.f k x9 1).bind fun bt351 => ((laws_heldInt64S.f k bt351.2 1).bind fun t353 => (if t353 < 0 then (some false) else (if t353 = bt351.1 then ((laws_toQuery.f k x327000).bind fun t354 => ((impl_AnswersOf.f k t354 x1).bind fun bt357 => ((laws_eqInt64S.f k bt357.1 x6).bind fun t361 => (if t361 = true then (laws_FnExactAnswersOf.j2 k bt351.2 bt351.1 (bt357.2 != x7)) else (laws_FnExactAnswersOf.j2 k bt351.2 bt351.1 true))))) else (some false)))))
def laws_FnExactAnswersOf.j2 : Nat → List Int → Int → Bool → Option (Bool)
 | 0, _, _, _ => none
 | k + 1, x9, x12, x95 => if x95 = true then (some false) else ((laws_heldInt64S.f k x9 1).bind fun t362 => (if t362 < 0 then (some false) else (if t362 = x12 then (some true) else (some false))))
end
def laws_FnExactAnswersOf.f (k : Nat) (l0_0 : List (S57)) (a1 : ByteArray) : Option (Bool) := if (a1.size : Int) > 1048576 then (some true) else ((laws_szQuery.f k l0_0 1048576).bind fun t327 => (if t327 < 0 then (some true) else ((laws_toQuery.f k l0_0).bind fun t328 => ((spec_AnswersOf.f k t328 a1).bind fun bt331 => ((laws_toQuery.f k l0_0).bind fun t335 => ((impl_AnswersOf.f k t335 a1).bind fun bt339 => ((laws_eqInt64S.f k bt339.1 bt331.1).bind fun t343 => (if t343 = true then (laws_FnExactAnswersOf.j0 k a1 bt331.1 bt331.2 bt339.1 bt339.2 (bt339.2 != bt331.2) l0_0 t335) else (laws_FnExactAnswersOf.j0 k a1 bt331.1 bt331.2 bt339.1 bt339.2 true l0_0 t335)))))))))
set_option maxHeartbeats 8000000 in
set_option maxRecDepth 100000 in
theorem laws_FnExactAnswersOf.calls (k : Nat) (A0_0 : Option Addr) (c0_0 : Nat) (l0_0 : List (S57)) (a1 : ByteArray) (r : Bool) (w : World) (hr0_0 : Kd.C k57 w A0_0 l0_0.length l0_0) (hc0_0 : l0_0.length ≤ c0_0) (h : laws_FnExactAnswersOf.f k l0_0 a1 = some r) :
  Calls Try.prog 4 #[.agg #[.slice A0_0 l0_0.length c0_0], .string a1] w fun e w' => e = .returned (.bool r) ∧ Below w.heap.size w w' := by
 have hu24 := Try.underlying24
 have hu30 := Try.underlying30
 have HR0_0 := AZ.mk hr0_0
 have HC0_0 := AZ.mk hc0_0
 clear hr0_0 hc0_0
 have HB := AZ.mk (Below.refl w.heap.size w)
 have H : (if (a1.size : Int) > 1048576 then (some true) else ((laws_szQuery.f k l0_0 1048576).bind fun t327 => (if t327 < 0 then (some true) else ((laws_toQuery.f k l0_0).bind fun t328 => ((spec_AnswersOf.f k t328 a1).bind fun bt331 => ((laws_toQuery.f k l0_0).bind fun t335 => ((impl_AnswersOf.f k t335 a1).bind fun bt339 => ((laws_eqInt64S.f k bt339.1 bt331.1).bind fun t343 => (if t343 = true then (laws_FnExactAnswersOf.j0 k a1 bt331.1 bt331.2 bt339.1 bt339.2 (bt339.2 != bt331.2) l0_0 t335) else (laws_FnExactAnswersOf.j0 k a1 bt331.1 bt331.2 bt339.1 bt339.2 true l0_0 t335)))))))))) = some r := h
 clear h
 by_cases c3 : (a1.size : Int) > 1048576
 ·rw [if_pos c3] at H
  have c3b0 : decide (1048576 < (a1.size : Int)) = true := decide_eq_true c3
  have c3b1 : decide (1048576 < a1.size) = true := decide_eq_true (by omega)
  clear c3
  obtain rfl := Option.some.inj H
  go_enter Try.func4, Try.ntmps4
  go_wp2_with (first | ((with_reducible refine gate_dst (N := 2) rfl ?_); refine box_event ?hg (N := 2) ?hd (cs := #[.slice A0_0 l0_0.length c0_0]) (t := 24) ?hr ?_; (case hd => rfl); (case hg => rfl); (case hr => first | (go_simp; done) | (go_simp; rfl)); intro gb326 hg w4 hbox hb; have n0_ := AZ.mk (pT (by repeat (first | (with_reducible first | exact HB.out | apply pA | apply pN | apply pD) | exact HB.out)) hb); have n1_ := AZ.mk (hbox); have n2_ := AZ.mk ((by rw [hg]; exact (pZ (by repeat (first | (with_reducible first | exact HB.out | apply pA | apply pN | apply pD) | exact HB.out))) : w.heap.size ≤ gb326)); have n3_ := AZ.mk ((by rw [hg]; exact (pZ (by repeat (first | (with_reducible first | exact HB.out | apply pA | apply pN | apply pD) | exact HB.out))) : w.heap.size ≤ gb326)); clear HB; have HB := n0_; have BK326 := n1_; have GW326 := n2_; have GE326 := n3_; clear n0_ n1_ n2_ n3_; clear hb hbox hg))
  go_ret
  exact ⟨by first | rfl | (simp [errW_none, errW_some] <;> rfl) | (simp [*, errW_none, errW_some] <;> rfl), by repeat (first | (with_reducible first | exact HB.out | apply pA | apply pN | apply pD | refine pS ?_ GE326.out) | exact HB.out)⟩
 rw [if_neg c3] at H
 have c3b0 : decide (1048576 < (a1.size : Int)) = false := decide_eq_false c3
 have c3b1 : decide (1048576 < a1.size) = false := decide_eq_false (by omega)
 clear c3
 replace H := Option.bind_eq_some_iff.mp H
 obtain ⟨t327, A50, H⟩ := H
 replace H : (if t327 < 0 then (some true) else ((laws_toQuery.f k l0_0).bind fun t328 => ((spec_AnswersOf.f k t328 a1).bind fun bt331 => ((laws_toQuery.f k l0_0).bind fun t335 => ((impl_AnswersOf.f k t335 a1).bind fun bt339 => ((laws_eqInt64S.f k bt339.1 bt331.1).bind fun t343 => (if t343 = true then (laws_FnExactAnswersOf.j0 k a1 bt331.1 bt331.2 bt339.1 bt339.2 (bt339.2 != bt331.2) l0_0 t335) else (laws_FnExactAnswersOf.j0 k a1 bt331.1 bt331.2 bt339.1 bt339.2 true l0_0 t335)))))))) = some r := H
 have A5 := AZ.mk A50
 clear A50
 by_cases c6 : t327 < 0
 ·rw [if_pos c6] at H
  have c6b0 : decide (t327 < 0) = true := decide_eq_true c6
  clear c6
  obtain rfl := Option.some.inj H
  go_enter Try.func4, Try.ntmps4
  go_wp2_with (first | ((with_reducible refine gate_dst (N := 2) rfl ?_); refine box_event ?hg (N := 2) ?hd (cs := #[.slice A0_0 l0_0.length c0_0]) (t := 24) ?hr ?_; (case hd => rfl); (case hg => rfl); (case hr => first | (go_simp; done) | (go_simp; rfl)); intro gb326 hg w7 hbox hb; have n0_ := AZ.mk (pT (by repeat (first | (with_reducible first | exact HB.out | apply pA | apply pN | apply pD) | exact HB.out)) hb); have n1_ := AZ.mk (hbox); have n2_ := AZ.mk ((by rw [hg]; exact (pZ (by repeat (first | (with_reducible first | exact HB.out | apply pA | apply pN | apply pD) | exact HB.out))) : w.heap.size ≤ gb326)); have n3_ := AZ.mk ((by rw [hg]; exact (pZ (by repeat (first | (with_reducible first | exact HB.out | apply pA | apply pN | apply pD) | exact HB.out))) : w.heap.size ≤ gb326)); clear HB; have HB := n0_; have BK326 := n1_; have GW326 := n2_; have GE326 := n3_; clear n0_ n1_ n2_ n3_; clear hb hbox hg; have hcz8_0 : w7.cell? ⟨gb326, 0, none⟩ = some (.slice A0_0 l0_0.length c0_0) := (bc BK326.out 0).trans rfl; have hfz8_0 := bf BK326.out 0) | ((with_reducible refine gate_callee (f := 5) rfl ?_); refine goesL_ (some 21) rfl rfl Try.func5 (by kernel_rfl) rfl #[.agg #[.slice A0_0 l0_0.length c0_0], .int .i64 1048576] rfl (by (try simp only [List.map_toArray, List.map_cons, List.map_nil]); first | done | rfl | (simp only [List.length_drop, List.length_take]; rfl)) ?_; (with_reducible refine (laws_szQuery.calls k _ _ l0_0 1048576 t327 _ ?side1 ?side2 A5.out).mono ?_); (case side1 => repeat (first | exact (Kd.C_below HR0_0.out HB.out) | (with_reducible refine Kd.C_alloc ?_ _) | (with_reducible refine Kd.C_drewN ?_ _) | (with_reducible refine Kd.C_drew ?_))); (case side2 => exact HC0_0.out); rintro e w9 ⟨rfl, hb⟩; refine ⟨_, rfl, ?_⟩; have n0_ := AZ.mk (bb_ (g := gb326) (o := .cells #[.slice A0_0 l0_0.length c0_0] 24 (0, 0)) (by (with_reducible repeat (first | refine bn_ ?_ _ | refine bd_ ?_ | refine ba_ ?_ _)); exact BK326.out) hb); have n1_ := AZ.mk (pT (by repeat (first | (with_reducible first | exact HB.out | apply pA | apply pN | apply pD | refine pS ?_ GE326.out) | exact HB.out)) hb); clear BK326; clear HB; have BK326 := n0_; have HB := n1_; clear n0_ n1_; (try clear hb); (try clear hb2); (try clear hk); (try clear hi)))
  go_ret
  exact ⟨by first | rfl | (simp [errW_none, errW_some] <;> rfl) | (simp [*, errW_none, errW_some] <;> rfl), by repeat (first | (with_reducible first | exact HB.out | apply pA | apply pN | apply pD | refine pS ?_ GE326.out) | exact HB.out)⟩
 rw [if_neg c6] at H
 have c6b0 : decide (t327 < 0) = false := decide_eq_false c6
 clear c6
 replace H := Option.bind_eq_some_iff.mp H
 obtain ⟨t328, A100, H⟩ := H
 replace H : ((spec_AnswersOf.f k t328 a1).bind fun bt331 => ((laws_toQuery.f k l0_0).bind fun t335 => ((impl_AnswersOf.f k t335 a1).bind fun bt339 => ((laws_eqInt64S.f k bt339.1 bt331.1).bind fun t343 => (if t343 = true then (laws_FnExactAnswersOf.j0 k a1 bt331.1 bt331.2 bt339.1 bt339.2 (bt339.2 != bt331.2) l0_0 t335) else (laws_FnExactAnswersOf.j0 k a1 bt331.1 bt331.2 bt339.1 bt339.2 true l0_0 t335)))))) = some r := H
 have A10 := AZ.mk A100
 clear A100
 replace H := Option.bind_eq_some_iff.mp H
 obtain ⟨⟨t331, t334⟩, A110, H⟩ := H
 replace H : ((laws_toQuery.f k l0_0).bind fun t335 => ((impl_AnswersOf.f k t335 a1).bind fun bt339 => ((laws_eqInt64S.f k bt339.1 t331).bind fun t343 => (if t343 = true then (laws_FnExactAnswersOf.j0 k a1 t331 t334 bt339.1 bt339.2 (bt339.2 != t334) l0_0 t335) else (laws_FnExactAnswersOf.j0 k a1 t331 t334 bt339.1 bt339.2 true l0_0 t335))))) = some r := H
 have A11 := AZ.mk A110
 clear A110
 replace H := Option.bind_eq_some_iff.mp H
 obtain ⟨t335, A120, H⟩ := H
 replace H : ((impl_AnswersOf.f k t335 a1).bind fun bt339 => ((laws_eqInt64S.f k bt339.1 t331).bind fun t343 => (if t343 = true then (laws_FnExactAnswersOf.j0 k a1 t331 t334 bt339.1 bt339.2 (bt339.2 != t334) l0_0 t335) else (laws_FnExactAnswersOf.j0 k a1 t331 t334 bt339.1 bt339.2 true l0_0 t335)))) = some r := H
 have A12 := AZ.mk A120
 clear A120
 replace H := Option.bind_eq_some_iff.mp H
 obtain ⟨⟨t339, t342⟩, A130, H⟩ := H
 replace H : ((laws_eqInt64S.f k t339 t331).bind fun t343 => (if t343 = true then (laws_FnExactAnswersOf.j0 k a1 t331 t334 t339 t342 (t342 != t334) l0_0 t335) else (laws_FnExactAnswersOf.j0 k a1 t331 t334 t339 t342 true l0_0 t335))) = some r := H
 have A13 := AZ.mk A130
 clear A130
 have HC14 := AZ.mk H
 clear H
 go_enter Try.func4, Try.ntmps4
 go_upto_region 10 with (first | ((with_reducible refine gate_dst (N := 2) rfl ?_); refine box_event ?hg (N := 2) ?hd (cs := #[.slice A0_0 l0_0.length c0_0]) (t := 24) ?hr ?_; (case hd => rfl); (case hg => rfl); (case hr => first | (go_simp; done) | (go_simp; rfl)); intro gb326 hg w15 hbox hb; have n0_ := AZ.mk (pT (by repeat (first | (with_reducible first | exact HB.out | apply pA | apply pN | apply pD) | exact HB.out)) hb); have n1_ := AZ.mk (hbox); have n2_ := AZ.mk ((by rw [hg]; exact (pZ (by repeat (first | (with_reducible first | exact HB.out | apply pA | apply pN | apply pD) | exact HB.out))) : w.heap.size ≤ gb326)); have n3_ := AZ.mk ((by rw [hg]; exact (pZ (by repeat (first | (with_reducible first | exact HB.out | apply pA | apply pN | apply pD) | exact HB.out))) : w.heap.size ≤ gb326)); clear HB; have HB := n0_; have BK326 := n1_; have GW326 := n2_; have GE326 := n3_; clear n0_ n1_ n2_ n3_; clear hb hbox hg; have hcz16_0 : w15.cell? ⟨gb326, 0, none⟩ = some (.slice A0_0 l0_0.length c0_0) := (bc BK326.out 0).trans rfl; have hfz16_0 := bf BK326.out 0) | ((with_reducible refine gate_callee (f := 5) rfl ?_); refine goesL_ (some 21) rfl rfl Try.func5 (by kernel_rfl) rfl #[.agg #[.slice A0_0 l0_0.length c0_0], .int .i64 1048576] rfl (by (try simp only [List.map_toArray, List.map_cons, List.map_nil]); first | done | rfl | (simp only [List.length_drop, List.length_take]; rfl)) ?_; (with_reducible refine (laws_szQuery.calls k _ _ l0_0 1048576 t327 _ ?side1 ?side2 A5.out).mono ?_); (case side1 => repeat (first | exact (Kd.C_below HR0_0.out HB.out) | (with_reducible refine Kd.C_alloc ?_ _) | (with_reducible refine Kd.C_drewN ?_ _) | (with_reducible refine Kd.C_drew ?_))); (case side2 => exact HC0_0.out); rintro e w17 ⟨rfl, hb⟩; refine ⟨_, rfl, ?_⟩; have n0_ := AZ.mk (bb_ (g := gb326) (o := .cells #[.slice A0_0 l0_0.length c0_0] 24 (0, 0)) (by (with_reducible repeat (first | refine bn_ ?_ _ | refine bd_ ?_ | refine ba_ ?_ _)); exact BK326.out) hb); have n1_ := AZ.mk (pT (by repeat (first | (with_reducible first | exact HB.out | apply pA | apply pN | apply pD | refine pS ?_ GE326.out) | exact HB.out)) hb); clear BK326; clear HB; have BK326 := n0_; have HB := n1_; clear n0_ n1_; (try clear hb); (try clear hb2); (try clear hk); (try clear hi); have hcz18_0 : w17.cell? ⟨gb326, 0, none⟩ = some (.slice A0_0 l0_0.length c0_0) := (bc BK326.out 0).trans rfl; have hfz18_0 := bf BK326.out 0) | ((with_reducible refine gate_callee (f := 7) rfl ?_); refine goesL_ (some 26) rfl rfl Try.func7 (by kernel_rfl) rfl #[.agg #[.slice A0_0 l0_0.length c0_0]] rfl (by (try simp only [List.map_toArray, List.map_cons, List.map_nil]); first | done | rfl | (simp only [List.length_drop, List.length_take]; rfl)) ?_; (with_reducible refine (laws_toQuery.calls k _ _ l0_0 t328 _ ?side1 ?side2 A10.out).mono ?_); (case side1 => repeat (first | exact (Kd.C_below HR0_0.out HB.out) | (with_reducible refine Kd.C_alloc ?_ _) | (with_reducible refine Kd.C_drewN ?_ _) | (with_reducible refine Kd.C_drew ?_))); (case side2 => exact HC0_0.out); rintro e w19 ⟨v329, rfl, ho0, hb⟩; refine ⟨_, rfl, ?_⟩; have n0_ := AZ.mk (Kd.R_lower ho0 (pZ (by repeat (first | (with_reducible first | exact HB.out | apply pA | apply pN | apply pD | refine pS ?_ GE326.out) | exact HB.out)))); have n1_ := AZ.mk (bb_ (g := gb326) (o := .cells #[.slice A0_0 l0_0.length c0_0] 24 (0, 0)) (by (with_reducible repeat (first | refine bn_ ?_ _ | refine bd_ ?_ | refine ba_ ?_ _)); exact BK326.out) hb); have n2_ := AZ.mk (pT (by repeat (first | (with_reducible first | exact HB.out | apply pA | apply pN | apply pD | refine pS ?_ GE326.out) | exact HB.out)) hb); clear BK326; clear HB; have HO330 := n0_; have BK326 := n1_; have HB := n2_; clear n0_ n1_ n2_; (try clear hb); (try clear hb2); (try clear hk); (try clear hi); (try clear ho0); obtain ⟨Ao20, co20, eo20⟩ := Kd.R_slice HO330.out; subst eo20) | ((with_reducible refine gate_callee (f := 10) rfl ?_); refine goesL_ (some 28) rfl rfl Try.func10 (by kernel_rfl) rfl #[.agg #[.slice Ao20 t328.length co20], .string a1] rfl (by (try simp only [List.map_toArray, List.map_cons, List.map_nil]); first | done | rfl | (simp only [List.length_drop, List.length_take]; rfl)) ?_; (with_reducible refine (spec_AnswersOf.calls k _ _ t328 a1 t331 t334 _ ?side1 ?side2 A11.out).mono ?_); (case side1 => repeat (first | exact (Kd.R_reads' HO330.out).2.2 | (with_reducible refine Kd.C_alloc ?_ _) | (with_reducible refine Kd.C_drewN ?_ _) | (with_reducible refine Kd.C_drew ?_))); (case side2 => exact (Kd.R_reads' HO330.out).2.1); rintro e w21 ⟨v332, rfl, ho0, hb⟩; refine ⟨_, rfl, ?_⟩; have n0_ := AZ.mk (Kd.R_below (by (with_reducible repeat (first | apply Kd.R_alloc | apply Kd.R_drewN | apply Kd.R_drew)); exact HO330.out) hb); have n1_ := AZ.mk (Kd.R_lower ho0 (pZ (by repeat (first | (with_reducible first | exact HB.out | apply pA | apply pN | apply pD | refine pS ?_ GE326.out) | exact HB.out)))); have n2_ := AZ.mk (bb_ (g := gb326) (o := .cells #[.slice A0_0 l0_0.length c0_0] 24 (0, 0)) (by (with_reducible repeat (first | refine bn_ ?_ _ | refine bd_ ?_ | refine ba_ ?_ _)); exact BK326.out) hb); have n3_ := AZ.mk (pT (by repeat (first | (with_reducible first | exact HB.out | apply pA | apply pN | apply pD | refine pS ?_ GE326.out) | exact HB.out)) hb); clear HO330; clear BK326; clear HB; have HO330 := n0_; have HO333 := n1_; have BK326 := n2_; have HB := n3_; clear n0_ n1_ n2_ n3_; (try clear hb); (try clear hb2); (try clear hk); (try clear hi); (try clear ho0); have hcz22_0 : w21.cell? ⟨gb326, 0, none⟩ = some (.slice A0_0 l0_0.length c0_0) := (bc BK326.out 0).trans rfl; have hfz22_0 := bf BK326.out 0) | ((with_reducible refine gate_callee (f := 7) rfl ?_); refine goesL_ (some 32) rfl rfl Try.func7 (by kernel_rfl) rfl #[.agg #[.slice A0_0 l0_0.length c0_0]] rfl (by (try simp only [List.map_toArray, List.map_cons, List.map_nil]); first | done | rfl | (simp only [List.length_drop, List.length_take]; rfl)) ?_; (with_reducible refine (laws_toQuery.calls k _ _ l0_0 t335 _ ?side1 ?side2 A12.out).mono ?_); (case side1 => repeat (first | exact (Kd.C_below HR0_0.out HB.out) | (with_reducible refine Kd.C_alloc ?_ _) | (with_reducible refine Kd.C_drewN ?_ _) | (with_reducible refine Kd.C_drew ?_))); (case side2 => exact HC0_0.out); rintro e w23 ⟨v336, rfl, ho0, hb⟩; refine ⟨_, rfl, ?_⟩; have n0_ := AZ.mk (Kd.R_elder' (by (with_reducible repeat (first | apply Kd.R_alloc | apply Kd.R_drewN | apply Kd.R_drew)); exact HO330.out) (Kd.R_base ho0) hb); have n1_ := AZ.mk (Kd.R_below (by (with_reducible repeat (first | apply Kd.R_alloc | apply Kd.R_drewN | apply Kd.R_drew)); exact HO333.out) hb); have n2_ := AZ.mk (Kd.R_lower (Kd.R_new' ho0 (Kd.R_lt (by (with_reducible repeat (first | apply Kd.R_alloc | apply Kd.R_drewN | apply Kd.R_drew)); exact HO330.out))) (pZ (by repeat (first | (with_reducible first | exact HB.out | apply pA | apply pN | apply pD | refine pS ?_ GE326.out) | exact HB.out)))); have n3_ := AZ.mk (bb_ (g := gb326) (o := .cells #[.slice A0_0 l0_0.length c0_0] 24 (0, 0)) (by (with_reducible repeat (first | refine bn_ ?_ _ | refine bd_ ?_ | refine ba_ ?_ _)); exact BK326.out) hb); have n4_ := AZ.mk (pT (by repeat (first | (with_reducible first | exact HB.out | apply pA | apply pN | apply pD | refine pS ?_ GE326.out) | exact HB.out)) hb); clear HO330; clear HO333; clear BK326; clear HB; have HO330 := n0_; have HO333 := n1_; have HO337 := n2_; have BK326 := n3_; have HB := n4_; clear n0_ n1_ n2_ n3_ n4_; (try clear hb); (try clear hb2); (try clear hk); (try clear hi); (try clear ho0)) | ((with_reducible refine gate_dst (N := 8) rfl ?_); refine box_event ?hg (N := 8) ?hd (cs := #[.slice none 0 0]) (t := 30) ?hr ?_; (case hd => rfl); (case hg => rfl); (case hr => first | (go_simp; done) | (go_simp; rfl)); intro gb338 hg w24 hbox hb; have n0_ := AZ.mk (Kd.R_below (by (with_reducible repeat (first | apply Kd.R_alloc | apply Kd.R_drewN | apply Kd.R_drew)); exact HO330.out) hb); have n1_ := AZ.mk (Kd.R_below (by (with_reducible repeat (first | apply Kd.R_alloc | apply Kd.R_drewN | apply Kd.R_drew)); exact HO333.out) hb); have n2_ := AZ.mk (Kd.R_below (by (with_reducible repeat (first | apply Kd.R_alloc | apply Kd.R_drewN | apply Kd.R_drew)); exact HO337.out) hb); have n3_ := AZ.mk (bb_ (g := gb326) (o := .cells #[.slice A0_0 l0_0.length c0_0] 24 (0, 0)) (by (with_reducible repeat (first | refine bn_ ?_ _ | refine bd_ ?_ | refine ba_ ?_ _)); exact BK326.out) hb); have n4_ := AZ.mk (pT (by repeat (first | (with_reducible first | exact HB.out | apply pA | apply pN | apply pD | refine pS ?_ GE326.out) | exact HB.out)) hb); have n5_ := AZ.mk (hbox); have n6_ := AZ.mk ((by rw [hg]; exact (pZ (by repeat (first | (with_reducible first | exact HB.out | apply pA | apply pN | apply pD | refine pS ?_ GE326.out) | exact HB.out))) : w.heap.size ≤ gb338)); have n7_ := AZ.mk ((by rw [hg]; exact (pZ (by repeat (first | (with_reducible first | exact HB.out | apply pA | apply pN | apply pD | refine pS ?_ GE326.out) | exact HB.out))) : w.heap.size ≤ gb338)); have n8_ := AZ.mk ((by rw [hg]; exact Nat.ne_of_lt (blk_lt (g := gb326) (o := .cells #[.slice A0_0 l0_0.length c0_0] 24 (0, 0)) (by (with_reducible repeat (first | refine bn_ ?_ _ | refine bd_ ?_ | refine ba_ ?_ _)); exact BK326.out)) : gb326 ≠ gb338)); have n9_ := AZ.mk ((by rw [hg]; exact Nat.ne_of_gt (blk_lt (g := gb326) (o := .cells #[.slice A0_0 l0_0.length c0_0] 24 (0, 0)) (by (with_reducible repeat (first | refine bn_ ?_ _ | refine bd_ ?_ | refine ba_ ?_ _)); exact BK326.out)) : gb338 ≠ gb326)); clear HO330; clear HO333; clear HO337; clear BK326; clear HB; have HO330 := n0_; have HO333 := n1_; have HO337 := n2_; have BK326 := n3_; have HB := n4_; have BK338 := n5_; have GW338 := n6_; have GE338 := n7_; have NB326_338 := n8_; have NB338_326 := n9_; clear n0_ n1_ n2_ n3_ n4_ n5_ n6_ n7_ n8_ n9_; clear hb hbox hg; obtain ⟨Ao25, co25, eo25⟩ := Kd.R_slice HO337.out; subst eo25; have hnb26 := NB338_326.out; have hnc26 := NB326_338.out; have hcz27_0 : w24.cell? ⟨gb338, 0, none⟩ = some (.slice none 0 0) := (bc BK338.out 0).trans rfl; have hfz27_0 := bf BK338.out 0) | ((with_reducible refine gate_callee (f := 11) rfl ?_); refine goesL_ (some 36) rfl rfl Try.func11 (by kernel_rfl) rfl #[.agg #[.slice Ao25 t335.length co25], .string a1] rfl (by (try simp only [List.map_toArray, List.map_cons, List.map_nil]); first | done | rfl | (simp only [List.length_drop, List.length_take]; rfl)) ?_; (with_reducible refine (impl_AnswersOf.calls k _ _ t335 a1 t339 t342 _ ?side1 ?side2 A13.out).mono ?_); (case side1 => refine (Kd.R_reads' (e := 62) (base := w.heap.size) (ok := fun k_ => (True ∧ some k_ ≠ (.slice Ao20 t328.length co20 : Value).ownBlock)) (n := t335.length) (c := co25) ?_).2.2; exact (by (with_reducible repeat (first | apply Kd.R_alloc | apply Kd.R_drewN | apply Kd.R_drew)); exact (Kd.R_mono (Kd.R_far (p := ⟨gb338, 0, none⟩) (Kd.R_types HO337.out BK338.out (by decide)) (fun _ hk => hk.2) (.slice Ao25 t335.length co25)) (fun _ h_ => h_.1)))); (case side2 => exact (Kd.R_reads' HO337.out).2.1); rintro e w28 ⟨v340, rfl, ho0, hb⟩; refine ⟨_, rfl, ?_⟩; have n0_ := AZ.mk (Kd.R_below (by (with_reducible repeat (first | apply Kd.R_alloc | apply Kd.R_drewN | apply Kd.R_drew)); exact (Kd.R_mono (Kd.R_far (p := ⟨gb338, 0, none⟩) (Kd.R_types HO330.out BK338.out (by decide)) (fun _ hk => hk.2) (.slice Ao25 t335.length co25)) (fun _ h_ => h_.1))) hb); have n1_ := AZ.mk (Kd.R_elder' (by (with_reducible repeat (first | apply Kd.R_alloc | apply Kd.R_drewN | apply Kd.R_drew)); exact (Kd.R_mono (Kd.R_far (p := ⟨gb338, 0, none⟩) (Kd.R_types HO333.out BK338.out (by decide)) (fun _ hk => hk.2) (.slice Ao25 t335.length co25)) (fun _ h_ => h_.1))) (Kd.R_base ho0) hb); have n2_ := AZ.mk (Kd.R_below (by (with_reducible repeat (first | apply Kd.R_alloc | apply Kd.R_drewN | apply Kd.R_drew)); exact (Kd.R_mono (Kd.R_far (p := ⟨gb338, 0, none⟩) (Kd.R_types HO337.out BK338.out (by decide)) (fun _ hk => hk.2) (.slice Ao25 t335.length co25)) (fun _ h_ => h_.1))) hb); have n3_ := AZ.mk (Kd.R_lower (Kd.R_new' ho0 (Kd.R_lt (by (with_reducible repeat (first | apply Kd.R_alloc | apply Kd.R_drewN | apply Kd.R_drew)); exact (Kd.R_mono (Kd.R_far (p := ⟨gb338, 0, none⟩) (Kd.R_types HO333.out BK338.out (by decide)) (fun _ hk => hk.2) (.slice Ao25 t335.length co25)) (fun _ h_ => h_.1))))) (pZ (by repeat (first | (with_reducible first | exact HB.out | apply pA | apply pN | apply pD | refine pS ?_ GE326.out | refine pS ?_ GE338.out) | exact HB.out)))); have n4_ := AZ.mk (bb_ (g := gb326) (o := .cells #[.slice A0_0 l0_0.length c0_0] 24 (0, 0)) (by (with_reducible repeat (first | refine bn_ ?_ _ | refine bd_ ?_ | refine ba_ ?_ _)); refine blk_far ?_ NB326_338.out _; (with_reducible repeat (first | refine bn_ ?_ _ | refine bd_ ?_ | refine ba_ ?_ _)); exact BK326.out) hb); have n5_ := AZ.mk (bb_ (g := gb338) (o := .cells #[.slice Ao25 t335.length co25] 30 (0, 0)) (by (with_reducible repeat (first | refine bn_ ?_ _ | refine bd_ ?_ | refine ba_ ?_ _)); refine blk_put (cs := #[.slice none 0 0]) ?_ 0 _ rfl; (with_reducible repeat (first | refine bn_ ?_ _ | refine bd_ ?_ | refine ba_ ?_ _)); exact BK338.out) hb); have n6_ := AZ.mk (pT (by repeat (first | (with_reducible first | exact HB.out | apply pA | apply pN | apply pD | refine pS ?_ GE326.out | refine pS ?_ GE338.out) | exact HB.out)) hb); clear HO330; clear HO333; clear HO337; clear BK326; clear BK338; clear HB; have HO330 := n0_; have HO333 := n1_; have HO337 := n2_; have HO341 := n3_; have BK326 := n4_; have BK338 := n5_; have HB := n6_; clear n0_ n1_ n2_ n3_ n4_ n5_ n6_; (try clear hb); (try clear hb2); (try clear hk); (try clear hi); (try clear ho0)))
 (try simp only [Act.put, sA, sB, sC])
 go_cut [47] (fun v47 wc => ∃ (kq : Nat) (x47_13 : Bool), v47 = .bool x47_13 ∧ AZ (laws_FnExactAnswersOf.j0 kq a1 t331 t334 t339 t342 x47_13 l0_0 t335 = some r) ∧ AZ (kq ≤ k) ∧ AZ (Kd.R (Kd.int .i64) 2 wc w.heap.size (fun k_ => some k_ ≠ (v340 : Value).ownBlock) v332 t331) ∧ AZ (Kd.R (Kd.int .i64) 2 wc w.heap.size (fun k_ => some k_ ≠ (v332 : Value).ownBlock) v340 t339) ∧ AZ (Kd.R k62 62 wc w.heap.size (fun _ => True) (.slice Ao25 t335.length co25) t335) ∧ AZ (wc.heap[gb326]? = some (.cells #[(.slice A0_0 l0_0.length c0_0)] 24 (0, 0))) ∧ AZ (wc.heap[gb338]? = some (.cells #[(.slice Ao25 t335.length co25)] 30 (0, 0))) ∧ AZ (Below w.heap.size w wc))
 case first =>
  have H := HC14.out
  clear HC14
  replace H := Option.bind_eq_some_iff.mp H
  obtain ⟨t343, A290, H⟩ := H
  replace H : (if t343 = true then (laws_FnExactAnswersOf.j0 k a1 t331 t334 t339 t342 (t342 != t334) l0_0 t335) else (laws_FnExactAnswersOf.j0 k a1 t331 t334 t339 t342 true l0_0 t335)) = some r := H
  have A29 := AZ.mk A290
  clear A290
  by_cases c30 : t343 = true
  ·subst c30
   have H1 : (laws_FnExactAnswersOf.j0 k a1 t331 t334 t339 t342 (t342 != t334) l0_0 t335) = some r := by rw [if_pos rfl] at H; exact H
   clear H
   have H := H1
   clear H1
   have H' := AZ.mk H
   clear H
   obtain ⟨Ao31, co31, eo31⟩ := Kd.R_slice HO341.out
   subst eo31
   obtain ⟨Ao32, co32, eo32⟩ := Kd.R_slice HO333.out
   subst eo32
   go_wp2_with (first | ((with_reducible refine gate_callee (f := 12) rfl ?_); refine goesL_ (some 41) rfl rfl Try.func12 (by kernel_rfl) rfl #[.slice Ao31 t339.length co31, .slice Ao32 t331.length co32] rfl (by (try simp only [List.map_toArray, List.map_cons, List.map_nil]); first | done | rfl | (simp only [List.length_drop, List.length_take]; rfl)) ?_; (with_reducible refine (laws_eqInt64S.calls k _ _ t339 _ _ t331 true _ ?side1 ?side2 ?side3 ?side4 A29.out).mono ?_); (case side1 => repeat (first | exact (Kd.R_reads' HO341.out).2.2 | (with_reducible refine Kd.C_alloc ?_ _) | (with_reducible refine Kd.C_drewN ?_ _) | (with_reducible refine Kd.C_drew ?_))); (case side2 => exact (Kd.R_reads' HO341.out).2.1); (case side3 => repeat (first | exact (Kd.R_reads' HO333.out).2.2 | (with_reducible refine Kd.C_alloc ?_ _) | (with_reducible refine Kd.C_drewN ?_ _) | (with_reducible refine Kd.C_drew ?_))); (case side4 => exact (Kd.R_reads' HO333.out).2.1); rintro e w' ⟨rfl, ⟨nd, rfl⟩⟩; refine ⟨_, rfl, ?_⟩))
   go_meet
   case rel => exact ⟨_, ((t342 != t334)), (by first | rfl | (simp; done) | (simp [*]; done)), H', ⟨by first | omega | exact Nat.le_refl _⟩, ⟨by (with_reducible repeat (first | apply Kd.R_alloc | apply Kd.R_drewN | apply Kd.R_drew)); exact Kd.R_mono HO333.out (fun _ hk => hk.2)⟩, ⟨by (with_reducible repeat (first | apply Kd.R_alloc | apply Kd.R_drewN | apply Kd.R_drew)); exact Kd.R_mono HO341.out (fun _ hk => hk.2)⟩, ⟨by (with_reducible repeat (first | apply Kd.R_alloc | apply Kd.R_drewN | apply Kd.R_drew)); exact Kd.R_mono HO337.out (fun _ hk => trivial)⟩, ⟨by (with_reducible repeat (first | refine bn_ ?_ _ | refine bd_ ?_ | refine ba_ ?_ _)); exact BK326.out⟩, ⟨by (with_reducible repeat (first | refine bn_ ?_ _ | refine bd_ ?_ | refine ba_ ?_ _)); exact BK338.out⟩, ⟨by repeat (first | (with_reducible first | exact HB.out | apply pA | apply pN | apply pD | refine pS ?_ GE326.out | refine pS ?_ GE338.out) | exact HB.out)⟩⟩
  replace c30 := Bool.eq_false_iff.mpr c30
  subst c30
  have H1 : (laws_FnExactAnswersOf.j0 k a1 t331 t334 t339 t342 true l0_0 t335) = some r := by rw [if_neg (show ¬ (false = true) by decide)] at H; exact H
  clear H
  have H := H1
  clear H1
  have H' := AZ.mk H
  clear H
  obtain ⟨Ao33, co33, eo33⟩ := Kd.R_slice HO341.out
  subst eo33
  obtain ⟨Ao34, co34, eo34⟩ := Kd.R_slice HO333.out
  subst eo34
  go_wp2_with (first | ((with_reducible refine gate_callee (f := 12) rfl ?_); refine goesL_ (some 41) rfl rfl Try.func12 (by kernel_rfl) rfl #[.slice Ao33 t339.length co33, .slice Ao34 t331.length co34] rfl (by (try simp only [List.map_toArray, List.map_cons, List.map_nil]); first | done | rfl | (simp only [List.length_drop, List.length_take]; rfl)) ?_; (with_reducible refine (laws_eqInt64S.calls k _ _ t339 _ _ t331 false _ ?side1 ?side2 ?side3 ?side4 A29.out).mono ?_); (case side1 => repeat (first | exact (Kd.R_reads' HO341.out).2.2 | (with_reducible refine Kd.C_alloc ?_ _) | (with_reducible refine Kd.C_drewN ?_ _) | (with_reducible refine Kd.C_drew ?_))); (case side2 => exact (Kd.R_reads' HO341.out).2.1); (case side3 => repeat (first | exact (Kd.R_reads' HO333.out).2.2 | (with_reducible refine Kd.C_alloc ?_ _) | (with_reducible refine Kd.C_drewN ?_ _) | (with_reducible refine Kd.C_drew ?_))); (case side4 => exact (Kd.R_reads' HO333.out).2.1); rintro e w' ⟨rfl, ⟨nd, rfl⟩⟩; refine ⟨_, rfl, ?_⟩))
  go_meet
  case rel => exact ⟨_, (true), (by first | rfl | (simp; done) | (simp [*]; done)), H', ⟨by first | omega | exact Nat.le_refl _⟩, ⟨by (with_reducible repeat (first | apply Kd.R_alloc | apply Kd.R_drewN | apply Kd.R_drew)); exact Kd.R_mono HO333.out (fun _ hk => hk.2)⟩, ⟨by (with_reducible repeat (first | apply Kd.R_alloc | apply Kd.R_drewN | apply Kd.R_drew)); exact Kd.R_mono HO341.out (fun _ hk => hk.2)⟩, ⟨by (with_reducible repeat (first | apply Kd.R_alloc | apply Kd.R_drewN | apply Kd.R_drew)); exact Kd.R_mono HO337.out (fun _ hk => trivial)⟩, ⟨by (with_reducible repeat (first | refine bn_ ?_ _ | refine bd_ ?_ | refine ba_ ?_ _)); exact BK326.out⟩, ⟨by (with_reducible repeat (first | refine bn_ ?_ _ | refine bd_ ?_ | refine ba_ ?_ _)); exact BK338.out⟩, ⟨by repeat (first | (with_reducible first | exact HB.out | apply pA | apply pN | apply pD | refine pS ?_ GE326.out | refine pS ?_ GE338.out) | exact HB.out)⟩⟩
 case rest =>
  clear HC14
  try clear c1
  try clear c2
  try clear p2
  try clear c3
  try clear c3b0
  try clear c3b1
  try clear c4
  try clear c5
  try clear c6
  try clear c6b0
  try clear c7
  try clear c10
  try clear c11
  try clear c12
  try clear c26
  try clear c30
  try clear hcz16_0
  try clear hcz18_0
  try clear hcz22_0
  try clear hcz27_0
  try clear hcz8_0
  try clear hfz16_0
  try clear hfz18_0
  try clear hfz22_0
  try clear hfz27_0
  try clear hfz8_0
  obtain ⟨kq, x47_13, rfl, HA, HJ13, HO_6, HO_9, HO_339000, BK326, BK338, HB⟩ := hcut
  cases kq with
  | zero => exact absurd HA.out (by simp [laws_FnExactAnswersOf.j0])
  | succ kj13 =>
   have H := HA.out
   clear HA
   simp only [laws_FnExactAnswersOf.j0] at H
   by_cases c35 : x47_13 = true
   ·subst c35
    have H1 : (some false) = some r := by rw [if_pos rfl] at H; exact H
    clear H
    have H := H1
    clear H1
    obtain rfl := Option.some.inj H
    go_wp2
    go_ret
    exact ⟨by first | rfl | (simp [errW_none, errW_some] <;> rfl) | (simp [*, errW_none, errW_some] <;> rfl), by repeat (first | (with_reducible first | exact HB.out | apply pA | apply pN | apply pD | refine pS ?_ GE326.out | refine pS ?_ GE338.out) | exact HB.out)⟩
   replace c35 := Bool.eq_false_iff.mpr c35
   subst c35
   have H1 : ((laws_toQuery.f kj13 l0_0).bind fun t344 => ((laws_eqQuery.f kj13 t335 t344).bind fun t347 => (if t347 = true then ((laws_markQuery.f kj13 t335 1).bind fun bt348 => (if bt348.1 < 0 then (laws_FnExactAnswersOf.j1 kj13 a1 t331 t334 t339 true l0_0) else ((laws_eqInt64S.f kj13 t339 t331).bind fun t350 => (if t350 = true then (laws_FnExactAnswersOf.j1 kj13 a1 t331 t334 t339 (t342 != t334) l0_0) else (laws_FnExactAnswersOf.j1 kj13 a1 t331 t334 t339 true l0_0))))) else (some false)))) = some r := by rw [if_neg (show ¬ (false = true) by decide)] at H; exact H
   clear H
   have H := H1
   clear H1
   replace H := Option.bind_eq_some_iff.mp H
   obtain ⟨t344, A360, H⟩ := H
   replace H : ((laws_eqQuery.f kj13 t335 t344).bind fun t347 => (if t347 = true then ((laws_markQuery.f kj13 t335 1).bind fun bt348 => (if bt348.1 < 0 then (laws_FnExactAnswersOf.j1 kj13 a1 t331 t334 t339 true l0_0) else ((laws_eqInt64S.f kj13 t339 t331).bind fun t350 => (if t350 = true then (laws_FnExactAnswersOf.j1 kj13 a1 t331 t334 t339 (t342 != t334) l0_0) else (laws_FnExactAnswersOf.j1 kj13 a1 t331 t334 t339 true l0_0))))) else (some false))) = some r := H
   have A36 := AZ.mk A360
   clear A360
   replace H := Option.bind_eq_some_iff.mp H
   obtain ⟨t347, A370, H⟩ := H
   replace H : (if t347 = true then ((laws_markQuery.f kj13 t335 1).bind fun bt348 => (if bt348.1 < 0 then (laws_FnExactAnswersOf.j1 kj13 a1 t331 t334 t339 true l0_0) else ((laws_eqInt64S.f kj13 t339 t331).bind fun t350 => (if t350 = true then (laws_FnExactAnswersOf.j1 kj13 a1 t331 t334 t339 (t342 != t334) l0_0) else (laws_FnExactAnswersOf.j1 kj13 a1 t331 t334 t339 true l0_0))))) else (some false)) = some r := H
   have A37 := AZ.mk A370
   clear A370
   by_cases c38 : t347 = true
   rotate_left
   ·replace c38 := Bool.eq_false_iff.mpr c38
    subst c38
    have H1 : (some false) = some r := by rw [if_neg (show ¬ (false = true) by decide)] at H; exact H
    clear H
    have H := H1
    clear H1
    obtain rfl := Option.some.inj H
    try go_wp2
    have n0_ := AZ.mk (Kd.R_drew HO_6.out)
    have n1_ := AZ.mk (Kd.R_drew HO_9.out)
    have n2_ := AZ.mk (Kd.R_drew HO_339000.out)
    have n3_ := AZ.mk (bd_ BK326.out)
    have n4_ := AZ.mk (bd_ BK338.out)
    have n5_ := AZ.mk (pD HB.out)
    clear HO_6
    clear HO_9
    clear HO_339000
    clear BK326
    clear BK338
    clear HB
    have HO_6 := n0_
    have HO_9 := n1_
    have HO_339000 := n2_
    have BK326 := n3_
    have BK338 := n4_
    have HB := n5_
    clear n0_ n1_ n2_ n3_ n4_ n5_
    refine start_ (n := 5) (S := fun w' => w'.cell? ⟨gb338, 0, none⟩ = some (.slice Ao25 t335.length co25) ∧ w'.cell? ⟨gb326, 0, none⟩ = some (.slice A0_0 l0_0.length c0_0)) (ds := []) #[false, false, false, false, false] (by kernel_rfl) rfl rfl ⟨(bc BK338.out 0).trans rfl, (bc BK326.out 0).trans rfl⟩ (fun hHeld => ?_)
    generalize wc.drew = w84 at HO_6 HO_9 HO_339000 BK326 BK338 HB hHeld ⊢
    refine take_ (i := 0) (N := some 48) (v := ?_) (a' := ?_) #[true, false, false, false, false] rfl rfl (by kernel_rfl) (fun _ _ _ h => h) (Or.inl ⟨by rfl, ?_⟩) hHeld ?_ ?_
    rotate_left
    ·rintro w' ⟨s0, s1⟩
     go_simp
     with_reducible rfl
    rotate_left
    ·simp only [Act.put, sA, sB, sC, i64_w, i32_w]
     rfl
    refine take_ (i := 1) (N := some 49) (v := ?_) (a' := ?_) #[true, true, false, false, false] rfl rfl (by kernel_rfl) (fun _ _ _ h => h) (Or.inl ⟨by rfl, ?_⟩) hHeld ?_ ?_
    rotate_left
    ·rintro w' ⟨s0, s1⟩
     go_simp
     with_reducible rfl
    rotate_left
    ·simp only [Act.put, sA, sB, sC, i64_w, i32_w]
     rfl
    refine one_ (i := 2) (N := some 50) #[true, true, true, false, false] rfl rfl (by kernel_rfl) (by decide) (fun K hK => ?_)
    refine goes_ Try.func7 (by kernel_rfl) rfl #[.agg #[.slice A0_0 l0_0.length c0_0]] (by rfl) rfl rfl (by (try simp only [List.map_toArray, List.map_cons, List.map_nil]); first | done | rfl | (simp only [List.length_drop, List.length_take]; rfl)) ?_
    with_reducible refine (laws_toQuery.calls kj13 _ _ l0_0 t344 _ ?side1 ?side2 A36.out).mono ?_
    (case side1 => repeat (first | exact (Kd.C_below HR0_0.out HB.out) | (with_reducible refine Kd.C_alloc ?_ _) | (with_reducible refine Kd.C_drewN ?_ _) | (with_reducible refine Kd.C_drew ?_)))
    (case side2 => exact HC0_0.out)
    rintro e w85 ⟨v345, rfl, ho0, hb⟩
    refine ⟨_, rfl, ?_⟩
    have n0_ := AZ.mk (Kd.R_below (by (with_reducible repeat (first | apply Kd.R_alloc | apply Kd.R_drewN | apply Kd.R_drew)); exact HO_6.out) hb)
    have n1_ := AZ.mk (Kd.R_below (by (with_reducible repeat (first | apply Kd.R_alloc | apply Kd.R_drewN | apply Kd.R_drew)); exact HO_9.out) hb)
    have n2_ := AZ.mk (Kd.R_elder' (by (with_reducible repeat (first | apply Kd.R_alloc | apply Kd.R_drewN | apply Kd.R_drew)); exact HO_339000.out) (Kd.R_base ho0) hb)
    have n3_ := AZ.mk (Kd.R_lower (Kd.R_new' ho0 (Kd.R_lt (by (with_reducible repeat (first | apply Kd.R_alloc | apply Kd.R_drewN | apply Kd.R_drew)); exact HO_339000.out))) (pZ (by repeat (first | (with_reducible first | exact HB.out | apply pA | apply pN | apply pD | refine pS ?_ GE326.out | refine pS ?_ GE338.out) | exact HB.out))))
    have n4_ := AZ.mk (bb_ (g := gb326) (o := .cells #[.slice A0_0 l0_0.length c0_0] 24 (0, 0)) (by (with_reducible repeat (first | refine bn_ ?_ _ | refine bd_ ?_ | refine ba_ ?_ _)); exact BK326.out) hb)
    have n5_ := AZ.mk (bb_ (g := gb338) (o := .cells #[.slice Ao25 t335.length co25] 30 (0, 0)) (by (with_reducible repeat (first | refine bn_ ?_ _ | refine bd_ ?_ | refine ba_ ?_ _)); exact BK338.out) hb)
    have n6_ := AZ.mk (pT (by repeat (first | (with_reducible first | exact HB.out | apply pA | apply pN | apply pD | refine pS ?_ GE326.out | refine pS ?_ GE338.out) | exact HB.out)) hb)
    clear HO_6
    clear HO_9
    clear HO_339000
    clear BK326
    clear BK338
    clear HB
    have HO_6 := n0_
    have HO_9 := n1_
    have HO_339000 := n2_
    have HO346 := n3_
    have BK326 := n4_
    have BK338 := n5_
    have HB := n6_
    clear n0_ n1_ n2_ n3_ n4_ n5_ n6_
    (try clear hb)
    (try clear hb2)
    (try clear hk)
    (try clear hi)
    (try clear ho0)
    obtain ⟨Ao86, co86, eo86⟩ := Kd.R_slice HO346.out
    (first | subst eo86 | (injection eo86 with f1_ f2_ f3_; have f4_ := f1_.symm; have f5_ := f3_.symm; clear f1_ f2_ f3_; subst f4_; subst f5_))
    refine hK.out _ _ ⟨(bc BK338.out 0).trans rfl, (bc BK326.out 0).trans rfl⟩ (fun hHeld => ?_)
    clear hK K
    refine norm_ (a' := ?_) ?_ ?_
    rotate_left
    ·show Act.put _ (some 50) _ = _
     simp only [Act.put, sA, sB, sC, i64_w, i32_w]
     rfl
    refine one_ (i := 3) (N := some 51) #[true, true, true, true, false] rfl rfl (by kernel_rfl) (by decide) (fun K hK => ?_)
    refine goes_ Try.func9 (by kernel_rfl) rfl #[.agg #[.slice Ao25 t335.length co25], .agg #[.slice Ao86 t344.length co86]] (by rfl) rfl rfl (by (try simp only [List.map_toArray, List.map_cons, List.map_nil]); first | done | rfl | (simp only [List.length_drop, List.length_take]; rfl)) ?_
    with_reducible refine (laws_eqQuery.calls kj13 _ _ t335 _ _ t344 false _ ?side1 ?side2 ?side3 ?side4 A37.out).mono ?_
    (case side1 => repeat (first | exact (Kd.R_reads' HO_339000.out).2.2 | (with_reducible refine Kd.C_alloc ?_ _) | (with_reducible refine Kd.C_drewN ?_ _) | (with_reducible refine Kd.C_drew ?_)))
    (case side2 => exact (Kd.R_reads' HO_339000.out).2.1)
    (case side3 => repeat (first | exact (Kd.R_reads' HO346.out).2.2 | (with_reducible refine Kd.C_alloc ?_ _) | (with_reducible refine Kd.C_drewN ?_ _) | (with_reducible refine Kd.C_drew ?_)))
    (case side4 => exact (Kd.R_reads' HO346.out).2.1)
    rintro e w87 ⟨rfl, hb⟩
    refine ⟨_, rfl, ?_⟩
    have n0_ := AZ.mk (Kd.R_below (by (with_reducible repeat (first | apply Kd.R_alloc | apply Kd.R_drewN | apply Kd.R_drew)); exact HO_6.out) hb)
    have n1_ := AZ.mk (Kd.R_below (by (with_reducible repeat (first | apply Kd.R_alloc | apply Kd.R_drewN | apply Kd.R_drew)); exact HO_9.out) hb)
    have n2_ := AZ.mk (Kd.R_below (by (with_reducible repeat (first | apply Kd.R_alloc | apply Kd.R_drewN | apply Kd.R_drew)); exact HO_339000.out) hb)
    have n3_ := AZ.mk (Kd.R_below (by (with_reducible repeat (first | apply Kd.R_alloc | apply Kd.R_drewN | apply Kd.R_drew)); exact HO346.out) hb)
    have n4_ := AZ.mk (bb_ (g := gb326) (o := .cells #[.slice A0_0 l0_0.length c0_0] 24 (0, 0)) (by (with_reducible repeat (first | refine bn_ ?_ _ | refine bd_ ?_ | refine ba_ ?_ _)); exact BK326.out) hb)
    have n5_ := AZ.mk (bb_ (g := gb338) (o := .cells #[.slice Ao25 t335.length co25] 30 (0, 0)) (by (with_reducible repeat (first | refine bn_ ?_ _ | refine bd_ ?_ | refine ba_ ?_ _)); exact BK338.out) hb)
    have n6_ := AZ.mk (pT (by repeat (first | (with_reducible first | exact HB.out | apply pA | apply pN | apply pD | refine pS ?_ GE326.out | refine pS ?_ GE338.out) | exact HB.out)) hb)
    clear HO_6
    clear HO_9
    clear HO_339000
    clear HO346
    clear BK326
    clear BK338
    clear HB
    have HO_6 := n0_
    have HO_9 := n1_
    have HO_339000 := n2_
    have HO346 := n3_
    have BK326 := n4_
    have BK338 := n5_
    have HB := n6_
    clear n0_ n1_ n2_ n3_ n4_ n5_ n6_
    (try clear hb)
    (try clear hb2)
    (try clear hk)
    (try clear hi)
    refine hK.out _ _ ⟨(bc BK338.out 0).trans rfl, (bc BK326.out 0).trans rfl⟩ (fun hHeld => ?_)
    clear hK K
    refine norm_ (a' := ?_) ?_ ?_
    rotate_left
    ·show Act.put _ (some 51) _ = _
     simp only [Act.put, sA, sB, sC, i64_w, i32_w]
     rfl
    refine pure_ (i := 4) (N := some 52) (v := ?_) (a' := ?_) #[true, true, true, true, true] rfl rfl (by kernel_rfl) (fun _ _ _ h => h) (Or.inl ⟨by rfl, ?_⟩) ?_ ?_
    rotate_left
    ·intro w'
     go_simp
     with_reducible rfl
    rotate_left
    ·simp only [Act.put, sA, sB, sC, i64_w, i32_w]
     rfl
    refine done_ (by kernel_rfl) ?_
    try go_wp2
    go_ret
    exact ⟨by first | rfl | (simp [errW_none, errW_some] <;> rfl) | (simp [*, errW_none, errW_some] <;> rfl), by repeat (first | (with_reducible first | exact HB.out | apply pA | apply pN | apply pD | refine pS ?_ GE326.out | refine pS ?_ GE338.out) | exact HB.out)⟩
   subst c38
   have H1 : ((laws_markQuery.f kj13 t335 1).bind fun bt348 => (if bt348.1 < 0 then (laws_FnExactAnswersOf.j1 kj13 a1 t331 t334 t339 true l0_0) else ((laws_eqInt64S.f kj13 t339 t331).bind fun t350 => (if t350 = true then (laws_FnExactAnswersOf.j1 kj13 a1 t331 t334 t339 (t342 != t334) l0_0) else (laws_FnExactAnswersOf.j1 kj13 a1 t331 t334 t339 true l0_0))))) = some r := by rw [if_pos rfl] at H; exact H
   clear H
   have H := H1
   clear H1
   replace H := Option.bind_eq_some_iff.mp H
   obtain ⟨⟨t348, t349⟩, A390, H⟩ := H
   replace H : (if t348 < 0 then (laws_FnExactAnswersOf.j1 kj13 a1 t331 t334 t339 true l0_0) else ((laws_eqInt64S.f kj13 t339 t331).bind fun t350 => (if t350 = true then (laws_FnExactAnswersOf.j1 kj13 a1 t331 t334 t339 (t342 != t334) l0_0) else (laws_FnExactAnswersOf.j1 kj13 a1 t331 t334 t339 true l0_0)))) = some r := H
   have A39 := AZ.mk A390
   clear A390
   have HC40 := AZ.mk H
   clear H
   try go_wp2
   have n0_ := AZ.mk (Kd.R_drew HO_6.out)
   have n1_ := AZ.mk (Kd.R_drew HO_9.out)
   have n2_ := AZ.mk (Kd.R_drew HO_339000.out)
   have n3_ := AZ.mk (bd_ BK326.out)
   have n4_ := AZ.mk (bd_ BK338.out)
   have n5_ := AZ.mk (pD HB.out)
   clear HO_6
   clear HO_9
   clear HO_339000
   clear BK326
   clear BK338
   clear HB
   have HO_6 := n0_
   have HO_9 := n1_
   have HO_339000 := n2_
   have BK326 := n3_
   have BK338 := n4_
   have HB := n5_
   clear n0_ n1_ n2_ n3_ n4_ n5_
   refine start_ (n := 5) (S := fun w' => w'.cell? ⟨gb338, 0, none⟩ = some (.slice Ao25 t335.length co25) ∧ w'.cell? ⟨gb326, 0, none⟩ = some (.slice A0_0 l0_0.length c0_0)) (ds := []) #[false, false, false, false, false] (by kernel_rfl) rfl rfl ⟨(bc BK338.out 0).trans rfl, (bc BK326.out 0).trans rfl⟩ (fun hHeld => ?_)
   generalize wc.drew = w41 at HO_6 HO_9 HO_339000 BK326 BK338 HB hHeld ⊢
   refine take_ (i := 0) (N := some 48) (v := ?_) (a' := ?_) #[true, false, false, false, false] rfl rfl (by kernel_rfl) (fun _ _ _ h => h) (Or.inl ⟨by rfl, ?_⟩) hHeld ?_ ?_
   rotate_left
   ·rintro w' ⟨s0, s1⟩
    go_simp
    with_reducible rfl
   rotate_left
   ·simp only [Act.put, sA, sB, sC, i64_w, i32_w]
    rfl
   refine take_ (i := 1) (N := some 49) (v := ?_) (a' := ?_) #[true, true, false, false, false] rfl rfl (by kernel_rfl) (fun _ _ _ h => h) (Or.inl ⟨by rfl, ?_⟩) hHeld ?_ ?_
   rotate_left
   ·rintro w' ⟨s0, s1⟩
    go_simp
    with_reducible rfl
   rotate_left
   ·simp only [Act.put, sA, sB, sC, i64_w, i32_w]
    rfl
   refine one_ (i := 2) (N := some 50) #[true, true, true, false, false] rfl rfl (by kernel_rfl) (by decide) (fun K hK => ?_)
   refine goes_ Try.func7 (by kernel_rfl) rfl #[.agg #[.slice A0_0 l0_0.length c0_0]] (by rfl) rfl rfl (by (try simp only [List.map_toArray, List.map_cons, List.map_nil]); first | done | rfl | (simp only [List.length_drop, List.length_take]; rfl)) ?_
   with_reducible refine (laws_toQuery.calls kj13 _ _ l0_0 t344 _ ?side1 ?side2 A36.out).mono ?_
   (case side1 => repeat (first | exact (Kd.C_below HR0_0.out HB.out) | (with_reducible refine Kd.C_alloc ?_ _) | (with_reducible refine Kd.C_drewN ?_ _) | (with_reducible refine Kd.C_drew ?_)))
   (case side2 => exact HC0_0.out)
   rintro e w42 ⟨v345, rfl, ho0, hb⟩
   refine ⟨_, rfl, ?_⟩
   have n0_ := AZ.mk (Kd.R_below (by (with_reducible repeat (first | apply Kd.R_alloc | apply Kd.R_drewN | apply Kd.R_drew)); exact HO_6.out) hb)
   have n1_ := AZ.mk (Kd.R_below (by (with_reducible repeat (first | apply Kd.R_alloc | apply Kd.R_drewN | apply Kd.R_drew)); exact HO_9.out) hb)
   have n2_ := AZ.mk (Kd.R_elder' (by (with_reducible repeat (first | apply Kd.R_alloc | apply Kd.R_drewN | apply Kd.R_drew)); exact HO_339000.out) (Kd.R_base ho0) hb)
   have n3_ := AZ.mk (Kd.R_lower (Kd.R_new' ho0 (Kd.R_lt (by (with_reducible repeat (first | apply Kd.R_alloc | apply Kd.R_drewN | apply Kd.R_drew)); exact HO_339000.out))) (pZ (by repeat (first | (with_reducible first | exact HB.out | apply pA | apply pN | apply pD | refine pS ?_ GE326.out | refine pS ?_ GE338.out) | exact HB.out))))
   have n4_ := AZ.mk (bb_ (g := gb326) (o := .cells #[.slice A0_0 l0_0.length c0_0] 24 (0, 0)) (by (with_reducible repeat (first | refine bn_ ?_ _ | refine bd_ ?_ | refine ba_ ?_ _)); exact BK326.out) hb)
   have n5_ := AZ.mk (bb_ (g := gb338) (o := .cells #[.slice Ao25 t335.length co25] 30 (0, 0)) (by (with_reducible repeat (first | refine bn_ ?_ _ | refine bd_ ?_ | refine ba_ ?_ _)); exact BK338.out) hb)
   have n6_ := AZ.mk (pT (by repeat (first | (with_reducible first | exact HB.out | apply pA | apply pN | apply pD | refine pS ?_ GE326.out | refine pS ?_ GE338.out) | exact HB.out)) hb)
   clear HO_6
   clear HO_9
   clear HO_339000
   clear BK326
   clear BK338
   clear HB
   have HO_6 := n0_
   have HO_9 := n1_
   have HO_339000 := n2_
   have HO346 := n3_
   have BK326 := n4_
   have BK338 := n5_
   have HB := n6_
   clear n0_ n1_ n2_ n3_ n4_ n5_ n6_
   (try clear hb)
   (try clear hb2)
   (try clear hk)
   (try clear hi)
   (try clear ho0)
   obtain ⟨Ao43, co43, eo43⟩ := Kd.R_slice HO346.out
   (first | subst eo43 | (injection eo43 with f1_ f2_ f3_; have f4_ := f1_.symm; have f5_ := f3_.symm; clear f1_ f2_ f3_; subst f4_; subst f5_))
   refine hK.out _ _ ⟨(bc BK338.out 0).trans rfl, (bc BK326.out 0).trans rfl⟩ (fun hHeld => ?_)
   clear hK K
   refine norm_ (a' := ?_) ?_ ?_
   rotate_left
   ·show Act.put _ (some 50) _ = _
    simp only [Act.put, sA, sB, sC, i64_w, i32_w]
    rfl
   refine one_ (i := 3) (N := some 51) #[true, true, true, true, false] rfl rfl (by kernel_rfl) (by decide) (fun K hK => ?_)
   refine goes_ Try.func9 (by kernel_rfl) rfl #[.agg #[.slice Ao25 t335.length co25], .agg #[.slice Ao43 t344.length co43]] (by rfl) rfl rfl (by (try simp only [List.map_toArray, List.map_cons, List.map_nil]); first | done | rfl | (simp only [List.length_drop, List.length_take]; rfl)) ?_
   with_reducible refine (laws_eqQuery.calls kj13 _ _ t335 _ _ t344 true _ ?side1 ?side2 ?side3 ?side4 A37.out).mono ?_
   (case side1 => repeat (first | exact (Kd.R_reads' HO_339000.out).2.2 | (with_reducible refine Kd.C_alloc ?_ _) | (with_reducible refine Kd.C_drewN ?_ _) | (with_reducible refine Kd.C_drew ?_)))
   (case side2 => exact (Kd.R_reads' HO_339000.out).2.1)
   (case side3 => repeat (first | exact (Kd.R_reads' HO346.out).2.2 | (with_reducible refine Kd.C_alloc ?_ _) | (with_reducible refine Kd.C_drewN ?_ _) | (with_reducible refine Kd.C_drew ?_)))
   (case side4 => exact (Kd.R_reads' HO346.out).2.1)
   rintro e w44 ⟨rfl, hb⟩
   refine ⟨_, rfl, ?_⟩
   have n0_ := AZ.mk (Kd.R_below (by (with_reducible repeat (first | apply Kd.R_alloc | apply Kd.R_drewN | apply Kd.R_drew)); exact HO_6.out) hb)
   have n1_ := AZ.mk (Kd.R_below (by (with_reducible repeat (first | apply Kd.R_alloc | apply Kd.R_drewN | apply Kd.R_drew)); exact HO_9.out) hb)
   have n2_ := AZ.mk (Kd.R_below (by (with_reducible repeat (first | apply Kd.R_alloc | apply Kd.R_drewN | apply Kd.R_drew)); exact HO_339000.out) hb)
   have n3_ := AZ.mk (Kd.R_below (by (with_reducible repeat (first | apply Kd.R_alloc | apply Kd.R_drewN | apply Kd.R_drew)); exact HO346.out) hb)
   have n4_ := AZ.mk (bb_ (g := gb326) (o := .cells #[.slice A0_0 l0_0.length c0_0] 24 (0, 0)) (by (with_reducible repeat (first | refine bn_ ?_ _ | refine bd_ ?_ | refine ba_ ?_ _)); exact BK326.out) hb)
   have n5_ := AZ.mk (bb_ (g := gb338) (o := .cells #[.slice Ao25 t335.length co25] 30 (0, 0)) (by (with_reducible repeat (first | refine bn_ ?_ _ | refine bd_ ?_ | refine ba_ ?_ _)); exact BK338.out) hb)
   have n6_ := AZ.mk (pT (by repeat (first | (with_reducible first | exact HB.out | apply pA | apply pN | apply pD | refine pS ?_ GE326.out | refine pS ?_ GE338.out) | exact HB.out)) hb)
   clear HO_6
   clear HO_9
   clear HO_339000
   clear HO346
   clear BK326
   clear BK338
   clear HB
   have HO_6 := n0_
   have HO_9 := n1_
   have HO_339000 := n2_
   have HO346 := n3_
   have BK326 := n4_
   have BK338 := n5_
   have HB := n6_
   clear n0_ n1_ n2_ n3_ n4_ n5_ n6_
   (try clear hb)
   (try clear hb2)
   (try clear hk)
   (try clear hi)
   refine hK.out _ _ ⟨(bc BK338.out 0).trans rfl, (bc BK326.out 0).trans rfl⟩ (fun hHeld => ?_)
   clear hK K
   refine norm_ (a' := ?_) ?_ ?_
   rotate_left
   ·show Act.put _ (some 51) _ = _
    simp only [Act.put, sA, sB, sC, i64_w, i32_w]
    rfl
   refine pure_ (i := 4) (N := some 52) (v := ?_) (a' := ?_) #[true, true, true, true, true] rfl rfl (by kernel_rfl) (fun _ _ _ h => h) (Or.inl ⟨by rfl, ?_⟩) ?_ ?_
   rotate_left
   ·intro w'
    go_simp
    with_reducible rfl
   rotate_left
   ·simp only [Act.put, sA, sB, sC, i64_w, i32_w]
    rfl
   refine done_ (by kernel_rfl) ?_
   have hnb45 := NB338_326.out
   have hnc45 := NB326_338.out
   have hcz46_0 : w44.cell? ⟨gb338, 0, none⟩ = some (.slice Ao25 t335.length co25) := (bc BK338.out 0).trans rfl
   have hfz46_0 := bf BK338.out 0
   go_upto_region 16 with (first | ((with_reducible refine gate_callee (f := 13) rfl ?_); refine goesL_ (some 55) rfl rfl Try.func13 (by kernel_rfl) rfl #[.agg #[.slice Ao25 t335.length co25], .int .i64 1] rfl (by (try simp only [List.map_toArray, List.map_cons, List.map_nil]); first | done | rfl | (simp only [List.length_drop, List.length_take]; rfl)) ?_; (with_reducible refine (laws_markQuery.calls kj13 (fun k_ => some k_ = (.slice Ao25 t335.length co25 : Value).ownBlock) (.slice Ao25 t335.length co25) t335 1 t348 t349 w _ ?side1 ?side2 A39.out).mono ?_); (case side1 => repeat (first | (with_reducible first | exact HB.out | apply pA | apply pN | apply pD | refine pS ?_ GE326.out | refine pS ?_ GE338.out) | exact HB.out)); (case side2 => exact Kd.R_tight rfl HO_339000.out); rintro e w47 ⟨rfl, hy0, hb, hkp⟩; refine ⟨_, rfl, ?_⟩; have n0_ := AZ.mk (Kd.R_mono (ok' := fun k_ => some k_ ≠ (v340 : Value).ownBlock) (Kd.R_keptB ((Kd.R_apart' HO_6.out (Kd.R_typed HO_339000.out) (by decide))) hkp (fun k_ hk_ hs_ => (hk_.2) hs_)) (fun k_ hk_ => hk_.1.1)); have n1_ := AZ.mk (Kd.R_mono (ok' := fun k_ => some k_ ≠ (v332 : Value).ownBlock) (Kd.R_keptB ((Kd.R_apart' HO_9.out (Kd.R_typed HO_339000.out) (by decide))) hkp (fun k_ hk_ hs_ => (hk_.2) hs_)) (fun k_ hk_ => hk_.1.1)); have n2_ := AZ.mk (Kd.R_reok rfl hy0 (fun k_ e_ => HO_339000.out.1 k_ e_)); have n3_ := AZ.mk (blk_kept (by (with_reducible repeat (first | refine bn_ ?_ _ | refine bd_ ?_ | refine ba_ ?_ _)); exact BK326.out) hkp (fun hs_ => (fun e_ => (Kd.R_ne HO_339000.out BK326.out (by decide)) e_) hs_)); have n4_ := AZ.mk (blk_kept (by (with_reducible repeat (first | refine bn_ ?_ _ | refine bd_ ?_ | refine ba_ ?_ _)); exact BK338.out) hkp (fun hs_ => (fun e_ => (Kd.R_ne HO_339000.out BK338.out (by decide)) e_) hs_)); have n5_ := AZ.mk (Kd.R_mono (ok' := fun k_ => some k_ ≠ (.slice Ao25 t335.length co25 : Value).ownBlock) (Kd.R_keptB (HO346.out) hkp (fun k_ hk_ hs_ => (hk_.2) hs_)) (fun k_ hk_ => hk_.1.2)); have n6_ := AZ.mk (hb); clear HO_6; clear HO_9; clear HO_339000; clear BK326; clear BK338; clear HO346; clear HB; have HO_6 := n0_; have HO_9 := n1_; have HO_339000 := n2_; have BK326 := n3_; have BK338 := n4_; have HO346 := n5_; have HB := n6_; clear n0_ n1_ n2_ n3_ n4_ n5_ n6_; (try clear hb); (try clear hkp); (try clear hy0)))
   (try simp only [Act.put, sA, sB, sC])
   go_cut [68] (fun v68 wc => ∃ (kq : Nat) (x68_39 : Bool), v68 = .bool x68_39 ∧ AZ (laws_FnExactAnswersOf.j1 kq a1 t331 t334 t339 x68_39 l0_0 = some r) ∧ AZ (kq ≤ kj13) ∧ AZ (Kd.R (Kd.int .i64) 2 wc w.heap.size (fun k_ => some k_ ≠ (v340 : Value).ownBlock) v332 t331) ∧ AZ (Kd.R (Kd.int .i64) 2 wc w.heap.size (fun k_ => some k_ ≠ (v332 : Value).ownBlock) v340 t339) ∧ AZ (Kd.R k62 62 wc w.heap.size (fun _ => True) (.slice Ao25 t335.length co25) t349) ∧ AZ (wc.heap[gb326]? = some (.cells #[(.slice A0_0 l0_0.length c0_0)] 24 (0, 0))) ∧ AZ (wc.heap[gb338]? = some (.cells #[(.slice Ao25 t335.length co25)] 30 (0, 0))) ∧ AZ (Below w.heap.size w wc))
   case first =>
    have H := HC40.out
    clear HC40
    by_cases c48 : t348 < 0
    ·rw [if_pos c48] at H
     have c48b0 : decide (t348 < 0) = true := decide_eq_true c48
     clear c48
     (first | rw [c48b0] | rw [c48b1] | (simp only [i64_w, i32_w]; rw [c48b0]) | skip)
     have H' := AZ.mk H
     clear H
     go_wp2
     go_meet
     case rel => exact ⟨_, (true), (by first | rfl | (simp; done) | (simp [*]; done)), H', ⟨by have := HJ13.out; first | omega | exact Nat.le_refl _⟩, ⟨by (with_reducible repeat (first | apply Kd.R_alloc | apply Kd.R_drewN | apply Kd.R_drew)); exact HO_6.out⟩, ⟨by (with_reducible repeat (first | apply Kd.R_alloc | apply Kd.R_drewN | apply Kd.R_drew)); exact HO_9.out⟩, ⟨by (with_reducible repeat (first | apply Kd.R_alloc | apply Kd.R_drewN | apply Kd.R_drew)); exact Kd.R_mono HO_339000.out (fun _ hk => trivial)⟩, ⟨by (with_reducible repeat (first | refine bn_ ?_ _ | refine bd_ ?_ | refine ba_ ?_ _)); exact BK326.out⟩, ⟨by (with_reducible repeat (first | refine bn_ ?_ _ | refine bd_ ?_ | refine ba_ ?_ _)); exact BK338.out⟩, ⟨by repeat (first | (with_reducible first | exact HB.out | apply pA | apply pN | apply pD | refine pS ?_ GE326.out | refine pS ?_ GE338.out) | exact HB.out)⟩⟩
    rw [if_neg c48] at H
    have c48b0 : decide (t348 < 0) = false := decide_eq_false c48
    clear c48
    (first | rw [c48b0] | rw [c48b1] | (simp only [i64_w, i32_w]; rw [c48b0]) | skip)
    replace H := Option.bind_eq_some_iff.mp H
    obtain ⟨t350, A490, H⟩ := H
    replace H : (if t350 = true then (laws_FnExactAnswersOf.j1 kj13 a1 t331 t334 t339 (t342 != t334) l0_0) else (laws_FnExactAnswersOf.j1 kj13 a1 t331 t334 t339 true l0_0)) = some r := H
    have A49 := AZ.mk A490
    clear A490
    by_cases c50 : t350 = true
    ·subst c50
     have H1 : (laws_FnExactAnswersOf.j1 kj13 a1 t331 t334 t339 (t342 != t334) l0_0) = some r := by rw [if_pos rfl] at H; exact H
     clear H
     have H := H1
     clear H1
     have H' := AZ.mk H
     clear H
     obtain ⟨Ao51, co51, eo51⟩ := Kd.R_slice HO_9.out
     subst eo51
     obtain ⟨Ao52, co52, eo52⟩ := Kd.R_slice HO_6.out
     subst eo52
     go_wp2_with (first | (go_at_call 12; (with_reducible refine (laws_eqInt64S.calls kj13 _ _ t339 _ _ t331 true _ ?side1 ?side2 ?side3 ?side4 A49.out).mono ?_); (case side1 => repeat (first | exact (Kd.R_reads' HO_9.out).2.2 | (with_reducible refine Kd.C_alloc ?_ _) | (with_reducible refine Kd.C_drewN ?_ _) | (with_reducible refine Kd.C_drew ?_))); (case side2 => exact (Kd.R_reads' HO_9.out).2.1); (case side3 => repeat (first | exact (Kd.R_reads' HO_6.out).2.2 | (with_reducible refine Kd.C_alloc ?_ _) | (with_reducible refine Kd.C_drewN ?_ _) | (with_reducible refine Kd.C_drew ?_))); (case side4 => exact (Kd.R_reads' HO_6.out).2.1); rintro e w' ⟨rfl, ⟨nd, rfl⟩⟩))
     go_meet
     case rel => exact ⟨_, ((t342 != t334)), (by first | rfl | (simp; done) | (simp [*]; done)), H', ⟨by have := HJ13.out; first | omega | exact Nat.le_refl _⟩, ⟨by (with_reducible repeat (first | apply Kd.R_alloc | apply Kd.R_drewN | apply Kd.R_drew)); exact HO_6.out⟩, ⟨by (with_reducible repeat (first | apply Kd.R_alloc | apply Kd.R_drewN | apply Kd.R_drew)); exact HO_9.out⟩, ⟨by (with_reducible repeat (first | apply Kd.R_alloc | apply Kd.R_drewN | apply Kd.R_drew)); exact Kd.R_mono HO_339000.out (fun _ hk => trivial)⟩, ⟨by (with_reducible repeat (first | refine bn_ ?_ _ | refine bd_ ?_ | refine ba_ ?_ _)); exact BK326.out⟩, ⟨by (with_reducible repeat (first | refine bn_ ?_ _ | refine bd_ ?_ | refine ba_ ?_ _)); exact BK338.out⟩, ⟨by repeat (first | (with_reducible first | exact HB.out | apply pA | apply pN | apply pD | refine pS ?_ GE326.out | refine pS ?_ GE338.out) | exact HB.out)⟩⟩
    replace c50 := Bool.eq_false_iff.mpr c50
    subst c50
    have H1 : (laws_FnExactAnswersOf.j1 kj13 a1 t331 t334 t339 true l0_0) = some r := by rw [if_neg (show ¬ (false = true) by decide)] at H; exact H
    clear H
    have H := H1
    clear H1
    have H' := AZ.mk H
    clear H
    obtain ⟨Ao53, co53, eo53⟩ := Kd.R_slice HO_9.out
    subst eo53
    obtain ⟨Ao54, co54, eo54⟩ := Kd.R_slice HO_6.out
    subst eo54
    go_wp2_with (first | (go_at_call 12; (with_reducible refine (laws_eqInt64S.calls kj13 _ _ t339 _ _ t331 false _ ?side1 ?side2 ?side3 ?side4 A49.out).mono ?_); (case side1 => repeat (first | exact (Kd.R_reads' HO_9.out).2.2 | (with_reducible refine Kd.C_alloc ?_ _) | (with_reducible refine Kd.C_drewN ?_ _) | (with_reducible refine Kd.C_drew ?_))); (case side2 => exact (Kd.R_reads' HO_9.out).2.1); (case side3 => repeat (first | exact (Kd.R_reads' HO_6.out).2.2 | (with_reducible refine Kd.C_alloc ?_ _) | (with_reducible refine Kd.C_drewN ?_ _) | (with_reducible refine Kd.C_drew ?_))); (case side4 => exact (Kd.R_reads' HO_6.out).2.1); rintro e w' ⟨rfl, ⟨nd, rfl⟩⟩))
    go_meet
    case rel => exact ⟨_, (true), (by first | rfl | (simp; done) | (simp [*]; done)), H', ⟨by have := HJ13.out; first | omega | exact Nat.le_refl _⟩, ⟨by (with_reducible repeat (first | apply Kd.R_alloc | apply Kd.R_drewN | apply Kd.R_drew)); exact HO_6.out⟩, ⟨by (with_reducible repeat (first | apply Kd.R_alloc | apply Kd.R_drewN | apply Kd.R_drew)); exact HO_9.out⟩, ⟨by (with_reducible repeat (first | apply Kd.R_alloc | apply Kd.R_drewN | apply Kd.R_drew)); exact Kd.R_mono HO_339000.out (fun _ hk => trivial)⟩, ⟨by (with_reducible repeat (first | refine bn_ ?_ _ | refine bd_ ?_ | refine ba_ ?_ _)); exact BK326.out⟩, ⟨by (with_reducible repeat (first | refine bn_ ?_ _ | refine bd_ ?_ | refine ba_ ?_ _)); exact BK338.out⟩, ⟨by repeat (first | (with_reducible first | exact HB.out | apply pA | apply pN | apply pD | refine pS ?_ GE326.out | refine pS ?_ GE338.out) | exact HB.out)⟩⟩
   case rest =>
    clear HC40
    try clear c1
    try clear c2
    try clear p2
    try clear c3
    try clear c3b0
    try clear c3b1
    try clear c4
    try clear c5
    try clear c6
    try clear c6b0
    try clear c7
    try clear c9
    try clear c10
    try clear c11
    try clear c12
    try clear c13
    try clear c26
    try clear c30
    try clear c35
    try clear c38
    try clear c45
    try clear c48
    try clear c48b0
    try clear c48b1
    try clear c50
    try clear hcz16_0
    try clear hcz18_0
    try clear hcz22_0
    try clear hcz27_0
    try clear hcz46_0
    try clear hcz8_0
    try clear hfz16_0
    try clear hfz18_0
    try clear hfz22_0
    try clear hfz27_0
    try clear hfz46_0
    try clear hfz8_0
    try clear p2
    obtain ⟨kq, x68_39, rfl, HA, HJ39, HO_6, HO_9, HO_339000, BK326, BK338, HB⟩ := hcut
    have hl339000_39 := (Kd.R_reads' HO_339000.out).1
    rw [hl339000_39] at HO_339000
    (try simp only [hl339000_39])
    (try simp only [hl339000_39] at BK326)
    (try simp only [hl339000_39] at BK338)
    (try simp only [hl339000_39] at HO_6)
    (try simp only [hl339000_39] at HO_9)
    cases kq with
    | zero => exact absurd HA.out (by simp [laws_FnExactAnswersOf.j1])
    | succ kj39 =>
     have H := HA.out
     clear HA
     simp only [laws_FnExactAnswersOf.j1] at H
     by_cases c55 : x68_39 = true
     ·subst c55
      have H1 : (some false) = some r := by rw [if_pos rfl] at H; exact H
      clear H
      have H := H1
      clear H1
      obtain rfl := Option.some.inj H
      go_wp2
      go_ret
      exact ⟨by first | rfl | (simp [errW_none, errW_some] <;> rfl) | (simp [*, errW_none, errW_some] <;> rfl), by repeat (first | (with_reducible first | exact HB.out | apply pA | apply pN | apply pD | refine pS ?_ GE326.out | refine pS ?_ GE338.out) | exact HB.out)⟩
     replace c55 := Bool.eq_false_iff.mpr c55
     subst c55
     have H1 : ((laws_markInt64S.f kj39 t339 1).bind fun bt351 => ((laws_heldInt64S.f kj39 bt351.2 1).bind fun t353 => (if t353 < 0 then (some false) else (if t353 = bt351.1 then ((laws_toQuery.f kj39 l0_0).bind fun t354 => ((impl_AnswersOf.f kj39 t354 a1).bind fun bt357 => ((laws_eqInt64S.f kj39 bt357.1 t331).bind fun t361 => (if t361 = true then (laws_FnExactAnswersOf.j2 kj39 bt351.2 bt351.1 (bt357.2 != t334)) else (laws_FnExactAnswersOf.j2 kj39 bt351.2 bt351.1 true))))) else (some false))))) = some r := by rw [if_neg (show ¬ (false = true) by decide)] at H; exact H
     clear H
     have H := H1
     clear H1
     replace H := Option.bind_eq_some_iff.mp H
     obtain ⟨⟨t351, t352⟩, A560, H⟩ := H
     replace H : ((laws_heldInt64S.f kj39 t352 1).bind fun t353 => (if t353 < 0 then (some false) else (if t353 = t351 then ((laws_toQuery.f kj39 l0_0).bind fun t354 => ((impl_AnswersOf.f kj39 t354 a1).bind fun bt357 => ((laws_eqInt64S.f kj39 bt357.1 t331).bind fun t361 => (if t361 = true then (laws_FnExactAnswersOf.j2 kj39 t352 t351 (bt357.2 != t334)) else (laws_FnExactAnswersOf.j2 kj39 t352 t351 true))))) else (some false)))) = some r := H
     have A56 := AZ.mk A560
     clear A560
     replace H := Option.bind_eq_some_iff.mp H
     obtain ⟨t353, A570, H⟩ := H
     replace H : (if t353 < 0 then (some false) else (if t353 = t351 then ((laws_toQuery.f kj39 l0_0).bind fun t354 => ((impl_AnswersOf.f kj39 t354 a1).bind fun bt357 => ((laws_eqInt64S.f kj39 bt357.1 t331).bind fun t361 => (if t361 = true then (laws_FnExactAnswersOf.j2 kj39 t352 t351 (bt357.2 != t334)) else (laws_FnExactAnswersOf.j2 kj39 t352 t351 true))))) else (some false))) = some r := H
     have A57 := AZ.mk A570
     clear A570
     by_cases c58 : t353 < 0
     ·rw [if_pos c58] at H
      have c58b0 : decide (t353 < 0) = true := decide_eq_true c58
      clear c58
      obtain rfl := Option.some.inj H
      obtain ⟨Ao59, co59, eo59⟩ := Kd.R_slice HO_9.out
      subst eo59
      go_wp2_with (first | ((with_reducible refine gate_callee (f := 14) rfl ?_); refine goesL_ (some 71) rfl rfl Try.func14 (by kernel_rfl) rfl #[.slice Ao59 t339.length co59, .int .i64 1] rfl (by (try simp only [List.map_toArray, List.map_cons, List.map_nil]); first | done | rfl | (simp only [List.length_drop, List.length_take]; rfl)) ?_; (with_reducible refine (laws_markInt64S.calls kj39 (fun k_ => some k_ = (.slice Ao59 t339.length co59 : Value).ownBlock) (.slice Ao59 t339.length co59) t339 1 t351 t352 w _ ?side1 ?side2 A56.out).mono ?_); (case side1 => repeat (first | (with_reducible first | exact HB.out | apply pA | apply pN | apply pD | refine pS ?_ GE326.out | refine pS ?_ GE338.out) | exact HB.out)); (case side2 => exact Kd.R_tight rfl HO_9.out); rintro e w60 ⟨rfl, hy0, hb, hkp⟩; refine ⟨_, rfl, ?_⟩; have n0_ := AZ.mk (Kd.R_mono (ok' := fun k_ => some k_ ≠ (.slice Ao59 t339.length co59 : Value).ownBlock) (Kd.R_keptB (HO_6.out) hkp (fun k_ hk_ hs_ => (hk_) hs_)) (fun k_ hk_ => hk_.1)); have n1_ := AZ.mk (Kd.R_reok rfl hy0 (fun k_ e_ => HO_9.out.1 k_ e_)); have n2_ := AZ.mk (Kd.R_mono (ok' := fun k_ => True) (Kd.R_keptB ((Kd.R_apart' HO_339000.out (Kd.R_typed HO_9.out) (by decide))) hkp (fun k_ hk_ hs_ => (hk_.2) hs_)) (fun k_ hk_ => trivial)); have n3_ := AZ.mk (blk_kept (by (with_reducible repeat (first | refine bn_ ?_ _ | refine bd_ ?_ | refine ba_ ?_ _)); exact BK326.out) hkp (fun hs_ => (fun e_ => (Kd.R_ne HO_9.out BK326.out (by decide)) e_) hs_)); have n4_ := AZ.mk (blk_kept (by (with_reducible repeat (first | refine bn_ ?_ _ | refine bd_ ?_ | refine ba_ ?_ _)); exact BK338.out) hkp (fun hs_ => (fun e_ => (Kd.R_ne HO_9.out BK338.out (by decide)) e_) hs_)); have n5_ := AZ.mk (hb); clear HO_6; clear HO_9; clear HO_339000; clear BK326; clear BK338; clear HB; have HO_6 := n0_; have HO_9 := n1_; have HO_339000 := n2_; have BK326 := n3_; have BK338 := n4_; have HB := n5_; clear n0_ n1_ n2_ n3_ n4_ n5_; (try clear hb); (try clear hkp); (try clear hy0)) | ((with_reducible refine gate_callee (f := 15) rfl ?_); refine goesL_ (some 74) rfl rfl Try.func15 (by kernel_rfl) rfl #[.slice Ao59 t352.length co59, .int .i64 1] rfl (by (try simp only [List.map_toArray, List.map_cons, List.map_nil]); first | done | (rw [show t352.length = t339.length from (Kd.R_reads' HO_9.out).1.symm] <;> rfl) | rfl | (simp only [List.length_drop, List.length_take]; rfl)) ?_; (with_reducible refine (laws_heldInt64S.calls kj39 _ _ t352 1 t353 _ ?side1 ?side2 A57.out).mono ?_); (case side1 => repeat (first | exact (Kd.R_reads' HO_9.out).2.2 | (with_reducible refine Kd.C_alloc ?_ _) | (with_reducible refine Kd.C_drewN ?_ _) | (with_reducible refine Kd.C_drew ?_))); (case side2 => rw [show t352.length = t339.length from (Kd.R_reads' HO_9.out).1.symm]; exact (Kd.R_reads' HO_9.out).2.1); rintro e w' ⟨rfl, ⟨nd, rfl⟩⟩; refine ⟨_, rfl, ?_⟩))
      go_ret
      exact ⟨by first | rfl | (simp [errW_none, errW_some] <;> rfl) | (simp [*, errW_none, errW_some] <;> rfl), by repeat (first | (with_reducible first | exact HB.out | apply pA | apply pN | apply pD | refine pS ?_ GE326.out | refine pS ?_ GE338.out) | exact HB.out)⟩
     rw [if_neg c58] at H
     have c58b0 : decide (t353 < 0) = false := decide_eq_false c58
     clear c58
     by_cases c61 : t353 = t351
     rotate_left
     ·rw [if_neg c61] at H
      have c61b0 : (t353 == t351) = false := beq_eq_false_iff_ne.mpr c61
      have c61b1 : (t353 != t351) = true := bne_iff_ne.mpr c61
      obtain rfl := Option.some.inj H
      obtain ⟨Ao82, co82, eo82⟩ := Kd.R_slice HO_9.out
      subst eo82
      go_wp2_with (first | ((with_reducible refine gate_callee (f := 14) rfl ?_); refine goesL_ (some 71) rfl rfl Try.func14 (by kernel_rfl) rfl #[.slice Ao82 t339.length co82, .int .i64 1] rfl (by (try simp only [List.map_toArray, List.map_cons, List.map_nil]); first | done | rfl | (simp only [List.length_drop, List.length_take]; rfl)) ?_; (with_reducible refine (laws_markInt64S.calls kj39 (fun k_ => some k_ = (.slice Ao82 t339.length co82 : Value).ownBlock) (.slice Ao82 t339.length co82) t339 1 t351 t352 w _ ?side1 ?side2 A56.out).mono ?_); (case side1 => repeat (first | (with_reducible first | exact HB.out | apply pA | apply pN | apply pD | refine pS ?_ GE326.out | refine pS ?_ GE338.out) | exact HB.out)); (case side2 => exact Kd.R_tight rfl HO_9.out); rintro e w83 ⟨rfl, hy0, hb, hkp⟩; refine ⟨_, rfl, ?_⟩; have n0_ := AZ.mk (Kd.R_mono (ok' := fun k_ => some k_ ≠ (.slice Ao82 t339.length co82 : Value).ownBlock) (Kd.R_keptB (HO_6.out) hkp (fun k_ hk_ hs_ => (hk_) hs_)) (fun k_ hk_ => hk_.1)); have n1_ := AZ.mk (Kd.R_reok rfl hy0 (fun k_ e_ => HO_9.out.1 k_ e_)); have n2_ := AZ.mk (Kd.R_mono (ok' := fun k_ => True) (Kd.R_keptB ((Kd.R_apart' HO_339000.out (Kd.R_typed HO_9.out) (by decide))) hkp (fun k_ hk_ hs_ => (hk_.2) hs_)) (fun k_ hk_ => trivial)); have n3_ := AZ.mk (blk_kept (by (with_reducible repeat (first | refine bn_ ?_ _ | refine bd_ ?_ | refine ba_ ?_ _)); exact BK326.out) hkp (fun hs_ => (fun e_ => (Kd.R_ne HO_9.out BK326.out (by decide)) e_) hs_)); have n4_ := AZ.mk (blk_kept (by (with_reducible repeat (first | refine bn_ ?_ _ | refine bd_ ?_ | refine ba_ ?_ _)); exact BK338.out) hkp (fun hs_ => (fun e_ => (Kd.R_ne HO_9.out BK338.out (by decide)) e_) hs_)); have n5_ := AZ.mk (hb); clear HO_6; clear HO_9; clear HO_339000; clear BK326; clear BK338; clear HB; have HO_6 := n0_; have HO_9 := n1_; have HO_339000 := n2_; have BK326 := n3_; have BK338 := n4_; have HB := n5_; clear n0_ n1_ n2_ n3_ n4_ n5_; (try clear hb); (try clear hkp); (try clear hy0)) | ((with_reducible refine gate_callee (f := 15) rfl ?_); refine goesL_ (some 74) rfl rfl Try.func15 (by kernel_rfl) rfl #[.slice Ao82 t352.length co82, .int .i64 1] rfl (by (try simp only [List.map_toArray, List.map_cons, List.map_nil]); first | done | (rw [show t352.length = t339.length from (Kd.R_reads' HO_9.out).1.symm] <;> rfl) | rfl | (simp only [List.length_drop, List.length_take]; rfl)) ?_; (with_reducible refine (laws_heldInt64S.calls kj39 _ _ t352 1 t353 _ ?side1 ?side2 A57.out).mono ?_); (case side1 => repeat (first | exact (Kd.R_reads' HO_9.out).2.2 | (with_reducible refine Kd.C_alloc ?_ _) | (with_reducible refine Kd.C_drewN ?_ _) | (with_reducible refine Kd.C_drew ?_))); (case side2 => rw [show t352.length = t339.length from (Kd.R_reads' HO_9.out).1.symm]; exact (Kd.R_reads' HO_9.out).2.1); rintro e w' ⟨rfl, ⟨nd, rfl⟩⟩; refine ⟨_, rfl, ?_⟩))
      go_ret
      exact ⟨by first | rfl | (simp [errW_none, errW_some] <;> rfl) | (simp [*, errW_none, errW_some] <;> rfl), by repeat (first | (with_reducible first | exact HB.out | apply pA | apply pN | apply pD | refine pS ?_ GE326.out | refine pS ?_ GE338.out) | exact HB.out)⟩
     rw [if_pos c61] at H
     have c61b0 : (t353 == t351) = true := beq_iff_eq.mpr c61
     have c61b1 : (t353 != t351) = false := bne_eq_false_iff_eq.mpr c61
     clear c61
     replace H := Option.bind_eq_some_iff.mp H
     obtain ⟨t354, A620, H⟩ := H
     replace H : ((impl_AnswersOf.f kj39 t354 a1).bind fun bt357 => ((laws_eqInt64S.f kj39 bt357.1 t331).bind fun t361 => (if t361 = true then (laws_FnExactAnswersOf.j2 kj39 t352 t351 (bt357.2 != t334)) else (laws_FnExactAnswersOf.j2 kj39 t352 t351 true)))) = some r := H
     have A62 := AZ.mk A620
     clear A620
     replace H := Option.bind_eq_some_iff.mp H
     obtain ⟨⟨t357, t360⟩, A630, H⟩ := H
     replace H : ((laws_eqInt64S.f kj39 t357 t331).bind fun t361 => (if t361 = true then (laws_FnExactAnswersOf.j2 kj39 t352 t351 (t360 != t334)) else (laws_FnExactAnswersOf.j2 kj39 t352 t351 true))) = some r := H
     have A63 := AZ.mk A630
     clear A630
     have HC64 := AZ.mk H
     clear H
     obtain ⟨Ao65, co65, eo65⟩ := Kd.R_slice HO_9.out
     subst eo65
     go_upto_region 27 with (first | ((with_reducible refine gate_callee (f := 14) rfl ?_); refine goesL_ (some 71) rfl rfl Try.func14 (by kernel_rfl) rfl #[.slice Ao65 t339.length co65, .int .i64 1] rfl (by (try simp only [List.map_toArray, List.map_cons, List.map_nil]); first | done | rfl | (simp only [List.length_drop, List.length_take]; rfl)) ?_; (with_reducible refine (laws_markInt64S.calls kj39 (fun k_ => some k_ = (.slice Ao65 t339.length co65 : Value).ownBlock) (.slice Ao65 t339.length co65) t339 1 t351 t352 w _ ?side1 ?side2 A56.out).mono ?_); (case side1 => repeat (first | (with_reducible first | exact HB.out | apply pA | apply pN | apply pD | refine pS ?_ GE326.out | refine pS ?_ GE338.out) | exact HB.out)); (case side2 => exact Kd.R_tight rfl HO_9.out); rintro e w66 ⟨rfl, hy0, hb, hkp⟩; refine ⟨_, rfl, ?_⟩; have n0_ := AZ.mk (Kd.R_mono (ok' := fun k_ => some k_ ≠ (.slice Ao65 t339.length co65 : Value).ownBlock) (Kd.R_keptB (HO_6.out) hkp (fun k_ hk_ hs_ => (hk_) hs_)) (fun k_ hk_ => hk_.1)); have n1_ := AZ.mk (Kd.R_reok rfl hy0 (fun k_ e_ => HO_9.out.1 k_ e_)); have n2_ := AZ.mk (Kd.R_mono (ok' := fun k_ => True) (Kd.R_keptB ((Kd.R_apart' HO_339000.out (Kd.R_typed HO_9.out) (by decide))) hkp (fun k_ hk_ hs_ => (hk_.2) hs_)) (fun k_ hk_ => trivial)); have n3_ := AZ.mk (blk_kept (by (with_reducible repeat (first | refine bn_ ?_ _ | refine bd_ ?_ | refine ba_ ?_ _)); exact BK326.out) hkp (fun hs_ => (fun e_ => (Kd.R_ne HO_9.out BK326.out (by decide)) e_) hs_)); have n4_ := AZ.mk (blk_kept (by (with_reducible repeat (first | refine bn_ ?_ _ | refine bd_ ?_ | refine ba_ ?_ _)); exact BK338.out) hkp (fun hs_ => (fun e_ => (Kd.R_ne HO_9.out BK338.out (by decide)) e_) hs_)); have n5_ := AZ.mk (hb); clear HO_6; clear HO_9; clear HO_339000; clear BK326; clear BK338; clear HB; have HO_6 := n0_; have HO_9 := n1_; have HO_339000 := n2_; have BK326 := n3_; have BK338 := n4_; have HB := n5_; clear n0_ n1_ n2_ n3_ n4_ n5_; (try clear hb); (try clear hkp); (try clear hy0)) | ((with_reducible refine gate_callee (f := 15) rfl ?_); refine goesL_ (some 74) rfl rfl Try.func15 (by kernel_rfl) rfl #[.slice Ao65 t352.length co65, .int .i64 1] rfl (by (try simp only [List.map_toArray, List.map_cons, List.map_nil]); first | done | (rw [show t352.length = t339.length from (Kd.R_reads' HO_9.out).1.symm] <;> rfl) | rfl | (simp only [List.length_drop, List.length_take]; rfl)) ?_; (with_reducible refine (laws_heldInt64S.calls kj39 _ _ t352 1 t353 _ ?side1 ?side2 A57.out).mono ?_); (case side1 => repeat (first | exact (Kd.R_reads' HO_9.out).2.2 | (with_reducible refine Kd.C_alloc ?_ _) | (with_reducible refine Kd.C_drewN ?_ _) | (with_reducible refine Kd.C_drew ?_))); (case side2 => rw [show t352.length = t339.length from (Kd.R_reads' HO_9.out).1.symm]; exact (Kd.R_reads' HO_9.out).2.1); rintro e w' ⟨rfl, ⟨nd, rfl⟩⟩; refine ⟨_, rfl, ?_⟩; have hnb67 := NB326_338.out; have hnc67 := NB338_326.out; have hcz68_0 : w66.cell? ⟨gb326, 0, none⟩ = some (.slice A0_0 l0_0.length c0_0) := (bc BK326.out 0).trans rfl; have hfz68_0 := bf BK326.out 0) | ((with_reducible refine gate_callee (f := 7) rfl ?_); refine goesL_ (some 82) rfl rfl Try.func7 (by kernel_rfl) rfl #[.agg #[.slice A0_0 l0_0.length c0_0]] rfl (by (try simp only [List.map_toArray, List.map_cons, List.map_nil]); first | done | rfl | (simp only [List.length_drop, List.length_take]; rfl)) ?_; (with_reducible refine (laws_toQuery.calls kj39 _ _ l0_0 t354 _ ?side1 ?side2 A62.out).mono ?_); (case side1 => repeat (first | exact (Kd.C_below HR0_0.out (by repeat (first | (with_reducible first | exact HB.out | apply pA | apply pN | apply pD | refine pS ?_ GE326.out | refine pS ?_ GE338.out) | exact HB.out))) | (with_reducible refine Kd.C_alloc ?_ _) | (with_reducible refine Kd.C_drewN ?_ _) | (with_reducible refine Kd.C_drew ?_))); (case side2 => exact HC0_0.out); rintro e w69 ⟨v355, rfl, ho0, hb⟩; refine ⟨_, rfl, ?_⟩; have n0_ := AZ.mk (Kd.R_below (by (with_reducible repeat (first | apply Kd.R_alloc | apply Kd.R_drewN | apply Kd.R_drew)); exact HO_6.out) hb); have n1_ := AZ.mk (Kd.R_below (by (with_reducible repeat (first | apply Kd.R_alloc | apply Kd.R_drewN | apply Kd.R_drew)); exact HO_9.out) hb); have n2_ := AZ.mk (Kd.R_elder' (by (with_reducible repeat (first | apply Kd.R_alloc | apply Kd.R_drewN | apply Kd.R_drew)); exact HO_339000.out) (Kd.R_base ho0) hb); have n3_ := AZ.mk (Kd.R_lower (Kd.R_new' ho0 (Kd.R_lt (by (with_reducible repeat (first | apply Kd.R_alloc | apply Kd.R_drewN | apply Kd.R_drew)); exact HO_339000.out))) (pZ (by repeat (first | (with_reducible first | exact HB.out | apply pA | apply pN | apply pD | refine pS ?_ GE326.out | refine pS ?_ GE338.out) | exact HB.out)))); have n4_ := AZ.mk (bb_ (g := gb326) (o := .cells #[.slice A0_0 l0_0.length c0_0] 24 (0, 0)) (by (with_reducible repeat (first | refine bn_ ?_ _ | refine bd_ ?_ | refine ba_ ?_ _)); exact BK326.out) hb); have n5_ := AZ.mk (bb_ (g := gb338) (o := .cells #[.slice Ao25 t349.length co25] 30 (0, 0)) (by (with_reducible repeat (first | refine bn_ ?_ _ | refine bd_ ?_ | refine ba_ ?_ _)); exact BK338.out) hb); have n6_ := AZ.mk (pT (by repeat (first | (with_reducible first | exact HB.out | apply pA | apply pN | apply pD | refine pS ?_ GE326.out | refine pS ?_ GE338.out) | exact HB.out)) hb); clear HO_6; clear HO_9; clear HO_339000; clear BK326; clear BK338; clear HB; have HO_6 := n0_; have HO_9 := n1_; have HO_339000 := n2_; have HO356 := n3_; have BK326 := n4_; have BK338 := n5_; have HB := n6_; clear n0_ n1_ n2_ n3_ n4_ n5_ n6_; (try clear hb); (try clear hb2); (try clear hk); (try clear hi); (try clear ho0); obtain ⟨Ao70, co70, eo70⟩ := Kd.R_slice HO356.out; subst eo70) | ((with_reducible refine gate_callee (f := 11) rfl ?_); refine goesL_ (some 84) rfl rfl Try.func11 (by kernel_rfl) rfl #[.agg #[.slice Ao70 t354.length co70], .string a1] rfl (by (try simp only [List.map_toArray, List.map_cons, List.map_nil]); first | done | rfl | (simp only [List.length_drop, List.length_take]; rfl)) ?_; (with_reducible refine (impl_AnswersOf.calls kj39 _ _ t354 a1 t357 t360 _ ?side1 ?side2 A63.out).mono ?_); (case side1 => repeat (first | exact (Kd.R_reads' HO356.out).2.2 | (with_reducible refine Kd.C_alloc ?_ _) | (with_reducible refine Kd.C_drewN ?_ _) | (with_reducible refine Kd.C_drew ?_))); (case side2 => exact (Kd.R_reads' HO356.out).2.1); rintro e w71 ⟨v358, rfl, ho0, hb⟩; refine ⟨_, rfl, ?_⟩; have n0_ := AZ.mk (Kd.R_elder' (by (with_reducible repeat (first | apply Kd.R_alloc | apply Kd.R_drewN | apply Kd.R_drew)); exact HO_6.out) (Kd.R_base ho0) hb); have n1_ := AZ.mk (Kd.R_elder' (by (with_reducible repeat (first | apply Kd.R_alloc | apply Kd.R_drewN | apply Kd.R_drew)); exact HO_9.out) (Kd.R_base ho0) hb); have n2_ := AZ.mk (Kd.R_below (by (with_reducible repeat (first | apply Kd.R_alloc | apply Kd.R_drewN | apply Kd.R_drew)); exact HO_339000.out) hb); have n3_ := AZ.mk (Kd.R_below (by (with_reducible repeat (first | apply Kd.R_alloc | apply Kd.R_drewN | apply Kd.R_drew)); exact HO356.out) hb); have n4_ := AZ.mk (Kd.R_lower (Kd.R_new' (Kd.R_new' ho0 (Kd.R_lt (by (with_reducible repeat (first | apply Kd.R_alloc | apply Kd.R_drewN | apply Kd.R_drew)); exact HO_6.out))) (Kd.R_lt (by (with_reducible repeat (first | apply Kd.R_alloc | apply Kd.R_drewN | apply Kd.R_drew)); exact HO_9.out))) (pZ (by repeat (first | (with_reducible first | exact HB.out | apply pA | apply pN | apply pD | refine pS ?_ GE326.out | refine pS ?_ GE338.out) | exact HB.out)))); have n5_ := AZ.mk (bb_ (g := gb326) (o := .cells #[.slice A0_0 l0_0.length c0_0] 24 (0, 0)) (by (with_reducible repeat (first | refine bn_ ?_ _ | refine bd_ ?_ | refine ba_ ?_ _)); exact BK326.out) hb); have n6_ := AZ.mk (bb_ (g := gb338) (o := .cells #[.slice Ao25 t349.length co25] 30 (0, 0)) (by (with_reducible repeat (first | refine bn_ ?_ _ | refine bd_ ?_ | refine ba_ ?_ _)); exact BK338.out) hb); have n7_ := AZ.mk (pT (by repeat (first | (with_reducible first | exact HB.out | apply pA | apply pN | apply pD | refine pS ?_ GE326.out | refine pS ?_ GE338.out) | exact HB.out)) hb); clear HO_6; clear HO_9; clear HO_339000; clear HO356; clear BK326; clear BK338; clear HB; have HO_6 := n0_; have HO_9 := n1_; have HO_339000 := n2_; have HO356 := n3_; have HO359 := n4_; have BK326 := n5_; have BK338 := n6_; have HB := n7_; clear n0_ n1_ n2_ n3_ n4_ n5_ n6_ n7_; (try clear hb); (try clear hb2); (try clear hk); (try clear hi); (try clear ho0)))
     (try simp only [Act.put, sA, sB, sC])
     go_cut [95] (fun v95 wc => ∃ (kq : Nat) (x95_63 : Bool), v95 = .bool x95_63 ∧ AZ (laws_FnExactAnswersOf.j2 kq t352 t351 x95_63 = some r) ∧ AZ (kq ≤ kj39) ∧ AZ (Kd.R (Kd.int .i64) 2 wc w.heap.size (fun _ => True) (.slice Ao65 t339.length co65) t352) ∧ AZ (Kd.R k62 62 wc w.heap.size (fun _ => True) (.slice Ao25 t349.length co25) t349) ∧ AZ (wc.heap[gb326]? = some (.cells #[(.slice A0_0 l0_0.length c0_0)] 24 (0, 0))) ∧ AZ (wc.heap[gb338]? = some (.cells #[(.slice Ao25 t349.length co25)] 30 (0, 0))) ∧ AZ (Below w.heap.size w wc))
     case first =>
      have H := HC64.out
      clear HC64
      replace H := Option.bind_eq_some_iff.mp H
      obtain ⟨t361, A720, H⟩ := H
      replace H : (if t361 = true then (laws_FnExactAnswersOf.j2 kj39 t352 t351 (t360 != t334)) else (laws_FnExactAnswersOf.j2 kj39 t352 t351 true)) = some r := H
      have A72 := AZ.mk A720
      clear A720
      by_cases c73 : t361 = true
      ·subst c73
       have H1 : (laws_FnExactAnswersOf.j2 kj39 t352 t351 (t360 != t334)) = some r := by rw [if_pos rfl] at H; exact H
       clear H
       have H := H1
       clear H1
       have H' := AZ.mk H
       clear H
       obtain ⟨Ao74, co74, eo74⟩ := Kd.R_slice HO359.out
       subst eo74
       obtain ⟨Ao75, co75, eo75⟩ := Kd.R_slice HO_6.out
       subst eo75
       go_wp2_with (first | ((with_reducible refine gate_callee (f := 12) rfl ?_); refine goesL_ (some 89) rfl rfl Try.func12 (by kernel_rfl) rfl #[.slice Ao74 t357.length co74, .slice Ao75 t331.length co75] rfl (by (try simp only [List.map_toArray, List.map_cons, List.map_nil]); first | done | rfl | (simp only [List.length_drop, List.length_take]; rfl)) ?_; (with_reducible refine (laws_eqInt64S.calls kj39 _ _ t357 _ _ t331 true _ ?side1 ?side2 ?side3 ?side4 A72.out).mono ?_); (case side1 => repeat (first | exact (Kd.R_reads' HO359.out).2.2 | (with_reducible refine Kd.C_alloc ?_ _) | (with_reducible refine Kd.C_drewN ?_ _) | (with_reducible refine Kd.C_drew ?_))); (case side2 => exact (Kd.R_reads' HO359.out).2.1); (case side3 => repeat (first | exact (Kd.R_reads' HO_6.out).2.2 | (with_reducible refine Kd.C_alloc ?_ _) | (with_reducible refine Kd.C_drewN ?_ _) | (with_reducible refine Kd.C_drew ?_))); (case side4 => exact (Kd.R_reads' HO_6.out).2.1); rintro e w' ⟨rfl, ⟨nd, rfl⟩⟩; refine ⟨_, rfl, ?_⟩))
       go_meet
       case rel => exact ⟨_, ((t360 != t334)), (by first | rfl | (simp; done) | (simp [*]; done)), H', ⟨by have := HJ13.out; have := HJ39.out; first | omega | exact Nat.le_refl _⟩, ⟨by (try simp only [hl339000_39]); (with_reducible repeat (first | apply Kd.R_alloc | apply Kd.R_drewN | apply Kd.R_drew)); exact Kd.R_mono HO_9.out (fun _ hk => trivial)⟩, ⟨by (try simp only [hl339000_39]); (with_reducible repeat (first | apply Kd.R_alloc | apply Kd.R_drewN | apply Kd.R_drew)); exact Kd.R_mono HO_339000.out (fun _ hk => trivial)⟩, ⟨by (try simp only [hl339000_39]); (with_reducible repeat (first | refine bn_ ?_ _ | refine bd_ ?_ | refine ba_ ?_ _)); exact BK326.out⟩, ⟨by (try simp only [hl339000_39]); (with_reducible repeat (first | refine bn_ ?_ _ | refine bd_ ?_ | refine ba_ ?_ _)); exact BK338.out⟩, ⟨by repeat (first | (with_reducible first | exact HB.out | apply pA | apply pN | apply pD | refine pS ?_ GE326.out | refine pS ?_ GE338.out) | exact HB.out)⟩⟩
      replace c73 := Bool.eq_false_iff.mpr c73
      subst c73
      have H1 : (laws_FnExactAnswersOf.j2 kj39 t352 t351 true) = some r := by rw [if_neg (show ¬ (false = true) by decide)] at H; exact H
      clear H
      have H := H1
      clear H1
      have H' := AZ.mk H
      clear H
      obtain ⟨Ao76, co76, eo76⟩ := Kd.R_slice HO359.out
      subst eo76
      obtain ⟨Ao77, co77, eo77⟩ := Kd.R_slice HO_6.out
      subst eo77
      go_wp2_with (first | ((with_reducible refine gate_callee (f := 12) rfl ?_); refine goesL_ (some 89) rfl rfl Try.func12 (by kernel_rfl) rfl #[.slice Ao76 t357.length co76, .slice Ao77 t331.length co77] rfl (by (try simp only [List.map_toArray, List.map_cons, List.map_nil]); first | done | rfl | (simp only [List.length_drop, List.length_take]; rfl)) ?_; (with_reducible refine (laws_eqInt64S.calls kj39 _ _ t357 _ _ t331 false _ ?side1 ?side2 ?side3 ?side4 A72.out).mono ?_); (case side1 => repeat (first | exact (Kd.R_reads' HO359.out).2.2 | (with_reducible refine Kd.C_alloc ?_ _) | (with_reducible refine Kd.C_drewN ?_ _) | (with_reducible refine Kd.C_drew ?_))); (case side2 => exact (Kd.R_reads' HO359.out).2.1); (case side3 => repeat (first | exact (Kd.R_reads' HO_6.out).2.2 | (with_reducible refine Kd.C_alloc ?_ _) | (with_reducible refine Kd.C_drewN ?_ _) | (with_reducible refine Kd.C_drew ?_))); (case side4 => exact (Kd.R_reads' HO_6.out).2.1); rintro e w' ⟨rfl, ⟨nd, rfl⟩⟩; refine ⟨_, rfl, ?_⟩))
      go_meet
      case rel => exact ⟨_, (true), (by first | rfl | (simp; done) | (simp [*]; done)), H', ⟨by have := HJ13.out; have := HJ39.out; first | omega | exact Nat.le_refl _⟩, ⟨by (try simp only [hl339000_39]); (with_reducible repeat (first | apply Kd.R_alloc | apply Kd.R_drewN | apply Kd.R_drew)); exact Kd.R_mono HO_9.out (fun _ hk => trivial)⟩, ⟨by (try simp only [hl339000_39]); (with_reducible repeat (first | apply Kd.R_alloc | apply Kd.R_drewN | apply Kd.R_drew)); exact Kd.R_mono HO_339000.out (fun _ hk => trivial)⟩, ⟨by (try simp only [hl339000_39]); (with_reducible repeat (first | refine bn_ ?_ _ | refine bd_ ?_ | refine ba_ ?_ _)); exact BK326.out⟩, ⟨by (try simp only [hl339000_39]); (with_reducible repeat (first | refine bn_ ?_ _ | refine bd_ ?_ | refine ba_ ?_ _)); exact BK338.out⟩, ⟨by repeat (first | (with_reducible first | exact HB.out | apply pA | apply pN | apply pD | refine pS ?_ GE326.out | refine pS ?_ GE338.out) | exact HB.out)⟩⟩
     case rest =>
      clear HC64
      try clear c1
      try clear c2
      try clear p2
      try clear c3
      try clear c3b0
      try clear c3b1
      try clear c4
      try clear c5
      try clear c6
      try clear c6b0
      try clear c7
      try clear c9
      try clear c10
      try clear c11
      try clear c12
      try clear c13
      try clear c14
      try clear c15
      try clear c26
      try clear c30
      try clear c35
      try clear c38
      try clear c45
      try clear c48
      try clear c48b0
      try clear c48b1
      try clear c50
      try clear c55
      try clear c58
      try clear c58b0
      try clear c61
      try clear c61b0
      try clear c61b1
      try clear c67
      try clear c73
      try clear hcz16_0
      try clear hcz18_0
      try clear hcz22_0
      try clear hcz27_0
      try clear hcz46_0
      try clear hcz68_0
      try clear hcz8_0
      try clear hfz16_0
      try clear hfz18_0
      try clear hfz22_0
      try clear hfz27_0
      try clear hfz46_0
      try clear hfz68_0
      try clear hfz8_0
      try clear p2
      obtain ⟨kq, x95_63, rfl, HA, HJ63, HO_9, HO_339000, BK326, BK338, HB⟩ := hcut
      have hl9_63 := (Kd.R_reads' HO_9.out).1
      rw [hl9_63] at HO_9
      (try simp only [hl9_63])
      (try simp only [hl9_63] at BK326)
      (try simp only [hl9_63] at BK338)
      (try simp only [hl9_63] at HO_339000)
      cases kq with
      | zero => exact absurd HA.out (by simp [laws_FnExactAnswersOf.j2])
      | succ kj63 =>
       have H := HA.out
       clear HA
       simp only [laws_FnExactAnswersOf.j2] at H
       by_cases c78 : x95_63 = true
       ·subst c78
        have H1 : (some false) = some r := by rw [if_pos rfl] at H; exact H
        clear H
        have H := H1
        clear H1
        obtain rfl := Option.some.inj H
        go_wp2
        go_ret
        exact ⟨by first | rfl | (simp [errW_none, errW_some] <;> rfl) | (simp [*, errW_none, errW_some] <;> rfl), by repeat (first | (with_reducible first | exact HB.out | apply pA | apply pN | apply pD | refine pS ?_ GE326.out | refine pS ?_ GE338.out) | exact HB.out)⟩
       replace c78 := Bool.eq_false_iff.mpr c78
       subst c78
       have H1 : ((laws_heldInt64S.f kj63 t352 1).bind fun t362 => (if t362 < 0 then (some false) else (if t362 = t351 then (some true) else (some false)))) = some r := by rw [if_neg (show ¬ (false = true) by decide)] at H; exact H
       clear H
       have H := H1
       clear H1
       replace H := Option.bind_eq_some_iff.mp H
       obtain ⟨t362, A790, H⟩ := H
       replace H : (if t362 < 0 then (some false) else (if t362 = t351 then (some true) else (some false))) = some r := H
       have A79 := AZ.mk A790
       clear A790
       by_cases c80 : t362 < 0
       ·rw [if_pos c80] at H
        have c80b0 : decide (t362 < 0) = true := decide_eq_true c80
        clear c80
        obtain rfl := Option.some.inj H
        go_wp2_with (first | ((with_reducible refine gate_callee (f := 15) rfl ?_); refine goesL_ (some 98) rfl rfl Try.func15 (by kernel_rfl) rfl #[.slice Ao65 t352.length co65, .int .i64 1] rfl (by (try simp only [List.map_toArray, List.map_cons, List.map_nil]); first | done | rfl | (simp only [List.length_drop, List.length_take]; rfl)) ?_; (with_reducible refine (laws_heldInt64S.calls kj63 _ _ t352 1 t362 _ ?side1 ?side2 A79.out).mono ?_); (case side1 => repeat (first | exact (Kd.R_reads' HO_9.out).2.2 | (with_reducible refine Kd.C_alloc ?_ _) | (with_reducible refine Kd.C_drewN ?_ _) | (with_reducible refine Kd.C_drew ?_))); (case side2 => exact (Kd.R_reads' HO_9.out).2.1); rintro e w' ⟨rfl, ⟨nd, rfl⟩⟩; refine ⟨_, rfl, ?_⟩))
        go_ret
        exact ⟨by first | rfl | (simp [errW_none, errW_some] <;> rfl) | (simp [*, errW_none, errW_some] <;> rfl), by repeat (first | (with_reducible first | exact HB.out | apply pA | apply pN | apply pD | refine pS ?_ GE326.out | refine pS ?_ GE338.out) | exact HB.out)⟩
       rw [if_neg c80] at H
       have c80b0 : decide (t362 < 0) = false := decide_eq_false c80
       clear c80
       by_cases c81 : t362 = t351
       rotate_left
       ·rw [if_neg c81] at H
        have c81b0 : (t362 == t351) = false := beq_eq_false_iff_ne.mpr c81
        have c81b1 : (t362 != t351) = true := bne_iff_ne.mpr c81
        obtain rfl := Option.some.inj H
        go_wp2_with (first | ((with_reducible refine gate_callee (f := 15) rfl ?_); refine goesL_ (some 98) rfl rfl Try.func15 (by kernel_rfl) rfl #[.slice Ao65 t352.length co65, .int .i64 1] rfl (by (try simp only [List.map_toArray, List.map_cons, List.map_nil]); first | done | rfl | (simp only [List.length_drop, List.length_take]; rfl)) ?_; (with_reducible refine (laws_heldInt64S.calls kj63 _ _ t352 1 t362 _ ?side1 ?side2 A79.out).mono ?_); (case side1 => repeat (first | exact (Kd.R_reads' HO_9.out).2.2 | (with_reducible refine Kd.C_alloc ?_ _) | (with_reducible refine Kd.C_drewN ?_ _) | (with_reducible refine Kd.C_drew ?_))); (case side2 => exact (Kd.R_reads' HO_9.out).2.1); rintro e w' ⟨rfl, ⟨nd, rfl⟩⟩; refine ⟨_, rfl, ?_⟩))
        go_ret
        exact ⟨by first | rfl | (simp [errW_none, errW_some] <;> rfl) | (simp [*, errW_none, errW_some] <;> rfl), by repeat (first | (with_reducible first | exact HB.out | apply pA | apply pN | apply pD | refine pS ?_ GE326.out | refine pS ?_ GE338.out) | exact HB.out)⟩
       rw [if_pos c81] at H
       have c81b0 : (t362 == t351) = true := beq_iff_eq.mpr c81
       have c81b1 : (t362 != t351) = false := bne_eq_false_iff_eq.mpr c81
       clear c81
       obtain rfl := Option.some.inj H
       go_wp2_with (first | ((with_reducible refine gate_callee (f := 15) rfl ?_); refine goesL_ (some 98) rfl rfl Try.func15 (by kernel_rfl) rfl #[.slice Ao65 t352.length co65, .int .i64 1] rfl (by (try simp only [List.map_toArray, List.map_cons, List.map_nil]); first | done | rfl | (simp only [List.length_drop, List.length_take]; rfl)) ?_; (with_reducible refine (laws_heldInt64S.calls kj63 _ _ t352 1 t362 _ ?side1 ?side2 A79.out).mono ?_); (case side1 => repeat (first | exact (Kd.R_reads' HO_9.out).2.2 | (with_reducible refine Kd.C_alloc ?_ _) | (with_reducible refine Kd.C_drewN ?_ _) | (with_reducible refine Kd.C_drew ?_))); (case side2 => exact (Kd.R_reads' HO_9.out).2.1); rintro e w' ⟨rfl, ⟨nd, rfl⟩⟩; refine ⟨_, rfl, ?_⟩))
       go_ret
       exact ⟨by first | rfl | (simp [errW_none, errW_some] <;> rfl) | (simp [*, errW_none, errW_some] <;> rfl), by repeat (first | (with_reducible first | exact HB.out | apply pA | apply pN | apply pD | refine pS ?_ GE326.out | refine pS ?_ GE338.out) | exact HB.out)⟩
def laws_FnExactAnswersOf.Pure : Prop := ∀ (l0_0 : List (S57)) (a1 : ByteArray), (l0_0.length ≤ maxLen ∧ ∀ x0 ∈ l0_0, (True ∧ x0.f1.size ≤ maxLen)) → a1.size ≤ maxLen → ∃ k, laws_FnExactAnswersOf.f k l0_0 a1 = some true
end Go.Proofs.Yteeplponconnjaa.P
namespace Go.Proofs.Yteeplponconnjaa.Th

def isC (b : Int) : Bool := b == 40 || b == 91
def isR (b : Int) : Bool := b == 41 || b == 93

structure St where
  p : List Int
  r : List Int
  c : List Int
  d : List Int
  q : List Int

def top (c : List Int) : Int := c.getLast?.getD (-1)

def step (s : St) (i b : Int) : St :=
  if isR b = true then
    if s.c = [] then ⟨s.p ++ [-2], s.r ++ [i], [], s.d ++ [0], s.q ++ [-1]⟩
    else ⟨s.p.set (top s.c).toNat i ++ [top s.c], s.r, s.c.dropLast, s.d ++ [(s.c.dropLast.length : Int)], s.q ++ [top s.c.dropLast]⟩
  else if isC b = true then ⟨s.p ++ [-2], s.r, s.c ++ [i], s.d ++ [(s.c.length : Int) + 1], s.q ++ [top s.c]⟩
  else ⟨s.p ++ [-1], s.r, s.c, s.d ++ [(s.c.length : Int)], s.q ++ [top s.c]⟩

def st (b : Int → Int) : Nat → St
  | 0 => ⟨[], [], [], [0], []⟩
  | n + 1 => step (st b n) n (b n)

theorem isR_notC {b : Int} (h : isR b = true) : isC b = false := by
  unfold isR at h; unfold isC
  simp at h ⊢
  omega

structure Basic (s : St) (n : Nat) : Prop where
  lp : s.p.length = n
  lq : s.q.length = n
  ld : s.d.length = n + 1
  lr : s.r.length ≤ n
  lc : s.c.length ≤ n
  hc : ∀ x ∈ s.c, 0 ≤ x ∧ x < n
  hr : ∀ x ∈ s.r, 0 ≤ x ∧ x < n

theorem top_mem {c : List Int} (h : c ≠ []) : top c ∈ c := by
  unfold top
  rw [List.getLast?_eq_some_getLast h]
  exact List.getLast_mem h

theorem basic (b : Int → Int) : ∀ n, Basic (st b n) n
  | 0 => by constructor <;> simp [st]
  | n + 1 => by
    have ih := basic b n
    obtain ⟨h1, h2, h3, h4, h5, h6, h7⟩ := ih
    unfold st step
    split
    · split
      · constructor <;> simp_all
        · intro x hx; rcases hx with hx | hx
          · have := h7 x hx; omega
          · omega
      · rename_i hne
        have hd : ∀ x ∈ (st b n).c.dropLast, x ∈ (st b n).c := fun x hx => List.dropLast_subset _ hx
        constructor
        · simp; exact h1
        · simp; exact h2
        · simp; exact h3
        · simp; omega
        · simp; omega
        · intro x hx; have := h6 x (hd x hx); constructor <;> omega
        · intro x hx; have := h7 x hx; constructor <;> omega
    · split
      · constructor
        · simp; exact h1
        · simp; exact h2
        · simp; exact h3
        · simp; omega
        · simp; omega
        · intro x hx
          rcases List.mem_append.1 hx with hx | hx
          · have := h6 x hx; constructor <;> omega
          · simp at hx; omega
        · intro x hx; have := h7 x hx; constructor <;> omega
      · constructor
        · simp; exact h1
        · simp; exact h2
        · simp; exact h3
        · simp; omega
        · simp; omega
        · intro x hx; have := h6 x hx; constructor <;> omega
        · intro x hx; have := h7 x hx; constructor <;> omega


def g (l : List Int) (j : Nat) : Int := l.getD j 0

theorem g_append_left {l m : List Int} {j : Nat} (h : j < l.length) : g (l ++ m) j = g l j := by
  unfold g; simp [List.getD_eq_getElem?_getD, List.getElem?_append_left h]
theorem g_append_end {l : List Int} {x : Int} {j : Nat} (h : j = l.length) : g (l ++ [x]) j = x := by
  subst h; unfold g; simp [List.getD_eq_getElem?_getD]
theorem g_set {l : List Int} {t j : Nat} {x : Int} : g (l.set t x) j = if t = j ∧ j < l.length then x else g l j := by
  unfold g
  simp only [List.getD_eq_getElem?_getD, List.getElem?_set]
  by_cases h : t = j
  · subst h
    by_cases h2 : t < l.length
    · simp [h2]
    · simp [h2]
  · simp [h]

structure Inv (b : Int → Int) (s : St) (n : Nat) : Prop where
  ba : Basic s n
  inc : (s.r ++ s.c).Pairwise (· < ·)
  m2 : ∀ j : Nat, j < n → (g s.p j = -2 ↔ (j : Int) ∈ s.r ∨ (j : Int) ∈ s.c)
  br : ∀ j : Nat, (j : Int) ∈ s.r → isR (b j) = true
  bc : ∀ j : Nat, (j : Int) ∈ s.c → isC (b j) = true
  m1 : ∀ j : Nat, j < n → (g s.p j = -1 ↔ isC (b j) = false ∧ isR (b j) = false)
  pos : ∀ j : Nat, j < n → 0 ≤ g s.p j → g s.p j < n ∧ g s.p (g s.p j).toNat = j ∧ ((isC (b j) = true ∧ (j : Int) < g s.p j) ∨ (isR (b j) = true ∧ g s.p j < j))
  lo : ∀ j : Nat, j < n → -2 ≤ g s.p j

theorem pw_mem {l : List Int} {x : Int} (h : (l ++ [x]).Pairwise (· < ·)) : ∀ y ∈ l, y < x := by
  intro y hy
  exact (List.pairwise_append.1 h).2.2 y hy x (by simp)

theorem dropLast_top {c : List Int} (h : c ≠ []) : c.dropLast ++ [top c] = c := by
  unfold top
  rw [List.getLast?_eq_some_getLast h]
  exact List.dropLast_concat_getLast h

theorem inv (b : Int → Int) : ∀ n, Inv b (st b n) n
  | 0 => by
    constructor <;> first | exact basic b 0 | simp [st]
  | n + 1 => by
    have ih := inv b n
    have hba := basic b (n + 1)
    have hst : st b (n + 1) = step (st b n) n (b n) := rfl
    obtain ⟨B, inc, m2, br, bc, m1, pos, lo⟩ := ih
    obtain ⟨lp, lq, ld, lr, lc, hc, hr⟩ := B
    generalize hs : st b n = s at *
    rw [hst] at hba ⊢
    by_cases hR : isR (b n) = true
    · have hC := isR_notC hR
      by_cases he : s.c = []
      · have e : step s n (b n) = ⟨s.p ++ [-2], s.r ++ [(n : Int)], [], s.d ++ [0], s.q ++ [-1]⟩ := by simp [step, hR, he]
        rw [e] at hba ⊢
        rw [he, List.append_nil] at inc
        have gl : ∀ j : Nat, j < n → g (s.p ++ [-2]) j = g s.p j := fun j hj => g_append_left (by omega)
        have gn : g (s.p ++ [-2]) n = -2 := g_append_end lp.symm
        refine ⟨hba, ?_, ?_, ?_, ?_, ?_, ?_, ?_⟩
        · simp only [List.append_nil]
          refine List.pairwise_append.2 ⟨inc, by simp, ?_⟩
          intro a ha x hx; simp at hx; subst hx; exact (hr a ha).2
        · intro j hj
          by_cases hjn : j = n
          · subst hjn; simp [gn]
          · have hj' : j < n := by omega
            rw [gl j hj', m2 j hj', he]
            simp; omega
        · intro j hj
          rcases List.mem_append.1 hj with h | h
          · exact br j h
          · simp at h; rw [show j = n by omega]; exact hR
        · intro j hj; simp at hj
        · intro j hj
          by_cases hjn : j = n
          · subst hjn; simp [gn, hR]
          · have hj' : j < n := by omega
            rw [gl j hj']; exact m1 j hj'
        · intro j hj h0
          by_cases hjn : j = n
          · subst hjn; rw [gn] at h0; omega
          · have hj' : j < n := by omega
            rw [gl j hj'] at h0 ⊢
            obtain ⟨p1, p2, p3⟩ := pos j hj' h0
            refine ⟨by omega, ?_, p3⟩
            rw [gl _ (by omega)]; exact p2
        · intro j hj
          by_cases hjn : j = n
          · subst hjn; rw [gn]; omega
          · have hj' : j < n := by omega
            rw [gl j hj']; exact lo j hj'
      · have e : step s n (b n) = ⟨s.p.set (top s.c).toNat n ++ [top s.c], s.r, s.c.dropLast, s.d ++ [(s.c.dropLast.length : Int)], s.q ++ [top s.c.dropLast]⟩ := by simp [step, hR, he]
        rw [e] at hba ⊢
        have ht := top_mem he
        obtain ⟨t0, t1⟩ := hc _ ht
        obtain ⟨t, htt⟩ := Int.eq_ofNat_of_zero_le t0
        have hdt := dropLast_top he
        have htn : t < n := by omega
        have ht2 : g s.p t = -2 := (m2 t htn).2 (Or.inr (htt ▸ ht))
        have htC : isC (b t) = true := bc t (htt ▸ ht)
        rw [htt] at hdt ⊢
        simp only [Int.toNat_natCast]
        have inc' : (s.r ++ s.c.dropLast ++ [(t : Int)]).Pairwise (· < ·) := by rw [List.append_assoc, hdt]; exact inc
        have hlt := pw_mem inc'
        have gn : g (s.p.set t n ++ [(t : Int)]) n = t := g_append_end (by simp [lp])
        have gl : ∀ j : Nat, j < n → g (s.p.set t n ++ [(t : Int)]) j = if t = j then (n : Int) else g s.p j := by
          intro j hj
          rw [g_append_left (by simp; omega), g_set]
          by_cases h : t = j
          · simp [h]; omega
          · simp [h]
        have hcm : ∀ j : Nat, (j : Int) ∈ s.c ↔ (j : Int) ∈ s.c.dropLast ∨ j = t := by
          intro j
          conv => lhs; rw [← hdt]
          rw [List.mem_append, List.mem_singleton, Int.ofNat_inj]
        refine ⟨by rw [htt] at hba; simpa using hba, ?_, ?_, ?_, ?_, ?_, ?_, ?_⟩
        · exact (List.pairwise_append.1 inc').1
        · intro j hj
          by_cases hjn : j = n
          · subst hjn
            rw [gn]
            constructor
            · intro h; omega
            · intro h
              rcases h with h | h
              · have := hr _ h; omega
              · have := hc _ ((hcm j).2 (Or.inl h)); omega
          · have hj' : j < n := by omega
            rw [gl j hj']
            by_cases hjt : t = j
            · subst hjt
              simp only [if_true]
              constructor
              · intro h; omega
              · intro h
                rcases h with h | h
                · have := hlt t (by simp [h]); omega
                · have := hlt t (by simp [h]); omega
            · rw [if_neg hjt, m2 j hj', hcm j]
              constructor
              · rintro (h | h | h)
                · exact Or.inl h
                · exact Or.inr h
                · omega
              · rintro (h | h)
                · exact Or.inl h
                · exact Or.inr (Or.inl h)
        · exact br
        · intro j hj; exact bc j ((hcm j).2 (Or.inl hj))
        · intro j hj
          by_cases hjn : j = n
          · subst hjn; rw [gn]; simp [hR]
          · have hj' : j < n := by omega
            rw [gl j hj']
            by_cases hjt : t = j
            · subst hjt; simp [htC]
            · rw [if_neg hjt]; exact m1 j hj'
        · intro j hj h0
          by_cases hjn : j = n
          · subst hjn
            rw [gn]
            refine ⟨by omega, ?_, Or.inr ⟨hR, by omega⟩⟩
            rw [Int.toNat_natCast, gl t htn, if_pos rfl]
          · have hj' : j < n := by omega
            rw [gl j hj'] at h0 ⊢
            by_cases hjt : t = j
            · subst hjt
              simp only [if_true]
              refine ⟨by omega, ?_, Or.inl ⟨htC, by omega⟩⟩
              rw [Int.toNat_natCast, gn]
            · rw [if_neg hjt] at h0 ⊢
              obtain ⟨p1, p2, p3⟩ := pos j hj' h0
              refine ⟨by omega, ?_, p3⟩
              rw [gl _ (by omega), if_neg]
              · exact p2
              · intro h; rw [← h, ht2] at p2; omega
        · intro j hj
          by_cases hjn : j = n
          · subst hjn; rw [gn]; omega
          · have hj' : j < n := by omega
            rw [gl j hj']
            split
            · omega
            · exact lo j hj'
    · have hR' : isR (b n) = false := by simpa using hR
      by_cases hC : isC (b n) = true
      · have e : step s n (b n) = ⟨s.p ++ [-2], s.r, s.c ++ [(n : Int)], s.d ++ [(s.c.length : Int) + 1], s.q ++ [top s.c]⟩ := by simp [step, hR, hC]
        rw [e] at hba ⊢
        have gl : ∀ j : Nat, j < n → g (s.p ++ [-2]) j = g s.p j := fun j hj => g_append_left (by omega)
        have gn : g (s.p ++ [-2]) n = -2 := g_append_end lp.symm
        refine ⟨hba, ?_, ?_, ?_, ?_, ?_, ?_, ?_⟩
        · rw [← List.append_assoc]
          refine List.pairwise_append.2 ⟨inc, by simp, ?_⟩
          intro a ha x hx; simp at hx; subst hx
          rcases List.mem_append.1 ha with h | h
          · exact (hr a h).2
          · exact (hc a h).2
        · intro j hj
          by_cases hjn : j = n
          · subst hjn; simp [gn]
          · have hj' : j < n := by omega
            rw [gl j hj', m2 j hj', List.mem_append, List.mem_singleton, Int.ofNat_inj]
            constructor
            · rintro (h | h)
              · exact Or.inl h
              · exact Or.inr (Or.inl h)
            · rintro (h | h | h)
              · exact Or.inl h
              · exact Or.inr h
              · omega
        · exact br
        · intro j hj
          rcases List.mem_append.1 hj with h | h
          · exact bc j h
          · simp at h; rw [show j = n by omega]; exact hC
        · intro j hj
          by_cases hjn : j = n
          · subst hjn; simp [gn, hC]
          · have hj' : j < n := by omega
            rw [gl j hj']; exact m1 j hj'
        · intro j hj h0
          by_cases hjn : j = n
          · subst hjn; rw [gn] at h0; omega
          · have hj' : j < n := by omega
            rw [gl j hj'] at h0 ⊢
            obtain ⟨p1, p2, p3⟩ := pos j hj' h0
            refine ⟨by omega, ?_, p3⟩
            rw [gl _ (by omega)]; exact p2
        · intro j hj
          by_cases hjn : j = n
          · subst hjn; rw [gn]; omega
          · have hj' : j < n := by omega
            rw [gl j hj']; exact lo j hj'
      · have hC' : isC (b n) = false := by simpa using hC
        have e : step s n (b n) = ⟨s.p ++ [-1], s.r, s.c, s.d ++ [(s.c.length : Int)], s.q ++ [top s.c]⟩ := by simp [step, hR, hC]
        rw [e] at hba ⊢
        have gl : ∀ j : Nat, j < n → g (s.p ++ [-1]) j = g s.p j := fun j hj => g_append_left (by omega)
        have gn : g (s.p ++ [-1]) n = -1 := g_append_end lp.symm
        refine ⟨hba, inc, ?_, br, bc, ?_, ?_, ?_⟩
        · intro j hj
          by_cases hjn : j = n
          · subst hjn; rw [gn]
            constructor
            · intro h; omega
            · rintro (h | h)
              · have := hr _ h; omega
              · have := hc _ h; omega
          · have hj' : j < n := by omega
            rw [gl j hj', m2 j hj']
        · intro j hj
          by_cases hjn : j = n
          · subst hjn; simp [gn, hC', hR']
          · have hj' : j < n := by omega
            rw [gl j hj']; exact m1 j hj'
        · intro j hj h0
          by_cases hjn : j = n
          · subst hjn; rw [gn] at h0; omega
          · have hj' : j < n := by omega
            rw [gl j hj'] at h0 ⊢
            obtain ⟨p1, p2, p3⟩ := pos j hj' h0
            refine ⟨by omega, ?_, p3⟩
            rw [gl _ (by omega)]; exact p2
        · intro j hj
          by_cases hjn : j = n
          · subst hjn; rw [gn]; omega
          · have hj' : j < n := by omega
            rw [gl j hj']; exact lo j hj'

/-- What is on the stack after m symbols: by the partners at the end. -/
theorem onstack (b : Int → Int) (m : Nat) : ∀ n, m ≤ n → ∀ k : Nat, k < m → ((k : Int) ∈ (st b m).c ↔ isC (b k) = true ∧ (g (st b n).p k = -2 ∨ (m : Int) ≤ g (st b n).p k)) := by
  intro n hn
  obtain ⟨d, rfl⟩ := Nat.exists_eq_add_of_le hn
  clear hn
  induction d with
  | zero =>
    intro k hk
    have I := inv b m
    constructor
    · intro h; exact ⟨I.bc k h, Or.inl ((I.m2 k hk).2 (Or.inr h))⟩
    · rintro ⟨h1, h2 | h2⟩
      · rcases (I.m2 k hk).1 h2 with h | h
        · have := isR_notC (I.br k h); rw [this] at h1; cases h1
        · exact h
      · have := I.pos k hk (by simp at h2; omega)
        simp at h2; omega
  | succ d ih =>
    intro k hk
    rw [ih k hk]
    have I := inv b (m + d)
    have B := I.ba
    have hst : st b (m + (d + 1)) = step (st b (m + d)) ((m + d : Nat) : Int) (b ((m + d : Nat) : Int)) := rfl
    rw [hst]
    generalize hs : st b (m + d) = s at *
    have lp := B.lp
    unfold step
    split
    · split
      · rw [g_append_left (by omega)]
      · rename_i he
        have ht := top_mem he
        obtain ⟨t0, t1⟩ := B.hc _ ht
        obtain ⟨t, htt⟩ := Int.eq_ofNat_of_zero_le t0
        rw [htt]
        simp only [Int.toNat_natCast]
        rw [g_append_left (by simp; omega), g_set]
        by_cases h : t = k
        · subst h
          have h2 : g s.p t = -2 := (I.m2 t (by omega)).2 (Or.inr (htt ▸ ht))
          rw [if_pos ⟨rfl, by omega⟩, h2]
          simp
          intro _
          right
          omega
        · rw [if_neg (by omega)]
    · split
      · rw [g_append_left (by omega)]
      · rw [g_append_left (by omega)]

/-- Two increasing lists with the same members. -/
theorem inc_ext : ∀ {l m : List Int}, l.Pairwise (· < ·) → m.Pairwise (· < ·) → (∀ x, x ∈ l ↔ x ∈ m) → l = m
  | [], [], _, _, _ => rfl
  | [], y :: m, _, _, h => by have := (h y).2 (by simp); simp at this
  | x :: l, [], _, _, h => by have := (h x).1 (by simp); simp at this
  | x :: l, y :: m, hl, hm, h => by
    obtain ⟨a1, a2⟩ := List.pairwise_cons.1 hl
    obtain ⟨b1, b2⟩ := List.pairwise_cons.1 hm
    have e : x = y := by
      rcases List.mem_cons.1 ((h x).1 (by simp)) with r | r
      · exact r
      · rcases List.mem_cons.1 ((h y).2 (by simp)) with r2 | r2
        · exact r2.symm
        · have := b1 x r; have := a1 y r2; omega
    subst e
    congr 1
    refine inc_ext a2 b2 fun z => ?_
    have hz := h z
    constructor
    · intro hz2
      rcases List.mem_cons.1 (hz.1 (List.mem_cons_of_mem _ hz2)) with r | r
      · have := a1 z hz2; omega
      · exact r
    · intro hz2
      rcases List.mem_cons.1 (hz.2 (List.mem_cons_of_mem _ hz2)) with r | r
      · have := b1 z hz2; omega
      · exact r

/-- The places up to i for which a test says yes, in order. -/
def sel (f : Nat → Bool) : Nat → List Int
  | 0 => []
  | i + 1 => if f i then sel f i ++ [(i : Int)] else sel f i

theorem mem_sel {f : Nat → Bool} : ∀ {i : Nat} {x : Int}, x ∈ sel f i ↔ ∃ j : Nat, j < i ∧ x = j ∧ f j = true
  | 0, x => by simp [sel]
  | i + 1, x => by
    unfold sel
    split
    · rename_i h
      rw [List.mem_append, mem_sel (i := i)]
      constructor
      · rintro (⟨j, h1, h2, h3⟩ | hx)
        · exact ⟨j, by omega, h2, h3⟩
        · simp at hx; exact ⟨i, by omega, hx, h⟩
      · rintro ⟨j, h1, h2, h3⟩
        by_cases hj : j = i
        · subst hj; right; simp [h2]
        · left; exact ⟨j, by omega, h2, h3⟩
    · rename_i h
      rw [mem_sel (i := i)]
      constructor
      · rintro ⟨j, h1, h2, h3⟩; exact ⟨j, by omega, h2, h3⟩
      · rintro ⟨j, h1, h2, h3⟩
        by_cases hj : j = i
        · subst hj; exact absurd h3 h
        · exact ⟨j, by omega, h2, h3⟩

theorem sel_inc {f : Nat → Bool} : ∀ i, (sel f i).Pairwise (· < ·)
  | 0 => by simp [sel]
  | i + 1 => by
    unfold sel
    split
    · refine List.pairwise_append.2 ⟨sel_inc i, by simp, ?_⟩
      intro a ha x hx
      obtain ⟨j, h1, h2, _⟩ := mem_sel.1 ha
      simp at hx; omega
    · exact sel_inc i

end Go.Proofs.Yteeplponconnjaa.Th
namespace Go.Proofs.Yteeplponconnjaa.Br
open Go.RowKit Go.Proofs.Yteeplponconnjaa.P Go.Proofs.YteeplponconnjaaW.PrintWords Go.Proofs.YteeplponconnjaaW.PrintLast Go.Proofs.YteeplponconnjaaW.PrintMore Go.Proofs.Yteeplponconnjaa.Th
set_option linter.unusedVariables false
set_option linter.unusedSimpArgs false
theorem Ev.succ {α : Type} {g : Nat → Option α} {r : α} (h : Ev (fun k => g (k + 1)) r) : Ev g r := by
  obtain ⟨K, hK⟩ := h
  refine ⟨K + 1, fun k hk => ?_⟩
  obtain ⟨m, rfl⟩ : ∃ m, k = m + 1 := ⟨k - 1, by omega⟩
  exact hK m (by omega)
theorem Ev.done {α : Type} {r s : α} (h : r = s) : Ev (fun _ : Nat => some r) s := h ▸ Ev.now r
theorem w64 {x : Int} (h0 : -9223372036854775808 ≤ x) (h1 : x ≤ 9223372036854775807) : wrap64 x = x := by unfold wrap64; omega

/-- The number of a symbol, -1 if it is none. -/
def sym (b : Int) : Int := if b = 40 then 0 else if b = 91 then 1 else if b = 41 then 2 else if b = 93 then 3 else if b = 97 then 4 else if b = 98 then 5 else -1

def allFrom (f : Nat → Bool) : Nat → Nat → Bool
  | 0, _ => true
  | d + 1, i => f i && allFrom f d (i + 1)

/-- Is a text a word. -/
def okw (a : ByteArray) : Bool := allFrom (fun j => decide (0 ≤ sym (bt a j))) a.size 0 && decide ((a.size : Int) ≤ 60)

theorem bs0 : bt (⟨#[40, 91, 41, 93, 97, 98]⟩ : ByteArray) 0 = 40 := by decide
theorem bs1 : bt (⟨#[40, 91, 41, 93, 97, 98]⟩ : ByteArray) 1 = 91 := by decide
theorem bs2 : bt (⟨#[40, 91, 41, 93, 97, 98]⟩ : ByteArray) 2 = 41 := by decide
theorem bs3 : bt (⟨#[40, 91, 41, 93, 97, 98]⟩ : ByteArray) 3 = 93 := by decide
theorem bs4 : bt (⟨#[40, 91, 41, 93, 97, 98]⟩ : ByteArray) 4 = 97 := by decide
theorem bs5 : bt (⟨#[40, 91, 41, 93, 97, 98]⟩ : ByteArray) 5 = 98 := by decide

theorem symbol_ev (b : Int) : Ev (fun k => spec_l01Symbol.f k b) (sym b) := by
  unfold spec_l01Symbol.f sym
  have w1 : wrap64 (0 + 1) = 1 := by unfold wrap64; omega
  have w2 : wrap64 (1 + 1) = 2 := by unfold wrap64; omega
  have w3 : wrap64 (2 + 1) = 3 := by unfold wrap64; omega
  have w4 : wrap64 (3 + 1) = 4 := by unfold wrap64; omega
  have w5 : wrap64 (4 + 1) = 5 := by unfold wrap64; omega
  have w6 : wrap64 (5 + 1) = 6 := by unfold wrap64; omega
  refine Ev.succ ?_
  simp only [spec_l01Symbol.l0, bs0]
  by_cases h0 : b = 40
  · subst h0; exact Ev.done rfl
  rw [if_neg h0]
  simp only [if_neg (Ne.symm h0), w1]
  refine Ev.succ ?_
  simp only [spec_l01Symbol.l0, bs1]
  by_cases h0 : b = 91
  · subst h0; exact Ev.done rfl
  rw [if_neg h0]
  simp only [if_neg (Ne.symm h0), w2]
  refine Ev.succ ?_
  simp only [spec_l01Symbol.l0, bs2]
  by_cases h0 : b = 41
  · subst h0; exact Ev.done rfl
  rw [if_neg h0]
  simp only [if_neg (Ne.symm h0), w3]
  refine Ev.succ ?_
  simp only [spec_l01Symbol.l0, bs3]
  by_cases h0 : b = 93
  · subst h0; exact Ev.done rfl
  rw [if_neg h0]
  simp only [if_neg (Ne.symm h0), w4]
  refine Ev.succ ?_
  simp only [spec_l01Symbol.l0, bs4]
  by_cases h0 : b = 97
  · subst h0; exact Ev.done rfl
  rw [if_neg h0]
  simp only [if_neg (Ne.symm h0), w5]
  refine Ev.succ ?_
  simp only [spec_l01Symbol.l0, bs5]
  by_cases h0 : b = 98
  · subst h0; exact Ev.done rfl
  rw [if_neg h0]
  simp only [if_neg (Ne.symm h0), w6]
  refine Ev.succ ?_
  simp only [spec_l01Symbol.l0]
  exact Ev.done rfl

theorem index_eq {b : Int} (h0 : 0 ≤ b) (h1 : b ≤ 255) : strings_IndexByte.f (⟨#[40, 91, 41, 93, 97, 98]⟩ : ByteArray) b = some (sym b) := by
  obtain ⟨n, rfl⟩ := Int.eq_ofNat_of_zero_le h0
  have hn : n < 256 := by omega
  clear h0 h1
  unfold strings_IndexByte.f
  congr 1
  have key : ∀ n : Fin 256, Lib.indexByte (⟨#[40, 91, 41, 93, 97, 98]⟩ : ByteArray).data.toList ((n.val : Int).toNat.toUInt8) = sym (n.val : Int) := by decide +kernel
  exact key ⟨n, hn⟩

theorem specOk_loop (a : ByteArray) (hn : a.size ≤ 1048576) : ∀ d i : Nat, i + d = a.size →
    Ev (fun k => spec_l01Ok.l0 k a i) (allFrom (fun j => decide (0 ≤ sym (bt a j))) d i && decide ((a.size : Int) ≤ 60)) := by
  intro d
  induction d with
  | zero =>
    intro i hi
    refine Ev.succ ?_
    simp only [spec_l01Ok.l0, if_neg (show ¬ (i : Int) < (a.size : Int) by omega), allFrom, Bool.true_and]
    exact Ev.done rfl
  | succ d ih =>
    intro i hi
    refine Ev.succ ?_
    simp only [spec_l01Ok.l0, if_pos (show (i : Int) < (a.size : Int) by omega), if_pos (show (0 : Int) ≤ (i : Int) by omega), allFrom]
    refine Ev.bind (symbol_ev _) ?_
    rw [w64 (by omega) (by omega)]
    by_cases h : sym (bt a i) < 0
    · simp only [if_pos h]
      exact Ev.done (by simp; omega)
    · simp only [if_neg h]
      have := ih (i + 1) (by omega)
      simpa [show 0 ≤ sym (bt a i) by omega] using this

theorem specOk_ev (a : ByteArray) (hn : a.size ≤ 1048576) : Ev (fun k => spec_l01Ok.f k a) (okw a) := specOk_loop a hn a.size 0 (by omega)

theorem valid_loop (a : ByteArray) (hn : a.size ≤ 1048576) : ∀ d i : Nat, i + d = a.size →
    Ev (fun k => impl_ValidWord.l0 k a a.size i) (allFrom (fun j => decide (0 ≤ sym (bt a j))) d i && decide ((a.size : Int) ≤ 60)) := by
  intro d
  induction d with
  | zero =>
    intro i hi
    refine Ev.succ ?_
    simp only [impl_ValidWord.l0, if_neg (show ¬ (i : Int) < (a.size : Int) by omega), allFrom, Bool.true_and]
    exact Ev.done rfl
  | succ d ih =>
    intro i hi
    refine Ev.succ ?_
    have hb := bt_range a i
    simp only [impl_ValidWord.l0, if_pos (show (i : Int) < (a.size : Int) by omega), if_pos (show (0 : Int) ≤ (i : Int) by omega), allFrom, index_eq hb.1 hb.2, Option.bind_some]
    rw [w64 (by omega) (by omega)]
    by_cases h : sym (bt a i) < 0
    · simp only [if_pos h]
      exact Ev.done (by simp; omega)
    · simp only [if_neg h]
      have := ih (i + 1) (by omega)
      simpa [show 0 ≤ sym (bt a i) by omega] using this

theorem valid_ev (a : ByteArray) (hn : a.size ≤ 1048576) : Ev (fun k => impl_ValidWord.f k a) (okw a) := valid_loop a hn a.size 0 (by omega)

end Go.Proofs.Yteeplponconnjaa.Br
namespace Go.Proofs.Yteeplponconnjaa.Br
open Go.RowKit Go.Proofs.Yteeplponconnjaa.P Go.Proofs.YteeplponconnjaaW.PrintWords Go.Proofs.YteeplponconnjaaW.PrintLast Go.Proofs.YteeplponconnjaaW.PrintMore Go.Proofs.Yteeplponconnjaa.Th
set_option linter.unusedVariables false
set_option linter.unusedSimpArgs false
theorem isReturn_eq (b : Int) : impl_isReturn.f b = some (isR b) := by
  unfold impl_isReturn.f isR
  by_cases h : b = 41 <;> simp [h]
theorem isCall_eq (b : Int) : impl_isCall.f b = some (isC b) := by
  unfold impl_isCall.f isC
  by_cases h : b = 40 <;> simp [h]
theorem sReturn_eq (b : Int) : spec_l01Return.f b = some (isR b) := by
  unfold spec_l01Return.f isR
  by_cases h : b = 41 <;> simp [h]
theorem sCall_eq (b : Int) : spec_l01Call.f b = some (isC b) := by
  unfold spec_l01Call.f isC
  by_cases h : b = 40 <;> simp [h]

theorem rd_last {c : List Int} (h : c ≠ []) : rd c ((c.length : Int) - 1) = top c := by
  unfold rd top
  have : 0 < c.length := List.length_pos_iff.2 h
  rw [List.getLast?_eq_getElem?, List.getD_eq_getElem?_getD, show ((c.length : Int) - 1).toNat = c.length - 1 by omega, List.getElem?_eq_getElem (by omega)]
  rfl

theorem take_last {c : List Int} : c.take ((c.length : Int) - 1).toNat = c.dropLast := by
  rw [List.dropLast_eq_take, show ((c.length : Int) - 1).toNat = c.length - 1 by omega]

end Go.Proofs.Yteeplponconnjaa.Br
namespace Go.Proofs.Yteeplponconnjaa.Br
open Go.RowKit Go.Proofs.Yteeplponconnjaa.P Go.Proofs.YteeplponconnjaaW.PrintWords Go.Proofs.YteeplponconnjaaW.PrintLast Go.Proofs.YteeplponconnjaaW.PrintMore Go.Proofs.Yteeplponconnjaa.Th
set_option linter.unusedVariables false
set_option linter.unusedSimpArgs false
theorem partners_loop (a : ByteArray) (hn : a.size ≤ 1048576) : ∀ d i : Nat, i + d = a.size →
    Ev (fun k => spec_l01Partners.l0 k a (st (bt a) i).p (st (bt a) i).c i) (st (bt a) a.size).p := by
  intro d
  induction d with
  | zero =>
    intro i hi
    obtain rfl : i = a.size := by omega
    refine Ev.succ ?_
    simp only [spec_l01Partners.l0, if_neg (show ¬ (a.size : Int) < (a.size : Int) by omega)]
    exact Ev.now _
  | succ d ih =>
    intro i hi
    have B := basic (bt a) i
    have hnext := ih (i + 1) (by omega)
    have hst : st (bt a) (i + 1) = Th.step (st (bt a) i) i (bt a i) := rfl
    rw [hst] at hnext
    obtain ⟨lp, lq, ld, lr, lc, hc, hr⟩ := B
    generalize st (bt a) i = s at *
    refine Ev.succ ?_
    simp only [spec_l01Partners.l0, if_pos (show (i : Int) < (a.size : Int) by omega), if_pos (show (0 : Int) ≤ (i : Int) by omega), sCall_eq, sReturn_eq, Option.bind_some]
    by_cases hC : isC (bt a i) = true
    · have hR : isR (bt a i) = false := by
        cases h : isR (bt a i) with
        | false => rfl
        | true => rw [isR_notC h] at hC; cases hC
      simp only [hC, if_true]
      rw [w64 (by omega) (by omega)]
      simp only [if_pos (show s.p.length < 17592186044416 by omega), if_pos (show s.c.length < 17592186044416 by omega)]
      simp only [Th.step, hR, Bool.false_eq_true, if_false, hC, if_true] at hnext
      exact hnext
    · have hC' : isC (bt a i) = false := by simpa using hC
      simp only [hC', Bool.false_eq_true, if_false]
      by_cases hR : isR (bt a i) = true
      · simp only [hR, if_true]
        refine Ev.succ ?_
        simp only [spec_l01Partners.j1]
        by_cases he : s.c = []
        · simp only [he, List.length_nil, show decide (((0 : Nat) : Int) > 0) = false by decide, Bool.false_eq_true, if_false, if_pos (show (i : Int) < (a.size : Int) by omega), if_pos (show (0 : Int) ≤ (i : Int) by omega), sReturn_eq, Option.bind_some, hR, if_true, if_pos (show s.p.length < 17592186044416 by omega)]
          rw [w64 (by omega) (by omega)]
          simp only [Th.step, hR, if_true, he] at hnext
          exact hnext
        · have hl : 0 < s.c.length := List.length_pos_iff.2 he
          have ht := hc _ (top_mem he)
          rw [w64 (show -9223372036854775808 ≤ (s.c.length : Int) - 1 by omega) (by omega), w64 (by omega) (by omega)]
          simp only [show decide ((s.c.length : Int) > 0) = true by simp; omega, if_true, Option.bind_some,
            if_pos (show 0 ≤ (s.c.length : Int) - 1 by omega), if_pos (show (s.c.length : Int) - 1 < (s.c.length : Int) by omega), rd_last he, if_pos ht.1, if_pos (show top s.c < (s.p.length : Int) by omega), if_pos (show (s.c.length : Int) - 1 ≤ (s.c.length : Int) by omega), take_last, List.length_set, if_pos (show s.p.length < 17592186044416 by omega)]
          simp only [Th.step, hR, if_true, if_neg he] at hnext
          exact hnext
      · have hR' : isR (bt a i) = false := by simpa using hR
        simp only [hR', Bool.false_eq_true, if_false]
        refine Ev.succ ?_
        simp only [spec_l01Partners.j1, Bool.false_eq_true, if_false, if_pos (show (i : Int) < (a.size : Int) by omega), if_pos (show (0 : Int) ≤ (i : Int) by omega), sReturn_eq, Option.bind_some, hR', if_pos (show s.p.length < 17592186044416 by omega)]
        rw [w64 (by omega) (by omega)]
        simp only [Th.step, hR', Bool.false_eq_true, if_false, hC'] at hnext
        exact hnext

theorem partners_ev (a : ByteArray) (hn : a.size ≤ 1048576) : Ev (fun k => spec_l01Partners.f k a) (st (bt a) a.size).p := partners_loop a hn a.size 0 (by omega)

theorem g_rd (l : List Int) (i : Nat) : rd l i = g l i := by unfold rd g; simp

end Go.Proofs.Yteeplponconnjaa.Br
namespace Go.Proofs.Yteeplponconnjaa.Th

/-- What is open at a place, behind its own return. -/
def opn (b : Int → Int) (i : Nat) : List Int := if isR (b i) = true then (st b i).c.dropLast else (st b i).c

theorem step_q (b : Int → Int) (i : Nat) : (st b (i + 1)).q = (st b i).q ++ [top (opn b i)] := by
  show (step (st b i) i (b i)).q = _
  unfold step opn
  by_cases hR : isR (b i) = true
  · by_cases he : (st b i).c = []
    · simp only [hR, if_true, he]
      rfl
    · simp only [hR, if_true, if_neg he]
  · by_cases hC : isC (b i) = true
    · simp only [hR, hC, if_true]
      rfl
    · simp only [hR, hC]
      rfl

theorem q_stable (b : Int → Int) (i : Nat) : ∀ d, g (st b (i + 1 + d)).q i = g (st b (i + 1)).q i
  | 0 => rfl
  | d + 1 => by
    have h := q_stable b i d
    rw [← h]
    show g (st b ((i + 1 + d) + 1)).q i = _
    rw [step_q, g_append_left]
    rw [(basic b (i + 1 + d)).lq]; omega

theorem opn_mem (b : Int → Int) (i : Nat) (k : Nat) (hk : k < i) : (k : Int) ∈ opn b i ↔ (k : Int) ∈ (st b (i + 1)).c := by
  show _ ↔ (k : Int) ∈ (step (st b i) i (b i)).c
  unfold opn step
  by_cases hR : isR (b i) = true
  · by_cases he : (st b i).c = []
    · simp [hR, he]
    · simp [hR, he]
  · by_cases hC : isC (b i) = true
    · simp only [hR, hC, if_true]
      simp
      omega
    · simp [hR, hC]

theorem opn_inc (b : Int → Int) (i : Nat) : (opn b i).Pairwise (· < ·) := by
  have h := (List.pairwise_append.1 (inv b i).inc).2.1
  unfold opn
  split
  · exact h.sublist (List.dropLast_sublist _)
  · exact h

theorem opn_lt (b : Int → Int) (i : Nat) : ∀ x ∈ opn b i, 0 ≤ x ∧ x < i := by
  intro x hx
  refine (basic b i).hc x ?_
  unfold opn at hx
  split at hx
  · exact List.dropLast_subset _ hx
  · exact hx

theorem opn_sel (b : Int → Int) {i n : Nat} (hi : i < n) : opn b i = sel (fun k => isC (b k) && (g (st b n).p k == -2 || decide ((i : Int) < g (st b n).p k))) i := by
  refine inc_ext (opn_inc b i) (sel_inc i) fun x => ?_
  rw [mem_sel]
  constructor
  · intro hx
    obtain ⟨h0, h1⟩ := opn_lt b i x hx
    obtain ⟨k, rfl⟩ := Int.eq_ofNat_of_zero_le h0
    have hk : k < i := by omega
    refine ⟨k, hk, rfl, ?_⟩
    have := (onstack b (i + 1) n (by omega) k (by omega)).1 ((opn_mem b i k hk).1 hx)
    obtain ⟨a1, a2⟩ := this
    simp only [a1, Bool.true_and, Bool.or_eq_true, beq_iff_eq, decide_eq_true_eq]
    rcases a2 with a2 | a2
    · exact Or.inl a2
    · right; omega
  · rintro ⟨k, hk, rfl, h⟩
    simp only [Bool.and_eq_true, Bool.or_eq_true, beq_iff_eq, decide_eq_true_eq] at h
    refine (opn_mem b i k hk).2 ((onstack b (i + 1) n (by omega) k (by omega)).2 ⟨h.1, ?_⟩)
    rcases h.2 with a2 | a2
    · exact Or.inl a2
    · right; omega

theorem parents_eq (b : Int → Int) {i n : Nat} (hi : i < n) : g (st b n).q i = top (sel (fun k => isC (b k) && (g (st b n).p k == -2 || decide ((i : Int) < g (st b n).p k))) i) := by
  obtain ⟨d, rfl⟩ := Nat.exists_eq_add_of_le (show i + 1 ≤ n by omega)
  rw [q_stable, step_q, g_append_end (basic b i).lq.symm, opn_sel b hi]

theorem top_snoc (l : List Int) (x : Int) : top (l ++ [x]) = x := by unfold top; simp

end Go.Proofs.Yteeplponconnjaa.Th
namespace Go.Proofs.Yteeplponconnjaa.Br
open Go.RowKit Go.Proofs.Yteeplponconnjaa.P Go.Proofs.YteeplponconnjaaW.PrintWords Go.Proofs.YteeplponconnjaaW.PrintLast Go.Proofs.YteeplponconnjaaW.PrintMore Go.Proofs.Yteeplponconnjaa.Th
set_option linter.unusedVariables false
set_option linter.unusedSimpArgs false
theorem parents_in (a : ByteArray) (hn : a.size ≤ 1048576) (p : List Int) (hp : p.length = a.size) (i : Nat) (hi : i < a.size) (x4 : List Int) (R : List Int) (hx : x4.length < 17592186044416)
    (h : Ev (fun k => spec_l01Parents.l0 k a p (x4 ++ [top (sel (fun k => isC (bt a k) && (g p k == -2 || decide ((i : Int) < g p k))) i)]) ((i + 1 : Nat) : Int)) R) : ∀ d j : Nat, j + d = i →
    Ev (fun k => spec_l01Parents.l1 k a p x4 i (top (sel (fun k => isC (bt a k) && (g p k == -2 || decide ((i : Int) < g p k))) j)) j) R := by
  intro d
  induction d with
  | zero =>
    intro j hj
    obtain rfl : j = i := by omega
    have f3 : wrap64 ((j : Int) + 1) = ((j + 1 : Nat) : Int) := by rw [w64 (by omega) (by omega)]; push_cast; rfl
    refine Ev.succ ?_
    simp only [spec_l01Parents.l1, if_neg (show ¬ (j : Int) < (j : Int) by omega), if_pos hx, f3]
    exact h
  | succ d ih =>
    intro j hj
    have hnext := ih (j + 1) (by omega)
    have b1 : (j : Int) < (i : Int) := by omega
    have b2 : (0 : Int) ≤ (j : Int) := by omega
    have b3 : (j : Int) < (a.size : Int) := by omega
    have b4 : (j : Int) < (p.length : Int) := by omega
    have f3 : wrap64 ((j : Int) + 1) = ((j + 1 : Nat) : Int) := by rw [w64 (by omega) (by omega)]; push_cast; rfl
    refine Ev.succ ?_
    simp only [spec_l01Parents.l1, if_pos b1, if_pos b2, if_pos b3, if_pos b4, sCall_eq, Option.bind_some, g_rd, f3, gt_iff_lt]
    rw [sel] at hnext
    by_cases hC : isC (bt a j) = true
    · simp only [hC, if_true]
      by_cases h2 : g p j = -2
      · simp only [h2, if_true]
        simp only [hC, h2, BEq.rfl, Bool.true_or, Bool.and_self, if_true, top_snoc] at hnext
        exact hnext
      · simp only [h2, if_false]
        by_cases h3 : (i : Int) < g p j
        · simp only [h3, if_true]
          simp only [hC, h3, decide_true, Bool.or_true, Bool.and_self, if_true, top_snoc] at hnext
          exact hnext
        · simp only [h3, if_false]
          simp only [hC, beq_eq_false_iff_ne.2 h2, h3, decide_false, Bool.or_self, Bool.and_false, Bool.false_eq_true, if_false] at hnext
          exact hnext
    · simp only [hC, if_false]
      simp only [hC, Bool.false_and, Bool.false_eq_true, if_false] at hnext
      exact hnext

theorem parents_loop (a : ByteArray) (hn : a.size ≤ 1048576) : ∀ d i : Nat, i + d = a.size →
    Ev (fun k => spec_l01Parents.l0 k a (st (bt a) a.size).p ((st (bt a) a.size).q.take i) i) (st (bt a) a.size).q := by
  have B := basic (bt a) a.size
  intro d
  induction d with
  | zero =>
    intro i hi
    obtain rfl : i = a.size := by omega
    refine Ev.succ ?_
    simp only [spec_l01Parents.l0, if_neg (show ¬ (a.size : Int) < (a.size : Int) by omega)]
    exact Ev.done (by rw [List.take_of_length_le (by have := B.lq; omega)])
  | succ d ih =>
    intro i hi
    have hnext := ih (i + 1) (by omega)
    have b1 : (i : Int) < (a.size : Int) := by omega
    refine Ev.succ ?_
    simp only [spec_l01Parents.l0, if_pos b1]
    refine parents_in a hn _ B.lp i (by omega) _ _ (by rw [List.length_take, B.lq]; omega) ?_ i 0 (Nat.zero_add _)
    rw [← parents_eq (bt a) (show i < a.size by omega)]
    have : (st (bt a) a.size).q.take i ++ [g (st (bt a) a.size).q i] = (st (bt a) a.size).q.take (i + 1) := by
      have hl : i < (st (bt a) a.size).q.length := by rw [B.lq]; omega
      rw [List.take_succ_eq_append_getElem hl, g, List.getD_eq_getElem?_getD, List.getElem?_eq_getElem hl]
      rfl
    rw [this]
    exact hnext

theorem parents_ev (a : ByteArray) (hn : a.size ≤ 1048576) : Ev (fun k => spec_l01Parents.f k a) (st (bt a) a.size).q := by
  unfold spec_l01Parents.f
  refine Ev.bind (partners_ev a hn) ?_
  have := parents_loop a hn a.size 0 (Nat.zero_add _)
  simpa using this
theorem in_eq (a lo hi : Int) : spec_l00In.f a lo hi = some (decide (lo ≤ a ∧ a ≤ hi)) := by
  unfold spec_l00In.f
  by_cases h : a ≥ lo
  · rw [if_pos h]; congr 1; simp; omega
  · rw [if_neg h]; congr 1; simp; omega
theorem within_eq (a lo hi : Int) : impl_within.f a lo hi = some (decide (lo ≤ a ∧ a ≤ hi)) := by
  unfold impl_within.f
  by_cases h : a ≥ lo
  · rw [if_pos h]; congr 1; simp; omega
  · rw [if_neg h]; congr 1; simp; omega

end Go.Proofs.Yteeplponconnjaa.Br
namespace Go.Proofs.Yteeplponconnjaa.Br
open Go.RowKit Go.Proofs.Yteeplponconnjaa.P Go.Proofs.YteeplponconnjaaW.PrintWords Go.Proofs.YteeplponconnjaaW.PrintLast Go.Proofs.YteeplponconnjaaW.PrintMore Go.Proofs.Yteeplponconnjaa.Th
set_option linter.unusedVariables false
set_option linter.unusedSimpArgs false
/-- The greatest of some numbers and a first one. -/
def most (x : Int) (l : List Int) : Int := l.foldl mx x

end Go.Proofs.Yteeplponconnjaa.Br
namespace Go.Proofs.Yteeplponconnjaa.Br
open Go.RowKit Go.Proofs.Yteeplponconnjaa.P Go.Proofs.YteeplponconnjaaW.PrintWords Go.Proofs.YteeplponconnjaaW.PrintLast Go.Proofs.YteeplponconnjaaW.PrintMore Go.Proofs.Yteeplponconnjaa.Th
set_option linter.unusedVariables false
set_option linter.unusedSimpArgs false
/-- Is a text a test. -/
def tst (l : List UInt8) : Bool := l == [40] || l == [91] || l == [97] || l == [98] || l == [42] || l == [46]

theorem toList_len (a : ByteArray) : a.toList.length = a.size := by rw [Lib.toList_data]; simp
theorem toList_one {a : ByteArray} (h : a.size = 1) : ∃ c : UInt8, a = ⟨#[c]⟩ ∧ a.toList = [c] := by
  obtain ⟨⟨l⟩⟩ := a
  match l, h with
  | [c], _ => exact ⟨c, rfl, by rw [Lib.toList_data]⟩

theorem sTest_eq (a : ByteArray) : spec_l05Test.f a = some (tst a.toList) := by
  unfold spec_l05Test.f tst
  by_cases h1 : a.toList = [40]
  · simp [h1]
  · by_cases h2 : a.toList = [91]
    · simp [h2]
    · by_cases h3 : a.toList = [97]
      · simp [h3]
      · by_cases h4 : a.toList = [98]
        · simp [h4]
        · by_cases h5 : a.toList = [42]
          · simp [h5]
          · simp [h1, h2, h3, h4, h5]

theorem iTest_eq (a : ByteArray) : impl_isTest.f a = some (tst a.toList) := by
  unfold impl_isTest.f
  by_cases h : a.size = 1
  · obtain ⟨c, rfl, hl⟩ := toList_one h
    rw [if_pos (by rw [h]; rfl)]
    unfold strings_Contains.f
    rw [if_pos h, hl]
    simp only [Option.bind_some]
    congr 1
    show decide (0 ≤ Lib.indexByte [40, 91, 97, 98, 42, 46] c) = tst [c]
    have key : ∀ n : Fin 256, decide (0 ≤ Lib.indexByte [40, 91, 97, 98, 42, 46] (UInt8.ofNat n.val)) = tst [UInt8.ofNat n.val] := by decide +kernel
    have := key ⟨c.toNat, c.toNat_lt⟩
    simpa using this
  · rw [if_neg (by omega)]
    have hl := toList_len a
    unfold tst
    have : ∀ x : UInt8, (a.toList == [x]) = false := by
      intro x
      rw [beq_eq_false_iff_ne]
      intro e
      rw [e] at hl
      simp at hl
      omega
    simp [this]

theorem isInner_eq (b : Int) : impl_isInner.f b = some (b == 97 || b == 98) := by
  unfold impl_isInner.f
  by_cases h : b = 97 <;> simp [h]

/-- Does a symbol pass a test. -/
def pss (l : List UInt8) (b : Int) : Bool := if l = [42] then isC b else if l = [46] then b == 97 || b == 98 else ((l.headD 0).toNat : Int) == b

theorem sPasses_eq (a : ByteArray) (h : a.size = 1) (b : Int) (h0 : 0 ≤ b) (h1 : b ≤ 255) : spec_l05Passes.f a b = some (pss a.toList b) := by
  obtain ⟨c, rfl, hl⟩ := toList_one h
  unfold spec_l05Passes.f pss
  rw [hl]
  by_cases h2 : [c] = [(42 : UInt8)]
  · rw [if_pos h2, if_pos h2, sCall_eq]; rfl
  · rw [if_neg h2, if_neg h2]
    by_cases h3 : [c] = [(46 : UInt8)]
    · rw [if_pos h3, if_pos h3]
      by_cases h4 : b = 97 <;> simp [h4]
    · rw [if_neg h3, if_neg h3, Lib.toList_data]
      congr 1
      obtain ⟨n, rfl⟩ := Int.eq_ofNat_of_zero_le h0
      show ([c] == [UInt8.ofNat n]) = _
      have hn : n < 256 := by omega
      have e1 : (c == UInt8.ofNat n) = ((c.toNat : Int) == (n : Int)) := by
        rw [Bool.eq_iff_iff]
        simp only [beq_iff_eq]
        constructor
        · rintro rfl
          simp
          omega
        · intro e
          have : c.toNat = n := by exact_mod_cast e
          rw [← this]
          simp
      simpa using e1
theorem iPasses_eq (a : ByteArray) (h : a.size = 1) (b : Int) : impl_passes.f a b = some (pss a.toList b) := by
  obtain ⟨c, rfl, hl⟩ := toList_one h
  unfold impl_passes.f pss
  rw [hl]
  by_cases h2 : [c] = [(42 : UInt8)]
  · rw [if_pos h2, if_pos h2, isCall_eq]; rfl
  · rw [if_neg h2, if_neg h2]
    by_cases h3 : [c] = [(46 : UInt8)]
    · rw [if_pos h3, if_pos h3, isInner_eq]; rfl
    · rw [if_neg h3, if_neg h3, if_pos (by rw [h]; decide)]
      congr 1

theorem tst_size {a : ByteArray} (h : tst a.toList = true) : a.size = 1 := by
  have hl := toList_len a
  unfold tst at h
  simp only [Bool.or_eq_true, beq_iff_eq] at h
  rcases h with ((((h | h) | h) | h) | h) | h <;> rw [h] at hl <;> exact hl.symm

end Go.Proofs.Yteeplponconnjaa.Br
namespace Go.Proofs.Yteeplponconnjaa.Br
open Go.RowKit Go.Proofs.Yteeplponconnjaa.P Go.Proofs.YteeplponconnjaaW.PrintWords Go.Proofs.YteeplponconnjaaW.PrintLast Go.Proofs.YteeplponconnjaaW.PrintMore Go.Proofs.Yteeplponconnjaa.Th
set_option linter.unusedVariables false
set_option linter.unusedSimpArgs false
theorem down {P : Nat → Prop} (n : Nat) (h0 : P n) (h1 : ∀ i, i < n → P (i + 1) → P i) : ∀ i, i ≤ n → P i := by
  have key : ∀ d i, i + d = n → P i := by
    intro d
    induction d with
    | zero => intro i hi; obtain rfl : i = n := by omega
              exact h0
    | succ d ih => intro i hi; exact h1 i (by omega) (ih (i + 1) (by omega))
  intro i hi
  exact key (n - i) i (by omega)
theorem up1 (i : Nat) (h : i < 9223372036854775807) : wrap64 ((i : Int) + 1) = ((i + 1 : Nat) : Int) := by
  rw [w64 (by omega) (by omega)]; rfl
theorem ilt {i n : Nat} (h : i < n) : (i : Int) < (n : Int) := by omega
theorem inlt {n : Nat} : ¬ ((n : Int) < (n : Int)) := by omega
theorem i0 (i : Nat) : 0 ≤ (i : Int) := by omega
theorem getD_mem {α : Type} (l : List α) (i : Nat) (d : α) (h : i < l.length) : l.getD i d ∈ l := by
  rw [List.getD_eq_getElem?_getD, List.getElem?_eq_getElem h]
  exact List.getElem_mem h
theorem take1 (a : Int) (n : Nat) (h0 : 0 ≤ a) (h1 : a ≤ 1048576) (hn : n ≤ 9223372036854775807) : wrap64 (a - (n : Int)) = a - (n : Int) := w64 (by omega) (by omega)

/-! ### loops, plainly -/
end Go.Proofs.Yteeplponconnjaa.Br
namespace Go.Proofs.Yteeplponconnjaa.Br
open Go.RowKit Go.Proofs.Yteeplponconnjaa.P Go.Proofs.YteeplponconnjaaW.PrintWords Go.Proofs.YteeplponconnjaaW.PrintLast Go.Proofs.YteeplponconnjaaW.PrintMore Go.Proofs.Yteeplponconnjaa.Th
set_option linter.unusedVariables false
set_option linter.unusedSimpArgs false

/-! ### laws' queries -/
theorem szQueryStep_ev (b : Bool) (s : ByteArray) (a : Int) (h0 : 0 ≤ a) (h1 : a ≤ 1048576) (hs : s.size ≤ 9223372036854775807) :
    ∃ r, laws_szQueryStep.f b s a = some r ∧ (r < 0 ∨ (0 ≤ r ∧ r ≤ a ∧ (s.size : Int) ≤ 1048576)) := by
  unfold laws_szQueryStep.f
  rw [take1 a _ h0 h1 hs]
  by_cases h : a - (s.size : Int) < 0
  · exact ⟨-1, by rw [if_pos h], .inl (by omega)⟩
  · exact ⟨_, by rw [if_neg h], .inr (by omega)⟩
theorem szQuery_ev (l : List S57) (a : Int) (h0 : 0 ≤ a) (h1 : a ≤ 1048576) (hl : l.length ≤ 9223372036854775807) (hs : ∀ x ∈ l, x.f1.size ≤ 9223372036854775807) :
    ∃ r, Ev (fun k => laws_szQuery.f k l a) r ∧ (r < 0 ∨ (0 ≤ r ∧ r ≤ a ∧ (l.length : Int) ≤ 1048576 ∧ ∀ x ∈ l, (x.f1.size : Int) ≤ 1048576)) := by
  have loop : ∀ i, i ≤ l.length → ∀ c, 0 ≤ c → c ≤ 1048576 → ∃ r, Ev (fun k => laws_szQueryStepS.l0 k l c i) r ∧ (r < 0 ∨ (0 ≤ r ∧ r ≤ c ∧ ∀ j, i ≤ j → j < l.length → ((l.getD j z57).f1.size : Int) ≤ 1048576)) := by
    refine down l.length ?_ ?_
    · intro c hc _
      refine ⟨c, Ev.succ ?_, .inr ⟨hc, by omega, fun j h1 h2 => by omega⟩⟩
      simp only [laws_szQueryStepS.l0, if_neg inlt]
      exact Ev.now _
    · intro i hi ih c hc hc2
      have hm := getD_mem l i z57 hi
      obtain ⟨r, hr, hr2⟩ := szQueryStep_ev (l.getD i z57).f0 (l.getD i z57).f1 c hc hc2 (hs _ hm)
      by_cases hneg : r < 0
      · refine ⟨-1, Ev.succ ?_, .inl (by omega)⟩
        simp only [laws_szQueryStepS.l0, if_pos (ilt hi), if_pos (i0 i), rd_T57, Int.toNat_natCast, hr, Option.bind_some, if_pos hneg]
        exact Ev.now _
      · obtain ⟨q, hq, hq2⟩ := ih r (by omega) (by omega)
        refine ⟨q, Ev.succ ?_, ?_⟩
        · simp only [laws_szQueryStepS.l0, if_pos (ilt hi), if_pos (i0 i), rd_T57, Int.toNat_natCast, hr, Option.bind_some, if_neg hneg, up1 i (by omega)]
          exact hq
        · rcases hq2 with hq2 | ⟨q0, q1, q2⟩
          · exact .inl hq2
          · refine .inr ⟨q0, by omega, fun j hj1 hj2 => ?_⟩
            by_cases e : j = i
            · subst e; omega
            · exact q2 j (by omega) hj2
  unfold laws_szQuery.f laws_szQueryStepS.f
  rw [take1 a _ h0 h1 hl]
  by_cases h : a - (l.length : Int) < 0
  · exact ⟨-1, by simp only [if_pos h, Option.bind_some, show ((-1 : Int) < 0) = True from eq_true (by decide), if_true]; exact Ev.now _, .inl (by omega)⟩
  · obtain ⟨r, hr, hr2⟩ := loop 0 (by omega) (a - (l.length : Int)) (by omega) (by omega)
    by_cases hneg : r < 0
    · exact ⟨-1, by simp only [if_neg h]; exact hr.bind (by simp only [if_pos hneg]; exact Ev.now _), .inl (by omega)⟩
    · refine ⟨r, by simp only [if_neg h]; exact hr.bind (by simp only [if_neg hneg]; exact Ev.now _), .inr ⟨by omega, by omega, by omega, fun x hx => ?_⟩⟩
      obtain ⟨j, hj⟩ := List.getElem?_of_mem hx
      rcases hr2 with h2 | ⟨_, _, h2⟩
      · omega
      · have hlt := (List.getElem?_eq_some_iff.1 hj).1
        have := h2 j (by omega) hlt
        rwa [List.getD_eq_getElem?_getD, hj] at this
/-- A law's query as9 the program's. -/
def toQ (l : List S57) : List S62 := l.map fun x => ⟨x.f0, x.f1⟩
theorem toQuery_ev (l : List S57) (hl : l.length ≤ 1048576) : Ev (fun k => laws_toQuery.f k l) (toQ l) := by
  have loop : ∀ i, i ≤ l.length → ∀ o : List S62, o.length = l.length → o.take i = (toQ l).take i → Ev (fun k => laws_toQueryStepS.l0 k l o i) (toQ l) := by
    refine down l.length ?_ ?_
    · intro o ho ht
      have : o = toQ l := by rw [← List.take_length (l := o), ho, ht, List.take_of_length_le (by simp [toQ])]
      refine Ev.succ ?_
      simp only [laws_toQueryStepS.l0, if_neg inlt]
      exact Ev.done (by rw [this])
    · intro i hi ih o ho ht
      refine Ev.succ ?_
      simp only [laws_toQueryStepS.l0, if_pos (ilt hi), if_pos (i0 i), rd_T57, Int.toNat_natCast, laws_toQueryStep.f, Option.bind_some, if_pos (ilt (show i < o.length by omega)), up1 i (by omega)]
      refine ih _ (by simpa using ho) ?_
      rw [List.take_add_one, List.take_add_one, List.take_set_of_le (by omega), ht]
      have e1 : (o.set i (⟨(l.getD i z57).f0, (l.getD i z57).f1⟩ : S62))[i]? = some ⟨(l.getD i z57).f0, (l.getD i z57).f1⟩ := by
        rw [List.getElem?_set_self (by omega)]
      have e2 : (toQ l)[i]? = some ⟨(l.getD i z57).f0, (l.getD i z57).f1⟩ := by
        unfold toQ
        rw [List.getElem?_map, List.getElem?_eq_getElem hi, List.getD_eq_getElem?_getD, List.getElem?_eq_getElem hi]
        rfl
      rw [e1, e2]
  unfold laws_toQuery.f laws_toQueryStepS.f
  simp only [if_pos (i0 l.length), Int.toNat_natCast, if_pos (show l.length ≤ 11728124029610 by omega)]
  refine Ev.bind (loop 0 (by omega) _ (by simp) (by simp)) (Ev.now _)
theorem eqQuery_ev (l : List S62) (hl : l.length ≤ 1048576) : Ev (fun k => laws_eqQuery.f k l l) true := by
  have loop : ∀ i, i ≤ l.length → Ev (fun k => laws_eqQueryStepS.l0 k l l i) true := by
    refine down l.length ?_ ?_
    · refine Ev.succ ?_
      simp only [laws_eqQueryStepS.l0, if_neg inlt]
      exact Ev.now _
    · intro i hi ih
      refine Ev.succ ?_
      simp only [laws_eqQueryStepS.l0, if_pos (ilt hi), if_pos (i0 i), laws_eqQueryStep.f, bne_self_eq_false, Bool.false_eq_true, if_false, if_true, Option.bind_some, up1 i (by omega)]
      exact ih
  unfold laws_eqQuery.f laws_eqQueryStepS.f
  simp only [if_true]
  exact Ev.bind (loop 0 (by omega)) (by simp only [if_true]; exact Ev.now _)
theorem toQ_length (l : List S57) : (toQ l).length = l.length := by simp [toQ]
end Go.Proofs.Yteeplponconnjaa.Br
namespace Go.Proofs.Yteeplponconnjaa.Br
open Go.RowKit Go.Proofs.Yteeplponconnjaa.P Go.Proofs.YteeplponconnjaaW.PrintWords Go.Proofs.YteeplponconnjaaW.PrintLast Go.Proofs.YteeplponconnjaaW.PrintMore Go.Proofs.Yteeplponconnjaa.Th
set_option linter.unusedVariables false
set_option linter.unusedSimpArgs false
theorem drop_all {α : Type} (l : List α) (p : α → Bool) (i : Nat) (d : α) (h : i < l.length) : (l.drop i).all p = (p (l.getD i d) && (l.drop (i + 1)).all p) := by
  rw [List.drop_eq_getElem_cons h, List.all_cons, List.getD_eq_getElem?_getD, List.getElem?_eq_getElem h]
  rfl
theorem drop_end {α : Type} (l : List α) : l.drop l.length = [] := List.drop_length
def tstS (x : S62) : Bool := tst x.f1.toList
def okQ (l : List S62) : Bool := l.all tstS && decide (1 ≤ (l.length : Int) ∧ (l.length : Int) ≤ 6)
theorem specOkQ_ev (l : List S62) (hl : l.length ≤ 1048576) : Ev (fun k => spec_l05Ok.f k l) (okQ l) := by
  have loop : ∀ i, i ≤ l.length → Ev (fun k => spec_l05Ok.l0 k i l) ((l.drop i).all tstS && decide (1 ≤ (l.length : Int) ∧ (l.length : Int) ≤ 6)) := by
    refine down l.length ?_ ?_
    · refine Ev.succ ?_
      simp only [spec_l05Ok.l0, if_neg inlt, in_eq, Option.bind_some, drop_end, List.all_nil, Bool.true_and]
      exact Ev.now _
    · intro i hi ih
      refine Ev.succ ?_
      simp only [spec_l05Ok.l0, if_pos (ilt hi), if_pos (i0 i), rd_T62, Int.toNat_natCast, sTest_eq, Option.bind_some, up1 i (by omega)]
      rw [drop_all l tstS i z62 hi]
      by_cases e : tst (l.getD i z62).f1.toList = true
      · simp only [if_pos e, show tstS (l.getD i z62) = true from e, Bool.true_and]
        exact ih
      · simp only [if_neg e, show tstS (l.getD i z62) = false from by simpa [tstS] using e, Bool.false_and]
        exact Ev.now _
  exact loop 0 (by omega)
theorem implValidQ_ev (l : List S62) (hl : l.length ≤ 1048576) : Ev (fun k => impl_ValidQuery.f k l) (okQ l) := by
  have loop : ∀ i, i ≤ l.length → ∃ r : Int, Ev (fun k => slices_IndexFunc_Limpl_QueryStep_impl_QueryStep_at_impl_ValidQuery_1.l0 k l (l.length : Int) i) r ∧ ((l.drop i).all tstS = !(decide (r ≥ 0))) := by
    refine down l.length ?_ ?_
    · refine ⟨-1, Ev.succ ?_, by rw [drop_end]; rfl⟩
      simp only [slices_IndexFunc_Limpl_QueryStep_impl_QueryStep_at_impl_ValidQuery_1.l0, if_neg inlt]
      exact Ev.now _
    · intro i hi ih
      obtain ⟨r, hr, he⟩ := ih
      by_cases e : tst (l.getD i z62).f1.toList = true
      · refine ⟨r, Ev.succ ?_, ?_⟩
        · simp only [slices_IndexFunc_Limpl_QueryStep_impl_QueryStep_at_impl_ValidQuery_1.l0, if_pos (ilt hi), if_pos (i0 i), rd_T62, Int.toNat_natCast, impl_ValidQuery_1.f, iTest_eq, Option.bind_some, e, Bool.not_true, Bool.false_eq_true, if_false, up1 i (by omega)]
          exact hr
        · rw [drop_all l tstS i z62 hi, show tstS (l.getD i z62) = true from e, Bool.true_and, he]
      · have e' : tst (l.getD i z62).f1.toList = false := by simpa using e
        refine ⟨(i : Int), Ev.succ ?_, ?_⟩
        · simp only [slices_IndexFunc_Limpl_QueryStep_impl_QueryStep_at_impl_ValidQuery_1.l0, if_pos (ilt hi), if_pos (i0 i), rd_T62, Int.toNat_natCast, impl_ValidQuery_1.f, iTest_eq, Option.bind_some, e', Bool.not_false, if_true]
          exact Ev.now _
        · rw [drop_all l tstS i z62 hi, show tstS (l.getD i z62) = false from e', Bool.false_and]
          simp
  obtain ⟨r, hr, he⟩ := loop 0 (by omega)
  unfold impl_ValidQuery.f impl_size_impl_QueryStep.f okQ
  simp only [Option.bind_some, within_eq]
  by_cases h : 1 ≤ (l.length : Int) ∧ (l.length : Int) ≤ 6
  · simp only [decide_eq_true h, if_true, Bool.and_true]
    rw [List.drop_zero] at he
    rw [he]
    unfold slices_ContainsFunc_Limpl_QueryStep_impl_QueryStep_at_impl_ValidQuery_1.f slices_IndexFunc_Limpl_QueryStep_impl_QueryStep_at_impl_ValidQuery_1.f
    exact Ev.bind (Ev.bind hr (Ev.now _)) (Ev.now _)
  · simp only [decide_eq_false h, Bool.false_eq_true, if_false, Bool.and_false]
    exact Ev.now _
end Go.Proofs.Yteeplponconnjaa.Br
namespace Go.Proofs.Yteeplponconnjaa.Th

/-- What lies below an open call is what was open when it came. -/
theorem below_open (b : Int → Int) : ∀ (n : Nat) (l : List Int) (a : Nat) (r : List Int), (st b n).c = l ++ (a : Int) :: r → a < n ∧ isC (b a) = true ∧ (st b a).c = l := by
  intro n
  induction n with
  | zero => intro l a r h; simp [st] at h
  | succ n ih =>
    intro l a r h
    have hs : st b (n + 1) = step (st b n) n (b n) := rfl
    rw [hs] at h
    unfold step at h
    split at h
    · split at h
      · simp at h
      · rename_i h0
        have e : (st b n).c = l ++ (a : Int) :: (r ++ [top (st b n).c]) := by
          rw [← List.cons_append, ← List.append_assoc, ← h]
          exact (dropLast_top h0).symm
        obtain ⟨h1, h2, h3⟩ := ih l a _ e
        exact ⟨by omega, h2, h3⟩
    · split at h
      · rename_i hR hC
        simp only at h
        rcases List.eq_nil_or_concat r with rfl | ⟨r', x, rfl⟩
        · have e := List.append_inj' h rfl
          have ea : (n : Int) = (a : Int) := by simpa using e.2
          obtain rfl : n = a := by omega
          exact ⟨by omega, hC, e.1⟩
        · have e : (st b n).c ++ [(n : Int)] = (l ++ (a : Int) :: r') ++ [x] := by rw [h]; simp
          have e2 := List.append_inj' e rfl
          obtain ⟨h1, h2, h3⟩ := ih l a r' e2.1
          exact ⟨by omega, h2, h3⟩
      · obtain ⟨h1, h2, h3⟩ := ih l a r h
        exact ⟨by omega, h2, h3⟩

section
variable (deep : Nat → Bool) (pass : Nat → Int → Bool) (b : Int → Int)
/-- The steps that wait, the open calls given from the innermost on. -/
def nowR : List Int → Nat → Bool
  | [], j => j == 0
  | a :: r, j => (deep j && nowR r j) || (decide (0 < j) && nowR r (j - 1) && pass (j - 1) (b a))
/-- Place i can be the node of step j. -/
def mk (i j : Nat) : Bool := !isR (b i) && pass j (b i) && nowR deep pass b (st b i).c.reverse j
theorem now_zero : ∀ r, nowR deep pass b r 0 = (deep 0 || r.isEmpty)
  | [] => by simp [nowR]
  | a :: r => by rw [nowR, now_zero r]; cases deep 0 <;> simp
theorem isC_notR {x : Int} (h : isC x = true) : isR x = false := by
  unfold isC at h; unfold isR
  simp at h ⊢
  omega
/-- The mark of an open call that has s below it. -/
theorem mk_open {i : Nat} {p s : List Int} {a : Nat} (h : (st b i).c.reverse = p ++ (a : Int) :: s) (j : Nat) : mk deep pass b a j = (pass j (b a) && nowR deep pass b s j) := by
  have e : (st b i).c = s.reverse ++ (a : Int) :: p.reverse := by
    have := congrArg List.reverse h
    rw [List.reverse_reverse] at this
    rw [this]
    simp
  obtain ⟨-, h2, h3⟩ := below_open b i _ a _ e
  unfold mk
  rw [h3, List.reverse_reverse, isC_notR h2]
  rfl
theorem now_deep {j : Nat} (hj : 0 < j) (hd : deep j = true) : ∀ r, nowR deep pass b r j = true ↔ ∃ p a s, r = p ++ a :: s ∧ (pass (j - 1) (b a) && nowR deep pass b s (j - 1)) = true
  | [] => by
    have : (j == 0) = false := by simp; omega
    simp [nowR, this]
  | a :: r => by
    rw [nowR, hd, decide_eq_true hj, Bool.true_and, Bool.true_and, Bool.or_eq_true, now_deep hj hd r]
    constructor
    · rintro (⟨p, x, s, rfl, h⟩ | h)
      · exact ⟨a :: p, x, s, rfl, h⟩
      · exact ⟨[], a, r, rfl, by rw [Bool.and_comm]; exact h⟩
    · rintro ⟨p, x, s, e, h⟩
      cases p with
      | nil => cases e; exact Or.inr (by rw [Bool.and_comm]; exact h)
      | cons y p => cases e; exact Or.inl ⟨p, x, s, rfl, h⟩
/-- What the reference looks at: all open calls of a deep step, the innermost alone of another. -/
theorem now_ctx (i j : Nat) (hj : 0 < j) : nowR deep pass b (st b i).c.reverse j = if deep j = true then (st b i).c.reverse.any (fun a => mk deep pass b a.toNat (j - 1)) else (match (st b i).c.reverse with | [] => false | a :: _ => mk deep pass b a.toNat (j - 1)) := by
  have nat : ∀ x, x ∈ (st b i).c.reverse → ∃ a : Nat, x = (a : Int) := fun x hx => by
    have := ((basic b i).hc x (List.mem_reverse.1 hx)).1
    exact ⟨x.toNat, by omega⟩
  by_cases hd : deep j = true
  · rw [if_pos hd, Bool.eq_iff_iff, now_deep deep pass b hj hd, List.any_eq_true]
    constructor
    · rintro ⟨p, x, s, e, h⟩
      have hx : x ∈ (st b i).c.reverse := by rw [e]; simp
      obtain ⟨a, rfl⟩ := nat x hx
      exact ⟨_, hx, by rw [Int.toNat_natCast, mk_open deep pass b e]; exact h⟩
    · rintro ⟨x, hx, h⟩
      obtain ⟨a, rfl⟩ := nat x hx
      obtain ⟨p, s, e⟩ := List.append_of_mem hx
      rw [Int.toNat_natCast, mk_open deep pass b e] at h
      exact ⟨p, _, s, e, h⟩
  · rw [if_neg hd]
    rw [Bool.not_eq_true] at hd
    cases e : (st b i).c.reverse with
    | nil =>
      have : (j == 0) = false := by simp; omega
      simp [nowR, this]
    | cons x s =>
      obtain ⟨a, rfl⟩ := nat x (by rw [e]; simp)
      show nowR deep pass b ((a : Int) :: s) j = mk deep pass b (a : Int).toNat (j - 1)
      rw [Int.toNat_natCast, mk_open deep pass b (p := []) e, nowR, hd, decide_eq_true hj, Bool.false_and, Bool.false_or, Bool.true_and, Bool.and_comm]
/-- .. as9 a list, of m steps. -/
def nowL (m : Nat) (r : List Int) : List Int := ((List.range m).filter (nowR deep pass b r)).map (fun j : Nat => (j : Int))
theorem nowL_has {m j : Nat} (r : List Int) (h : j < m) : (nowL deep pass b m r).contains (j : Int) = nowR deep pass b r j := by
  rw [Bool.eq_iff_iff, List.contains_iff_mem]
  unfold nowL
  rw [List.mem_map]
  constructor
  · rintro ⟨x, hx, e⟩
    obtain rfl : x = j := by omega
    exact (List.mem_filter.1 hx).2
  · intro h2
    exact ⟨j, List.mem_filter.2 ⟨List.mem_range.2 h, h2⟩, rfl⟩
theorem nowL_nil {m : Nat} (h : 0 < m) : nowL deep pass b m [] = [0] := by
  unfold nowL
  obtain ⟨k, rfl⟩ : ∃ k, m = k + 1 := ⟨m - 1, by omega⟩
  rw [List.range_succ_eq_map, List.filter_cons, if_pos (by rfl)]
  have : List.filter (nowR deep pass b []) (List.map Nat.succ (List.range k)) = [] := by
    rw [List.filter_eq_nil_iff]
    intro x hx
    obtain ⟨y, -, rfl⟩ := List.mem_map.1 hx
    simp [nowR]
  rw [this]
  rfl
/-- The lists that lie below, the outermost first. -/
def stk (m : Nat) : List Int → List (List Int)
  | [] => []
  | _ :: s => stk m s ++ [nowL deep pass b m s]
theorem stk_len (m : Nat) : ∀ r, (stk deep pass b m r).length = r.length
  | [] => rfl
  | _ :: s => by rw [stk, List.length_append, stk_len m s]; rfl
/-- What a symbol makes of the open calls. -/
theorem open_call {i : Nat} (h : isC (b i) = true) : (st b (i + 1)).c.reverse = (i : Int) :: (st b i).c.reverse := by
  have hR : isR (b i) = false := isC_notR h
  show (step (st b i) i (b i)).c.reverse = _
  unfold step
  rw [if_neg (by rw [hR]; decide), if_pos h]
  simp
theorem open_ret {i : Nat} (h : isR (b i) = true) : (st b (i + 1)).c.reverse = (st b i).c.reverse.tail := by
  show (step (st b i) i (b i)).c.reverse = _
  unfold step
  rw [if_pos h]
  split
  · rename_i h0; rw [h0]; rfl
  · simp [List.tail_reverse]
theorem open_else {i : Nat} (h : isR (b i) = false) (h2 : isC (b i) = false) : (st b (i + 1)).c.reverse = (st b i).c.reverse := by
  show (step (st b i) i (b i)).c.reverse = _
  unfold step
  rw [if_neg (by rw [h]; decide), if_neg (by rw [h2]; decide)]
end
section
variable (b : Int → Int)
/-- The first of a list, -1 of none. -/
def hd : List Int → Int
  | [] => -1
  | x :: _ => x
theorem top_hd (c : List Int) : top c = hd c.reverse := by
  rcases List.eq_nil_or_concat c with rfl | ⟨l, x, rfl⟩
  · rfl
  · rw [List.concat_eq_append, top_snoc, List.reverse_append]; rfl
theorem opn_node {i : Nat} (h : isR (b i) = false) : opn b i = (st b i).c := by
  unfold opn
  rw [if_neg (by rw [h]; decide)]
/-- The parent of a node: the innermost open call. -/
theorem par_node {i n : Nat} (hi : i < n) (h : isR (b i) = false) : g (st b n).q i = hd (st b i).c.reverse := by
  obtain ⟨d, rfl⟩ := Nat.exists_eq_add_of_le (show i + 1 ≤ n by omega)
  rw [q_stable, step_q, g_append_end (basic b i).lq.symm, opn_node b h, top_hd]
/-- The parent of an open call: what lies below it. -/
theorem par_open {i n : Nat} (hi : i ≤ n) {p s : List Int} {a : Nat} (h : (st b i).c.reverse = p ++ (a : Int) :: s) : a < i ∧ g (st b n).q a = hd s := by
  have e : (st b i).c = s.reverse ++ (a : Int) :: p.reverse := by
    have := congrArg List.reverse h
    rw [List.reverse_reverse] at this
    rw [this]
    simp
  obtain ⟨h1, h2, h3⟩ := below_open b i _ a _ e
  refine ⟨h1, ?_⟩
  rw [par_node b (by omega) (isC_notR h2), h3, List.reverse_reverse]
end
end Go.Proofs.Yteeplponconnjaa.Th
namespace Go.Proofs.Yteeplponconnjaa.Br
open Go.RowKit Go.Proofs.Yteeplponconnjaa.P Go.Proofs.YteeplponconnjaaW.PrintWords Go.Proofs.YteeplponconnjaaW.PrintLast Go.Proofs.YteeplponconnjaaW.PrintMore Go.Proofs.Yteeplponconnjaa.Th
set_option linter.unusedVariables false
set_option linter.unusedSimpArgs false
def dpS (l : List S62) (j : Nat) : Bool := (l.getD j z62).f0
def psS (l : List S62) (j : Nat) (x : Int) : Bool := pss (l.getD j z62).f1.toList x
/-- The marks of place i. -/
def mkL (l : List S62) (b : Int → Int) (i : Nat) : List Bool := (List.range l.length).map (mk (dpS l) (psS l) b i)
/-- .. the first j of them. -/
def mkT (l : List S62) (b : Int → Int) (i j : Nat) : List Bool := (List.range l.length).map fun t => if t < j then mk (dpS l) (psS l) b i t else false
def ansL (l : List S62) (b : Int → Int) (n : Nat) : List Int := ((List.range n).filter fun i => mk (dpS l) (psS l) b i (l.length - 1)).map fun i : Nat => (i : Int)
theorem tst_one {a : ByteArray} (h : tst a.toList = true) : a.size = 1 := tst_size h
section
variable {l : List S62} (hq : okQ l = true)
include hq
theorem okQ_len : 1 ≤ l.length ∧ l.length ≤ 6 := by
  unfold okQ at hq
  rw [Bool.and_eq_true, decide_eq_true_eq] at hq
  omega
theorem okQ_size {j : Nat} (h : j < l.length) : (l.getD j z62).f1.size = 1 := by
  unfold okQ at hq
  rw [Bool.and_eq_true, List.all_eq_true] at hq
  exact tst_one (hq.1 _ (getD_mem l j z62 h))
theorem sPassQ {j : Nat} (h : j < l.length) (a : ByteArray) (i : Int) : spec_l05Passes.f (rd_T62 l (j : Int)).f1 (bt a i) = some (psS l j (bt a i)) := by
  unfold rd_T62 psS
  rw [Int.toNat_natCast]
  exact sPasses_eq _ (okQ_size hq h) _ (bt_range a i).1 (bt_range a i).2
theorem iPassQ {j : Nat} (h : j < l.length) (x : Int) : impl_passes.f (rd_T62 l (j : Int)).f1 x = some (psS l j x) := by
  unfold rd_T62 psS
  rw [Int.toNat_natCast]
  exact iPasses_eq _ (okQ_size hq h) _
end
theorem mkT_len (l : List S62) (b : Int → Int) (i j : Nat) : (mkT l b i j).length = l.length := by simp [mkT]
theorem mkT_zero (l : List S62) (b : Int → Int) (i : Nat) : mkT l b i 0 = List.replicate l.length false := by
  unfold mkT
  simp only [Nat.not_lt_zero, if_false]
  rw [List.map_const', List.length_range]
theorem mkT_end (l : List S62) (b : Int → Int) (i : Nat) : mkT l b i l.length = mkL l b i := by
  unfold mkT mkL
  exact List.map_congr_left (fun t ht => if_pos (List.mem_range.1 ht))
/-- One mark more. -/
theorem mkT_step (l : List S62) (b : Int → Int) (i j : Nat) (hj : j < l.length) (v : Bool) (hv : mk (dpS l) (psS l) b i j = v) : mkT l b i (j + 1) = if v = true then (mkT l b i j).set j true else mkT l b i j := by
  apply List.ext_getElem
  · split <;> simp [mkT]
  · intro t h1 h2
    rw [mkT_len] at h1
    have e1 : (mkT l b i (j + 1))[t]'(by rw [mkT_len]; exact h1) = (if t < j + 1 then mk (dpS l) (psS l) b i t else false) := by simp [mkT]
    have e2 : (mkT l b i j)[t]'(by rw [mkT_len]; exact h1) = (if t < j then mk (dpS l) (psS l) b i t else false) := by simp [mkT]
    rw [e1]
    by_cases e : t = j
    · subst e
      rw [if_pos (by omega), hv]
      cases v with
      | true => simp only [if_true, List.getElem_set_self]
      | false => simp only [Bool.false_eq_true, if_false]; rw [e2, if_neg (by omega)]
    · have e3 : (if t < j + 1 then mk (dpS l) (psS l) b i t else false) = (if t < j then mk (dpS l) (psS l) b i t else false) := by
        by_cases h : t < j
        · rw [if_pos h, if_pos (by omega)]
        · rw [if_neg h, if_neg (by omega)]
      rw [e3]
      cases v with
      | true => simp only [if_true]; rw [List.getElem_set_ne (by omega), e2]
      | false => simp only [Bool.false_eq_true, if_false]; rw [e2]
theorem rd_row (l : List S62) (b : Int → Int) (i t j : Nat) (ht : t < i) (hj : j < l.length) : rdOf false (rd_L6 ((List.range i).map (mkL l b)) (t : Int)) (j : Int) = mk (dpS l) (psS l) b t j := by
  unfold rdOf rd_L6
  rw [Int.toNat_natCast, Int.toNat_natCast, List.getD_eq_getElem?_getD, List.getD_eq_getElem?_getD, List.getElem?_map, List.getElem?_range ht]
  simp [mkL, hj]
theorem row_len (l : List S62) (b : Int → Int) (i t : Nat) (ht : t < i) : (rd_L6 ((List.range i).map (mkL l b)) (t : Int)).length = l.length := by
  unfold rd_L6
  rw [Int.toNat_natCast, List.getD_eq_getElem?_getD, List.getElem?_map, List.getElem?_range ht]
  simp [mkL]
theorem sNode_eq (x : Int) : spec_l05Node.f x = some (!isR x) := by
  unfold spec_l05Node.f
  rw [sReturn_eq]; rfl
section
variable {l : List S62} (hq : okQ l = true) (a : ByteArray) (hn : a.size ≤ 1048576)
include hq hn
/-- What one step looks at, from the innermost open call on. -/
theorem ctx_ev (i j : Nat) (hi : i < a.size) (hj : j + 1 < l.length) (R : List (List Bool)) : ∀ (r p : List Int), (st (bt a) i).c.reverse = p ++ r → ∀ row : List Bool, row.length = l.length →
    Ev (fun k => spec_l05Marks.l1 k a (st (bt a) a.size).q ((List.range i).map (mkL l (bt a))) (i : Int) (if (if dpS l (j + 1) = true then r.any (fun x => mk (dpS l) (psS l) (bt a) x.toNat j) else (match r with | [] => false | x :: _ => mk (dpS l) (psS l) (bt a) x.toNat j)) = true then row.set (j + 1) true else row) ((j + 1 + 1 : Nat) : Int) l) R →
    Ev (fun k => spec_l05Marks.l2 k a (st (bt a) a.size).q ((List.range i).map (mkL l (bt a))) (i : Int) row ((j + 1 : Nat) : Int) (hd r) l) R := by
  have _hn := hn
  have f1 : wrap64 (((j + 1 : Nat) : Int) + 1) = ((j + 1 + 1 : Nat) : Int) := by rw [w64 (by omega) (by have := okQ_len hq; omega)]; push_cast; rfl
  have f2 : wrap64 (((j + 1 : Nat) : Int) - 1) = (j : Int) := by rw [w64 (by omega) (by have := okQ_len hq; omega)]; push_cast; omega
  have lq := (basic (bt a) a.size).lq
  intro r
  induction r with
  | nil =>
    intro p hp row hr h
    refine Ev.succ ?_
    simp only [spec_l05Marks.l2, hd, show ¬ ((-1 : Int) ≥ 0) by decide, if_false, f1]
    have e : (if dpS l (j + 1) = true then List.any [] (fun x : Int => mk (dpS l) (psS l) (bt a) x.toNat j) else false) = false := by split <;> rfl
    simp only [e, Bool.false_eq_true, if_false] at h
    exact h
  | cons x s ih =>
    intro p hp row hr h
    have hx := (basic (bt a) i).hc x (List.mem_reverse.1 (by rw [hp]; simp))
    obtain ⟨t, rfl⟩ : ∃ t : Nat, x = (t : Int) := ⟨x.toNat, by omega⟩
    obtain ⟨ht, hpar⟩ := par_open (bt a) (Nat.le_of_lt hi) hp
    have c1 : (t : Int) ≥ 0 := by omega
    have c2 : 0 ≤ (t : Int) := by omega
    have c3 : (t : Int) < (((List.range i).map (mkL l (bt a))).length : Int) := by simp; omega
    have c4 : (0 : Int) ≤ (j : Int) := by omega
    have c5 : (j : Int) < ((rd_L6 ((List.range i).map (mkL l (bt a))) (t : Int)).length : Int) := by rw [row_len l _ i t ht]; omega
    have c6 : (0 : Int) ≤ ((j + 1 : Nat) : Int) := by omega
    have c7 : ((j + 1 : Nat) : Int) < (row.length : Int) := by omega
    have c8 : ((j + 1 : Nat) : Int) < (l.length : Int) := by omega
    have c9 : (t : Int) < ((st (bt a) a.size).q.length : Int) := by rw [lq]; omega
    have e1 : rd (st (bt a) a.size).q (t : Int) = hd s := by rw [g_rd]; exact hpar
    refine Ev.succ ?_
    simp only [spec_l05Marks.l2, hd, if_pos c1, if_pos c2, if_pos c3, f2, if_pos c4, if_pos c5, rd_row l _ i t j ht (show j < l.length by omega), if_pos c6, if_pos c7, if_pos c8, if_pos c9, e1, f1, Option.bind_some, Int.toNat_natCast]
    have ed : (rd_T62 l ((j + 1 : Nat) : Int)).f0 = dpS l (j + 1) := by unfold rd_T62 dpS; rw [Int.toNat_natCast]
    simp only [ed]
    have hp2 : (st (bt a) i).c.reverse = (p ++ [(t : Int)]) ++ s := by rw [hp]; simp
    by_cases hm : mk (dpS l) (psS l) (bt a) t j = true
    · simp only [hm, if_true]
      by_cases hdp : dpS l (j + 1) = true
      · simp only [hdp, if_true, List.any_cons, Int.toNat_natCast, hm, Bool.true_or] at h ⊢
        refine ih _ hp2 _ (by rw [List.length_set]; exact hr) ?_
        simp only [hdp, if_true, List.set_set, ite_self]
        exact h
      · simp only [hdp, if_false, Int.toNat_natCast, hm, if_true] at h ⊢
        exact h
    · simp only [hm, if_false]
      by_cases hdp : dpS l (j + 1) = true
      · simp only [hdp, if_true, List.any_cons, Int.toNat_natCast, Bool.eq_false_iff.2 hm, Bool.false_or] at h ⊢
        refine ih _ hp2 _ hr ?_
        simp only [hdp, if_true]
        exact h
      · simp only [hdp, if_false, Int.toNat_natCast, hm] at h ⊢
        exact h
/-- The marks of one place. -/
theorem marks1_ev (i : Nat) (hi : i < a.size) (R : List (List Bool)) (h : Ev (fun k => spec_l05Marks.l0 k a (st (bt a) a.size).q ((List.range (i + 1)).map (mkL l (bt a))) ((i + 1 : Nat) : Int) l) R) :
    ∀ j, j ≤ l.length → Ev (fun k => spec_l05Marks.l1 k a (st (bt a) a.size).q ((List.range i).map (mkL l (bt a))) (i : Int) (mkT l (bt a) i j) (j : Int) l) R := by
  have hm := okQ_len hq
  have lq := (basic (bt a) a.size).lq
  have fend : Ev (fun k => spec_l05Marks.j2 k a (st (bt a) a.size).q ((List.range i).map (mkL l (bt a))) (i : Int) (mkL l (bt a) i) (0 : Int) false l) R → True := fun _ => trivial
  have done : ∀ (x : Int), Ev (fun k => spec_l05Marks.j2 k a (st (bt a) a.size).q ((List.range i).map (mkL l (bt a))) (i : Int) (mkL l (bt a) i) x false l) R := fun x => by
    refine Ev.succ ?_
    simp only [spec_l05Marks.j2, Bool.false_eq_true, if_false, List.length_map, List.length_range, if_pos (show i < 5864062014805 by omega), up1 i (by omega)]
    rw [List.range_succ, List.map_append] at h
    exact h
  have b2 : (0 : Int) ≤ (i : Int) := by omega
  have b3 : (i : Int) < (a.size : Int) := by omega
  by_cases hR : isR (bt a i) = true
  · have mkf : ∀ t, mk (dpS l) (psS l) (bt a) i t = false := fun t => by unfold mk; rw [hR]; rfl
    have allf : ∀ j, mkT l (bt a) i j = mkL l (bt a) i := fun j => by
      unfold mkT mkL
      exact List.map_congr_left (fun t _ => by rw [mkf]; exact ite_self _)
    intro j hj
    refine Ev.succ ?_
    by_cases hj2 : j < l.length
    · simp only [spec_l05Marks.l1, if_pos (ilt hj2), if_pos b2, if_pos b3, sNode_eq, hR, Option.bind_some, Bool.not_true, allf]
      exact done _
    · obtain rfl : j = l.length := by omega
      simp only [spec_l05Marks.l1, if_neg inlt, allf]
      exact done _
  · rw [Bool.not_eq_true] at hR
    refine down l.length ?_ ?_
    · refine Ev.succ ?_
      simp only [spec_l05Marks.l1, if_neg inlt, mkT_end]
      exact done _
    · intro j hj ih
      refine Ev.succ ?_
      simp only [spec_l05Marks.l1, if_pos (ilt hj), if_pos b2, if_pos b3, sNode_eq, hR, Option.bind_some, Bool.not_false]
      refine Ev.succ ?_
      simp only [spec_l05Marks.j2, if_true, if_pos (i0 j), if_pos (ilt hj), if_pos b2, if_pos b3, sPassQ hq hj a i, Option.bind_some, up1 j (by omega)]
      by_cases hp : psS l j (bt a i) = true
      · simp only [hp, if_true]
        cases j with
        | zero =>
          have c1 : (0 : Int) < (l.length : Int) := by omega
          have c2 : (0 : Int) < ((mkT l (bt a) i 0).length : Int) := by rw [mkT_len]; omega
          have c3 : (i : Int) < ((st (bt a) a.size).q.length : Int) := by rw [lq]; omega
          have ed : (rd_T62 l (0 : Int)).f0 = dpS l 0 := rfl
          have em : mk (dpS l) (psS l) (bt a) i 0 = (dpS l 0 || (st (bt a) i).c.reverse.isEmpty) := by
            unfold mk
            rw [now_zero, hR, hp]; rfl
          have e1 : rd (st (bt a) a.size).q (i : Int) = hd (st (bt a) i).c.reverse := by rw [g_rd]; exact par_node (bt a) hi hR
          have e2 : decide (hd (st (bt a) i).c.reverse < 0) = (st (bt a) i).c.reverse.isEmpty := by
            cases e : (st (bt a) i).c.reverse with
            | nil => rfl
            | cons x s =>
              have hx := (basic (bt a) i).hc x (List.mem_reverse.1 (by rw [e]; simp))
              exact decide_eq_false (show ¬ x < 0 by omega)
          simp only [Int.natCast_zero, if_true, if_pos c1, ed, if_pos c2, if_pos c3, e1, e2, Int.toNat_zero]
          by_cases hdp : dpS l 0 = true
          · simp only [hdp, if_true]
            rw [mkT_step l _ i 0 hj true (by rw [em, hdp]; rfl)] at ih
            exact ih
          · simp only [hdp, if_false]
            rw [Bool.not_eq_true] at hdp
            have es := mkT_step l (bt a) i 0 hj _ rfl
            rw [em, hdp, Bool.false_or] at es
            rw [es] at ih
            cases e : (st (bt a) i).c.reverse.isEmpty with
            | true => simp only [e, if_true] at ih; exact ih
            | false =>
              simp only [e, Bool.false_eq_true, if_false] at ih
              have e5 : (mkT l (bt a) i 0).set 0 false = mkT l (bt a) i 0 := by
                rw [mkT_zero]
                obtain ⟨n, hn⟩ : ∃ n, l.length = n + 1 := ⟨l.length - 1, by omega⟩
                rw [hn]; rfl
              rw [e5]
              exact ih
        | succ j =>
          have c3 : (i : Int) < ((st (bt a) a.size).q.length : Int) := by rw [lq]; omega
          have e1 : rd (st (bt a) a.size).q (i : Int) = hd (st (bt a) i).c.reverse := by rw [g_rd]; exact par_node (bt a) hi hR
          have c0 : ¬ ((j + 1 : Nat) : Int) = 0 := by omega
          simp only [if_neg c0, if_pos c3, e1]
          refine ctx_ev hq a hn i j hi hj R _ [] rfl _ (mkT_len ..) ?_
          have em : mk (dpS l) (psS l) (bt a) i (j + 1) = nowR (dpS l) (psS l) (bt a) (st (bt a) i).c.reverse (j + 1) := by unfold mk; rw [hR, hp]; rfl
          rw [now_ctx (dpS l) (psS l) (bt a) i (j + 1) (by omega)] at em
          rw [mkT_step l _ i (j + 1) hj _ em] at ih
          exact ih
      · simp only [hp, if_false]
        have em : mk (dpS l) (psS l) (bt a) i j = false := by unfold mk; rw [Bool.not_eq_true] at hp; rw [hp]; simp
        rw [mkT_step l _ i j hj false em] at ih
        exact ih
theorem marks_ev : Ev (fun k => spec_l05Marks.f k l a) ((List.range a.size).map (mkL l (bt a))) := by
  have hm := okQ_len hq
  have loop : ∀ i, i ≤ a.size → Ev (fun k => spec_l05Marks.l0 k a (st (bt a) a.size).q ((List.range i).map (mkL l (bt a))) (i : Int) l) ((List.range a.size).map (mkL l (bt a))) := by
    refine down a.size ?_ ?_
    · refine Ev.succ ?_
      simp only [spec_l05Marks.l0, if_neg inlt]
      exact Ev.now _
    · intro i hi ih
      refine Ev.succ ?_
      simp only [spec_l05Marks.l0, if_pos (ilt hi), if_pos (i0 l.length), Int.toNat_natCast, if_pos (show l.length ≤ 281474976710656 by omega)]
      have := marks1_ev hq a hn i hi _ ih 0 (by omega)
      rw [mkT_zero] at this
      exact this
  unfold spec_l05Marks.f
  exact Ev.bind (parents_ev a hn) (loop 0 (by omega))
theorem ansL_step (i : Nat) : ansL l (bt a) (i + 1) = if mk (dpS l) (psS l) (bt a) i (l.length - 1) = true then ansL l (bt a) i ++ [(i : Int)] else ansL l (bt a) i := by
  have _hn := hn
  have _hq := hq
  unfold ansL
  rw [List.range_succ, List.filter_append, List.map_append, List.filter_cons, List.filter_nil]
  split
  · rfl
  · simp
theorem ansL_len : ∀ i, (ansL l (bt a) i).length ≤ i := by
  have _hn := hn
  have _hq := hq
  intro i
  unfold ansL
  rw [List.length_map]
  exact Nat.le_trans (List.length_filter_le _ _) (by rw [List.length_range]; exact Nat.le_refl _)
theorem sAns_ev : Ev (fun k => spec_l05Answers.f k l a) (ansL l (bt a) a.size) := by
  have hm := okQ_len hq
  have f2 : wrap64 ((l.length : Int) - 1) = ((l.length - 1 : Nat) : Int) := by rw [w64 (by omega) (by omega)]; omega
  have loop : ∀ i, i ≤ a.size → Ev (fun k => spec_l05Answers.l0 k a ((List.range a.size).map (mkL l (bt a))) (ansL l (bt a) i) (i : Int) l) (ansL l (bt a) a.size) := by
    refine down a.size ?_ ?_
    · refine Ev.succ ?_
      simp only [spec_l05Answers.l0, if_neg inlt]
      exact Ev.now _
    · intro i hi ih
      have hl := ansL_len hq a hn i
      have c1 : (i : Int) < (((List.range a.size).map (mkL l (bt a))).length : Int) := by simp; omega
      have c5 : ((l.length - 1 : Nat) : Int) < ((rd_L6 ((List.range a.size).map (mkL l (bt a))) (i : Int)).length : Int) := by rw [row_len l _ _ i hi]; omega
      refine Ev.succ ?_
      simp only [spec_l05Answers.l0, if_pos (ilt hi), if_pos (i0 i), if_pos c1, f2, if_pos (i0 (l.length - 1)), if_pos c5, rd_row l _ _ i (l.length - 1) hi (by omega), up1 i (by omega), if_pos (show (ansL l (bt a) i).length < 17592186044416 by omega)]
      rw [ansL_step hq a hn i] at ih
      by_cases hk : mk (dpS l) (psS l) (bt a) i (l.length - 1) = true
      · simp only [hk, if_true] at ih ⊢
        exact ih
      · simp only [hk, if_false] at ih ⊢
        exact ih
  unfold spec_l05Answers.f
  exact Ev.bind (marks_ev hq a hn) (loop 0 (by omega))
end
end Go.Proofs.Yteeplponconnjaa.Br
namespace Go.Proofs.Yteeplponconnjaa.Br
open Go.RowKit Go.Proofs.Yteeplponconnjaa.P Go.Proofs.YteeplponconnjaaW.PrintWords Go.Proofs.YteeplponconnjaaW.PrintLast Go.Proofs.YteeplponconnjaaW.PrintMore Go.Proofs.Yteeplponconnjaa.Th
set_option linter.unusedVariables false
set_option linter.unusedSimpArgs false
theorem containsI_ev (x : List Int) (hx : x.length ≤ 1048576) (v : Int) : Ev (fun k => slices_Contains_Lint64_int64.f k x v) (x.contains v) := by
  have loop : ∀ i, i ≤ x.length → ∃ r : Int, Ev (fun k => slices_Index_Lint64_int64.l0 k x v (x.length : Int) i) r ∧ (x.drop i).contains v = decide (r ≥ 0) := by
    refine down x.length ?_ ?_
    · refine ⟨-1, Ev.succ ?_, by rw [drop_end]; rfl⟩
      simp only [slices_Index_Lint64_int64.l0, if_neg inlt]
      exact Ev.now _
    · intro i hi ih
      obtain ⟨r, hr, he⟩ := ih
      have hd_ : x.drop i = rd x (i : Int) :: x.drop (i + 1) := by
        rw [List.drop_eq_getElem_cons hi]
        unfold rd
        rw [Int.toNat_natCast, List.getD_eq_getElem?_getD, List.getElem?_eq_getElem hi]
        rfl
      by_cases e : v = rd x (i : Int)
      · refine ⟨(i : Int), Ev.succ ?_, ?_⟩
        · simp only [slices_Index_Lint64_int64.l0, if_pos (ilt hi), if_pos (i0 i), if_pos e]
          exact Ev.now _
        · rw [hd_, List.contains_cons, beq_iff_eq.2 e, Bool.true_or]
          exact (decide_eq_true (by omega)).symm
      · refine ⟨r, Ev.succ ?_, ?_⟩
        · simp only [slices_Index_Lint64_int64.l0, if_pos (ilt hi), if_pos (i0 i), if_neg e, up1 i (by omega)]
          exact hr
        · rw [hd_, List.contains_cons, beq_eq_false_iff_ne.2 e, Bool.false_or]
          exact he
  obtain ⟨r, hr, he⟩ := loop 0 (by omega)
  unfold slices_Contains_Lint64_int64.f slices_Index_Lint64_int64.f
  rw [List.drop_zero] at he
  rw [he]
  exact Ev.bind hr (Ev.now _)
theorem nowL_len {deep : Nat → Bool} {pass : Nat → Int → Bool} {b : Int → Int} {m : Nat} (r : List Int) : (nowL deep pass b m r).length ≤ m := by
  unfold nowL
  rw [List.length_map]
  exact Nat.le_trans (List.length_filter_le _ _) (by rw [List.length_range]; exact Nat.le_refl _)
/-- The first j of a list of steps that wait. -/
def nowT (deep : Nat → Bool) (pass : Nat → Int → Bool) (b : Int → Int) (r : List Int) (j : Nat) : List Int := ((List.range j).filter (nowR deep pass b r)).map fun j : Nat => (j : Int)
theorem nowT_step {deep : Nat → Bool} {pass : Nat → Int → Bool} {b : Int → Int} (r : List Int) (j : Nat) (v : Bool) (hv : nowR deep pass b r j = v) : nowT deep pass b r (j + 1) = if v = true then nowT deep pass b r j ++ [(j : Int)] else nowT deep pass b r j := by
  unfold nowT
  rw [List.range_succ, List.filter_append, List.map_append, List.filter_cons, List.filter_nil, hv]
  cases v <;> simp
theorem nowT_len {deep : Nat → Bool} {pass : Nat → Int → Bool} {b : Int → Int} (r : List Int) (j : Nat) : (nowT deep pass b r j).length ≤ j := by
  unfold nowT
  rw [List.length_map]
  exact Nat.le_trans (List.length_filter_le _ _) (by rw [List.length_range]; exact Nat.le_refl _)
section
variable {l : List S62} (hq : okQ l = true) (b : Int → Int)
include hq
theorem has_ev (r : List Int) (j : Nat) (hj : j < l.length) : Ev (fun k => slices_Contains_Lint64_int64.f k (nowL (dpS l) (psS l) b l.length r) (j : Int)) (nowR (dpS l) (psS l) b r j) := by
  have h := containsI_ev (nowL (dpS l) (psS l) b l.length r) (by have := nowL_len (deep := dpS l) (pass := psS l) (b := b) (m := l.length) r; have := okQ_len hq; omega) (j : Int)
  rw [nowL_has _ _ _ r hj] at h
  exact h
theorem within_ev (r : List Int) (x : Int) : Ev (fun k => impl_Query_within.f k l (nowL (dpS l) (psS l) b l.length r) (b x)) (nowL (dpS l) (psS l) b l.length (x :: r)) := by
  have hm := okQ_len hq
  have loop : ∀ j, j ≤ l.length → Ev (fun k => impl_Query_within.l0 k (nowL (dpS l) (psS l) b l.length r) (b x) (nowT (dpS l) (psS l) b (x :: r) j) l (l.length : Int) (j : Int) l) (nowL (dpS l) (psS l) b l.length (x :: r)) := by
    refine down l.length ?_ ?_
    · refine Ev.succ ?_
      simp only [impl_Query_within.l0, if_neg inlt]
      exact Ev.now _
    · intro j hj ih
      have hl := nowT_len (deep := dpS l) (pass := psS l) (b := b) (x :: r) j
      have c1 : (nowT (dpS l) (psS l) b (x :: r) j).length < 17592186044416 := by omega
      have key : ∀ s : Bool, s = (dpS l j && nowR (dpS l) (psS l) b r j) → Ev (fun k => impl_Query_within.j1 k (nowL (dpS l) (psS l) b l.length r) (b x) (nowT (dpS l) (psS l) b (x :: r) j) (j : Int) (j : Int) s l (l.length : Int) (j : Int) l) (nowL (dpS l) (psS l) b l.length (x :: r)) := by
        intro s hs
        have fin : ∀ v : Bool, nowR (dpS l) (psS l) b (x :: r) j = v → Ev (fun k => if v = true then impl_Query_within.l0 k (nowL (dpS l) (psS l) b l.length r) (b x) (nowT (dpS l) (psS l) b (x :: r) j ++ [(j : Int)]) l (l.length : Int) ((j + 1 : Nat) : Int) l else impl_Query_within.l0 k (nowL (dpS l) (psS l) b l.length r) (b x) (nowT (dpS l) (psS l) b (x :: r) j) l (l.length : Int) ((j + 1 : Nat) : Int) l) (nowL (dpS l) (psS l) b l.length (x :: r)) := by
          intro v hv
          rw [nowT_step (x :: r) j v hv] at ih
          cases v <;> simpa using ih
        refine Ev.succ ?_
        cases j with
        | zero =>
          have hv : nowR (dpS l) (psS l) b (x :: r) 0 = s := by rw [nowR, hs]; simp
          simp only [impl_Query_within.j1, show ¬ (((0 : Nat) : Int) > 0) by decide, if_false, if_pos c1, up1 0 (by omega)]
          exact fin s hv
        | succ j =>
          have f2 : wrap64 (((j + 1 : Nat) : Int) - 1) = (j : Int) := by rw [w64 (by omega) (by omega)]; push_cast; omega
          have hv : nowR (dpS l) (psS l) b (x :: r) (j + 1) = (s || (nowR (dpS l) (psS l) b r j && psS l j (b x))) := by
            rw [nowR, hs]
            simp
          simp only [impl_Query_within.j1, if_pos (show (((j + 1 : Nat) : Int) > 0) by omega), f2, if_pos (i0 j), if_pos (ilt (show j < l.length by omega)), iPassQ hq (show j < l.length by omega) (b x), Option.bind_some, if_pos c1, up1 (j + 1) (by omega)]
          refine Ev.bind (has_ev hq b r j (by omega)) ?_
          cases hN : nowR (dpS l) (psS l) b r j with
          | true =>
            rw [hN, Bool.true_and] at hv
            simp only [if_true]
            cases s with
            | true => simp only [if_true]; exact fin true (by rw [hv]; rfl)
            | false => simp only [Bool.false_eq_true, if_false]; exact fin _ (by rw [hv]; rfl)
          | false =>
            rw [hN, Bool.false_and, Bool.or_false] at hv
            simp only [Bool.false_eq_true, if_false]
            exact fin s hv
      refine Ev.succ ?_
      simp only [impl_Query_within.l0, if_pos (ilt hj), if_pos (i0 j)]
      have ed : (rd_T62 l (j : Int)).f0 = dpS l j := by unfold rd_T62 dpS; rw [Int.toNat_natCast]
      simp only [ed]
      by_cases hdp : dpS l j = true
      · simp only [hdp, if_true]
        exact Ev.bind (has_ev hq b r j hj) (key _ (by rw [hdp]; rfl))
      · simp only [hdp, if_false]
        exact key false (by rw [Bool.not_eq_true] at hdp; rw [hdp]; rfl)
  exact loop 0 (by omega)
theorem isAns_ev (i : Nat) : Ev (fun k => impl_Query_isAnswer.f k l (nowL (dpS l) (psS l) b l.length (st b i).c.reverse) (b i)) (mk (dpS l) (psS l) b i (l.length - 1)) := by
  have hm := okQ_len hq
  have f2 : wrap64 ((l.length : Int) - 1) = ((l.length - 1 : Nat) : Int) := by rw [w64 (by omega) (by omega)]; omega
  unfold impl_Query_isAnswer.f impl_isNode.f impl_Query_last.f impl_size_impl_QueryStep.f mk
  simp only [isReturn_eq, Option.bind_some, f2]
  cases hR : isR (b i) with
  | true => simp only [Bool.not_true, Bool.false_eq_true, if_false, Bool.false_and]; exact Ev.now _
  | false =>
    simp only [Bool.not_false, if_true, Bool.true_and]
    refine Ev.bind (has_ev hq b _ (l.length - 1) (by omega)) ?_
    cases hN : nowR (dpS l) (psS l) b (st b i).c.reverse (l.length - 1) with
    | true =>
      simp only [if_true, if_pos (i0 (l.length - 1)), if_pos (ilt (show l.length - 1 < l.length by omega)), iPassQ hq (show l.length - 1 < l.length by omega) (b i), Option.bind_some, Bool.and_true]
      exact Ev.now _
    | false =>
      simp only [Bool.false_eq_true, if_false, Bool.and_false]
      exact Ev.now _
end
theorem stk_last {deep : Nat → Bool} {pass : Nat → Int → Bool} {b : Int → Int} {m : Nat} (x : Int) (s : List Int) : (stk deep pass b m (x :: s)).getD ((stk deep pass b m (x :: s)).length - 1) [] = nowL deep pass b m s ∧ (stk deep pass b m (x :: s)).take ((stk deep pass b m (x :: s)).length - 1) = stk deep pass b m s := by
  rw [stk, List.length_append, List.length_singleton, Nat.add_sub_cancel]
  refine ⟨?_, List.take_left' rfl⟩
  rw [List.getD_eq_getElem?_getD, List.getElem?_append_right (Nat.le_refl _), Nat.sub_self]
  rfl
section
variable {l : List S62} (hq : okQ l = true) (a : ByteArray)
include hq
theorem wrun_ev : ∀ i : Nat, Ev (fun k => wrun k l a i) (nowL (dpS l) (psS l) (bt a) l.length (st (bt a) i).c.reverse, stk (dpS l) (psS l) (bt a) l.length (st (bt a) i).c.reverse, ansL l (bt a) i) := by
  have hm := okQ_len hq
  intro i
  induction i with
  | zero =>
    have e := nowL_nil (dpS l) (psS l) (bt a) (show 0 < l.length by omega)
    show Ev (fun k => some (([0] : List Int), ([] : List (List Int)), ([] : List Int))) _
    exact Ev.done (by rw [← e]; rfl)
  | succ i ih =>
    have eA : ansL l (bt a) (i + 1) = if mk (dpS l) (psS l) (bt a) i (l.length - 1) = true then ansL l (bt a) i ++ [(i : Int)] else ansL l (bt a) i := by
      unfold ansL
      rw [List.range_succ, List.filter_append, List.map_append, List.filter_cons, List.filter_nil]
      split
      · rfl
      · simp
    show Ev (fun k => (wrun k l a i).bind (wstep k l (bt a (i : Int)) i)) _
    refine Ev.bind ih ?_
    unfold wstep
    simp only [isCall_eq, isReturn_eq, Option.bind_some]
    refine Ev.bind (isAns_ev hq (bt a) i) ?_
    by_cases hC : isC (bt a i) = true
    · simp only [hC, if_true]
      refine Ev.bind (within_ev hq (bt a) _ (i : Int)) ?_
      rw [open_call (bt a) hC, eA]
      exact Ev.now _
    · rw [Bool.not_eq_true] at hC
      simp only [hC, Bool.false_eq_true, if_false]
      by_cases hR : isR (bt a i) = true
      · simp only [hR, if_true]
        rw [open_ret (bt a) hR, eA]
        cases e : (st (bt a) i).c.reverse with
        | nil =>
          simp only [stk, List.length_nil, Nat.lt_irrefl, if_false, List.tail_nil]
          exact Ev.now _
        | cons x s =>
          obtain ⟨e1, e2⟩ := stk_last (deep := dpS l) (pass := psS l) (b := bt a) (m := l.length) x s
          have hpos : 0 < (stk (dpS l) (psS l) (bt a) l.length (x :: s)).length := by rw [stk_len]; simp
          simp only [if_pos hpos, e1, e2, List.tail_cons]
          exact Ev.now _
      · rw [Bool.not_eq_true] at hR
        simp only [hR, Bool.false_eq_true, if_false]
        rw [open_else (bt a) hR hC, eA]
        exact Ev.now _
end
/-- What AnswersOf tells. -/
def ansR (l : List S62) (a : ByteArray) : List Int × Int := if okQ l = true then (if okw a = true then (ansL l (bt a) a.size, 0) else ([], 1)) else ([], 1)
theorem iAnswers_ev (l : List S62) (hl : l.length ≤ 1048576) (a : ByteArray) (hn : a.size ≤ 1048576) : Ev (fun k => impl_AnswersOf.f k l a) (ansR l a) := by
  unfold impl_AnswersOf.f ansR impl_newWatcher.f slices_Clone_Limpl_QueryStep_impl_QueryStep.f
  refine Ev.bind (implValidQ_ev l hl) ?_
  by_cases h : okQ l = true
  · simp only [h, if_true]
    refine Ev.bind (valid_ev a hn) ?_
    by_cases hw : okw a = true
    · simp only [hw, if_true, if_pos hn]
      refine Ev.bind (wrun_ev h a a.size) ?_
      simp only [if_pos (show l.length < 5864062014805 by omega), Option.bind_some]
      exact Ev.now _
    · simp only [hw, if_false]
      exact Ev.now _
  · simp only [h, if_false]
    exact Ev.now _
theorem sAnswers_ev (l : List S62) (hl : l.length ≤ 1048576) (a : ByteArray) (hn : a.size ≤ 1048576) : Ev (fun k => spec_AnswersOf.f k l a) (ansR l a) := by
  unfold spec_AnswersOf.f ansR spec_l05Given.f
  refine Ev.bind (a := if okQ l = true then (if okw a = true then 0 else 1) else 1) (Ev.bind (specOkQ_ev l hl) ?_) ?_
  · by_cases h : okQ l = true
    · simp only [h, if_true]
      refine Ev.bind (specOk_ev a hn) ?_
      by_cases hw : okw a = true
      · simp only [hw, if_true]; exact Ev.now _
      · simp only [hw, if_false]; exact Ev.now _
    · simp only [h, if_false]
      exact Ev.now _
  · by_cases h : okQ l = true
    · by_cases hw : okw a = true
      · simp only [h, hw, if_true]
        exact Ev.bind (sAns_ev h a hn) (Ev.now _)
      · simp only [h, hw, if_true, if_false, show ¬ ((1 : Int) = 0) by decide]
        exact Ev.now _
    · simp only [h, if_false, show ¬ ((1 : Int) = 0) by decide]
      exact Ev.now _
theorem ansR_len (l : List S62) (a : ByteArray) : (ansR l a).1.length ≤ a.size := by
  unfold ansR
  split
  · split
    · unfold ansL
      simp only [List.length_map]
      exact Nat.le_trans (List.length_filter_le _ _) (by rw [List.length_range]; exact Nat.le_refl _)
    · exact Nat.zero_le _
  · exact Nat.zero_le _
end Go.Proofs.Yteeplponconnjaa.Br
namespace Go.Proofs.Yteeplponconnjaa.Br
open Go.RowKit Go.Proofs.Yteeplponconnjaa.P Go.Proofs.YteeplponconnjaaW.PrintWords Go.Proofs.YteeplponconnjaaW.PrintLast Go.Proofs.YteeplponconnjaaW.PrintMore Go.Proofs.Yteeplponconnjaa.Th
set_option linter.unusedVariables false
set_option linter.unusedSimpArgs false
theorem markText_l (n : Nat) : ∀ (x : Int) (s : ByteArray), x ≤ n → s.size + n ≤ 1152921504606846976 → ∃ t, Ev (fun k => laws_markText.l0 k x s) t := by
  induction n with
  | zero =>
    intro x s hx hs
    have b1 : ¬ x > 0 := by omega
    have b2 : 1 + s.size ≤ 9223372036854775807 := by omega
    refine ⟨(⟨#[109]⟩ : ByteArray) ++ s, Ev.succ ?_⟩
    simp only [laws_markText.l0, if_neg b1, if_pos b2]
    exact Ev.now _
  | succ n ih =>
    intro x s hx hs
    by_cases h : x > 0
    · have hd : 0 ≤ Int.tdiv x 10 ∧ Int.tdiv x 10 ≤ n := by
        rw [Int.tdiv_eq_ediv_of_nonneg (by omega)]; omega
      have hsz : ∀ y : Int, (strOfNums [y]).size = 1 := fun y => by simp [strOfNums, ByteArray.size]
      obtain ⟨t, ht⟩ := ih (Int.tdiv x 10) (strOfNums [(wrap64 (48 + (Int.tmod x 10))) % 256] ++ s) hd.2 (by rw [ByteArray.size_append, hsz]; omega)
      have b2 : (strOfNums [(wrap64 (48 + (Int.tmod x 10))) % 256]).size + s.size ≤ 9223372036854775807 := by rw [hsz]; omega
      have f1 : wrap64 (Int.tdiv x 10) = Int.tdiv x 10 := w64 (by omega) (by omega)
      refine ⟨t, Ev.succ ?_⟩
      simp only [laws_markText.l0, if_pos h, Option.bind_some, if_pos b2, f1]
      exact ht
    · have b2 : 1 + s.size ≤ 9223372036854775807 := by omega
      refine ⟨(⟨#[109]⟩ : ByteArray) ++ s, Ev.succ ?_⟩
      simp only [laws_markText.l0, if_neg h, if_pos b2]
      exact Ev.now _
theorem markText_all : ∃ F : Int → ByteArray, ∀ x : Int, x ≤ 1099511627776 → Ev (fun k => laws_markText.f k x) (F x) := by
  have h : ∀ x : Int, ∃ t, x ≤ 1099511627776 → Ev (fun k => laws_markText.f k x) t := by
    intro x
    by_cases hx : x ≤ 1099511627776
    · unfold laws_markText.f
      by_cases h0 : x ≤ 0
      · exact ⟨⟨#[109, 48]⟩, fun _ => by simp only [if_pos h0]; exact Ev.now _⟩
      · obtain ⟨t, ht⟩ := markText_l x.toNat x (⟨#[]⟩ : ByteArray) (by omega) (by show 0 + x.toNat ≤ _; omega)
        exact ⟨t, fun _ => by simp only [if_neg h0]; exact ht⟩
    · exact ⟨⟨#[]⟩, fun h => absurd h hx⟩
  exact ⟨fun x => Classical.choose (h x), fun x => Classical.choose_spec (h x)⟩

end Go.Proofs.Yteeplponconnjaa.Br
namespace Go.Proofs.Yteeplponconnjaa.Br
open Go.RowKit Go.Proofs.Yteeplponconnjaa.P Go.Proofs.YteeplponconnjaaW.PrintWords Go.Proofs.YteeplponconnjaaW.PrintLast Go.Proofs.YteeplponconnjaaW.PrintMore Go.Proofs.Yteeplponconnjaa.Th
set_option linter.unusedVariables false
set_option linter.unusedSimpArgs false
/-- n marked steps from a on. -/
def mqs (F : Int → ByteArray) (a : Int) : Nat → List S62
  | 0 => []
  | n + 1 => mqs F a n ++ [⟨Int.tmod (a + 2 * n) 3 == 0, F (a + 2 * n + 1)⟩]
theorem mqs_len (F : Int → ByteArray) (a : Int) : ∀ n, (mqs F a n).length = n
  | 0 => rfl
  | n + 1 => by simp [mqs, mqs_len F a n]
theorem rdT_set (l : List S62) (i : Nat) (v : S62) (h : i < l.length) : rd_T62 (l.set i v) i = v := by
  unfold rd_T62
  rw [Int.toNat_natCast, List.getD_eq_getElem?_getD, List.getElem?_set_self h]
  rfl
theorem markQ_loop (F : Int → ByteArray) (hF : ∀ x : Int, x ≤ 1099511627776 → Ev (fun k => laws_markText.f k x) (F x)) (l : List S62) (hl : l.length ≤ 4194304) : ∀ i, i ≤ l.length →
    Ev (fun k => laws_markQueryStepS.l0 k (mqs F 1 i ++ l.drop i) (1 + 2 * (i : Int)) i) (1 + 2 * (l.length : Int), mqs F 1 l.length) := by
  refine down l.length ?_ ?_
  · refine Ev.succ ?_
    have : (mqs F 1 l.length ++ l.drop l.length).length = l.length := by simp [mqs_len]
    simp only [laws_markQueryStepS.l0, this, if_neg (show ¬ (l.length : Int) < (l.length : Int) by omega)]
    exact Ev.done (by simp)
  · intro i hi hnext
    have hlen : (mqs F 1 i ++ l.drop i).length = l.length := by simp [mqs_len]; omega
    have hil : i < (mqs F 1 i ++ l.drop i).length := by omega
    have hset : (mqs F 1 i ++ l.drop i).set i ⟨Int.tmod (1 + 2 * (i : Int)) 3 == 0, F (1 + 2 * (i : Int) + 1)⟩ = mqs F 1 (i + 1) ++ l.drop (i + 1) := by
      rw [List.drop_eq_getElem_cons (by omega : i < l.length), List.set_append_right _ _ (by rw [mqs_len]; exact Nat.le_refl _), mqs_len, Nat.sub_self, sB, mqs, List.append_assoc]
      rfl
    have b1 : (i : Int) < (l.length : Int) := by omega
    have b2 : (0 : Int) ≤ (i : Int) := by omega
    have ht := hF (1 + 2 * (i : Int) + 1) (by omega)
    have f3 : wrap64 ((i : Int) + 1) = ((i + 1 : Nat) : Int) := by rw [w64 (by omega) (by omega)]; push_cast; rfl
    have f4 : wrap64 (1 + 2 * (i : Int) + 1) = 1 + 2 * (i : Int) + 1 := by clear f3; exact w64 (by omega) (by omega)
    have f5 : wrap64 (1 + 2 * (i : Int) + 1 + 1) = 1 + 2 * ((i + 1 : Nat) : Int) := by clear f3 f4; rw [w64 (by omega) (by omega)]; push_cast; omega
    refine Ev.succ ?_
    simp only [laws_markQueryStepS.l0, hlen, if_pos b1, if_pos b2, Option.bind_some, f4, Int.toNat_natCast, rdT_set _ i _ hil, List.set_set, f5, f3]
    refine Ev.bind ht ?_
    rw [hset]
    exact hnext
theorem markQ_ev (F : Int → ByteArray) (hF : ∀ x : Int, x ≤ 1099511627776 → Ev (fun k => laws_markText.f k x) (F x)) (l : List S62) (hl : l.length ≤ 4194304) : Ev (fun k => laws_markQuery.f k l 1) (1 + 2 * (l.length : Int), mqs F 1 l.length) := by
  unfold laws_markQuery.f
  refine Ev.bind (a := (1 + 2 * (l.length : Int), mqs F 1 l.length)) ?_ (Ev.now _)
  have := markQ_loop F hF l hl 0 (by omega)
  simpa [mqs, laws_markQueryStepS.f] using this
end Go.Proofs.Yteeplponconnjaa.Br
namespace Go.Proofs.Yteeplponconnjaa.Br
open Go.RowKit Go.Proofs.Yteeplponconnjaa.P Go.Proofs.YteeplponconnjaaW.PrintWords Go.Proofs.YteeplponconnjaaW.PrintLast Go.Proofs.YteeplponconnjaaW.PrintMore Go.Proofs.Yteeplponconnjaa.Th
set_option linter.unusedVariables false
set_option linter.unusedSimpArgs false
/-- n numbers from a on. -/
def up (a : Int) : Nat → List Int
  | 0 => []
  | n + 1 => up a n ++ [a + n]
theorem up_len (a : Int) : ∀ n, (up a n).length = n
  | 0 => rfl
  | n + 1 => by simp [up, up_len a n]
theorem up_get (a : Int) : ∀ n j : Nat, j < n → rd (up a n) j = a + j
  | n + 1, j, h => by
    unfold up rd
    rw [Int.toNat_natCast, List.getD_eq_getElem?_getD]
    by_cases hj : j < n
    · rw [List.getElem?_append_left (by rw [up_len]; exact hj)]
      have := up_get a n j hj
      unfold rd at this
      rw [Int.toNat_natCast, List.getD_eq_getElem?_getD] at this
      exact this
    · have : j = n := by omega
      subst this
      rw [List.getElem?_append_right (by rw [up_len]; exact Nat.le_refl _), up_len]
      simp

theorem eqInts_loop (l : List Int) (hl : l.length ≤ 4194304) : ∀ d i : Nat, i + d = l.length → Ev (fun k => laws_eqInt64S.l0 k l l i) true := by
  intro d
  induction d with
  | zero =>
    intro i hi
    refine Ev.succ ?_
    simp only [laws_eqInt64S.l0, if_neg (show ¬ (i : Int) < (l.length : Int) by omega)]
    exact Ev.now _
  | succ d ih =>
    intro i hi
    have hnext := ih (i + 1) (by omega)
    have b1 : (i : Int) < (l.length : Int) := by omega
    have b2 : (0 : Int) ≤ (i : Int) := by omega
    have f3 : wrap64 ((i : Int) + 1) = (i : Int) + 1 := w64 (by omega) (by omega)
    refine Ev.succ ?_
    simp only [laws_eqInt64S.l0, if_pos b1, if_pos b2, f3, if_true]
    exact hnext
theorem eqInts_ev (l : List Int) (hl : l.length ≤ 4194304) : Ev (fun k => laws_eqInt64S.f k l l) true := by
  unfold laws_eqInt64S.f
  simp only [if_true]
  exact eqInts_loop l hl l.length 0 (Nat.zero_add _)

theorem markInts_loop (l : List Int) (hl : l.length ≤ 4194304) (a : Int) (h0 : 0 ≤ a) (h1 : a ≤ 1152921504606846976) : ∀ d i : Nat, i + d = l.length →
    Ev (fun k => laws_markInt64S.l0 k (up a i ++ l.drop i) (a + i) i) (a + l.length, up a l.length) := by
  intro d
  induction d with
  | zero =>
    intro i hi
    obtain rfl : i = l.length := by omega
    refine Ev.succ ?_
    have : (up a l.length ++ l.drop l.length).length = l.length := by simp [up_len]
    simp only [laws_markInt64S.l0, this, if_neg (show ¬ (l.length : Int) < (l.length : Int) by omega)]
    exact Ev.done (by simp)
  | succ d ih =>
    intro i hi
    have hnext := ih (i + 1) (by omega)
    have hlen : (up a i ++ l.drop i).length = l.length := by simp [up_len]; omega
    have hset : (up a i ++ l.drop i).set i (a + i) = up a (i + 1) ++ l.drop (i + 1) := by
      rw [List.drop_eq_getElem_cons (by omega : i < l.length), List.set_append_right _ _ (by rw [up_len]; exact Nat.le_refl _), up_len, Nat.sub_self, sB, up, List.append_assoc]
      rfl
    have b1 : (i : Int) < (l.length : Int) := by omega
    have b2 : (0 : Int) ≤ (i : Int) := by omega
    have f3 : wrap64 ((i : Int) + 1) = (i : Int) + 1 := w64 (by omega) (by omega)
    have f4 : wrap64 (a + (i : Int) + 1) = a + ((i + 1 : Nat) : Int) := by rw [w64 (by omega) (by omega)]; push_cast; omega
    refine Ev.succ ?_
    simp only [laws_markInt64S.l0, hlen, if_pos b1, if_pos b2, f3, f4, Int.toNat_natCast, hset]
    exact hnext
theorem markInts_ev (l : List Int) (hl : l.length ≤ 4194304) (a : Int) (h0 : 0 ≤ a) (h1 : a ≤ 1152921504606846976) : Ev (fun k => laws_markInt64S.f k l a) (a + l.length, up a l.length) := by
  have := markInts_loop l hl a h0 h1 l.length 0 (Nat.zero_add _)
  simpa [up, laws_markInt64S.f] using this

theorem heldInts_loop (n : Nat) (hl : n ≤ 4194304) (a : Int) (h0 : 0 ≤ a) (h1 : a ≤ 1152921504606846976) : ∀ d i : Nat, i + d = n →
    Ev (fun k => laws_heldInt64S.l0 k (up a n) (a + i) i) (a + n) := by
  intro d
  induction d with
  | zero =>
    intro i hi
    obtain rfl : i = n := by omega
    refine Ev.succ ?_
    simp only [laws_heldInt64S.l0, up_len, if_neg (show ¬ (i : Int) < (i : Int) by omega)]
    exact Ev.now _
  | succ d ih =>
    intro i hi
    have hnext := ih (i + 1) (by omega)
    have b1 : (i : Int) < (n : Int) := by omega
    have b2 : (0 : Int) ≤ (i : Int) := by omega
    have f3 : wrap64 ((i : Int) + 1) = (i : Int) + 1 := w64 (by omega) (by omega)
    have f4 : wrap64 (a + (i : Int) + 1) = a + ((i + 1 : Nat) : Int) := by rw [w64 (by omega) (by omega)]; push_cast; omega
    refine Ev.succ ?_
    simp only [laws_heldInt64S.l0, up_len, if_pos b1, if_pos b2, f3, f4, up_get a n i (by omega), if_true]
    exact hnext
theorem heldInts_ev (n : Nat) (hl : n ≤ 4194304) (a : Int) (h0 : 0 ≤ a) (h1 : a ≤ 1152921504606846976) : Ev (fun k => laws_heldInt64S.f k (up a n) a) (a + n) := by
  have := heldInts_loop n hl a h0 h1 n 0 (Nat.zero_add _)
  simpa [laws_heldInt64S.f] using this

end Go.Proofs.Yteeplponconnjaa.Br
namespace Go.Proofs.Yteeplponconnjaa.Pure
open Go.RowKit Go.Proofs.Yteeplponconnjaa.P Go.Proofs.YteeplponconnjaaW.PrintWords Go.Proofs.YteeplponconnjaaW.PrintLast Go.Proofs.YteeplponconnjaaW.PrintMore Go.Proofs.Yteeplponconnjaa.Br Go.Proofs.Yteeplponconnjaa.Th
set_option linter.unusedVariables false
set_option linter.unusedSimpArgs false

theorem FnExactAnswersOf : laws_FnExactAnswersOf.Pure := by
  intro l0 a h0 _
  have s0 : ∀ x ∈ l0, x.f1.size ≤ 9223372036854775807 := fun x hx => (h0.2 x hx).2
  refine Ev.rounds ?_
  unfold laws_FnExactAnswersOf.f
  by_cases c0 : (a.size : Int) > 1048576
  · simp only [if_pos c0]; exact Ev.now _
  simp only [if_neg c0]
  have na : a.size ≤ 1048576 := by omega
  obtain ⟨r, hr, hr2⟩ := szQuery_ev l0 1048576 (by omega) (by omega) h0.1 s0
  refine Ev.bind hr ?_
  by_cases n0 : r < 0
  · simp only [if_pos n0]; exact Ev.now _
  simp only [if_neg n0]
  have t0 := toQuery_ev l0 (by omega)
  have len0 := toQ_length l0
  have hl : (toQ l0).length ≤ 1048576 := by omega
  obtain ⟨F, hF⟩ := markText_all
  have hs := sAnswers_ev (toQ l0) hl a na
  have hi := iAnswers_ev (toQ l0) hl a na
  have hR := ansR_len (toQ l0) a
  obtain ⟨R, eR⟩ : ∃ R, R = ansR (toQ l0) a := ⟨_, rfl⟩
  rw [← eR] at hs hi hR
  have c2 : ¬ (1 + 2 * ((toQ l0).length : Int)) < 0 := by omega
  have c3 : ¬ (1 : Int) + (R.1.length : Int) < 0 := by omega
  have hR4 : R.1.length ≤ 4194304 := by omega
  have eW := eqInts_ev R.1 hR4
  refine Ev.bind t0 (Ev.bind hs (Ev.bind t0 (Ev.bind hi (Ev.bind eW ?_))))
  simp only [if_true, bne_self_eq_false]
  refine Ev.succ ?_
  simp only [laws_FnExactAnswersOf.j0, Bool.false_eq_true, if_false]
  refine Ev.bind t0 (Ev.bind (eqQuery_ev _ hl) ?_)
  simp only [if_true]
  refine Ev.bind (markQ_ev F hF _ (by omega)) ?_
  simp only [if_neg c2]
  refine Ev.bind eW ?_
  simp only [if_true, bne_self_eq_false]
  refine Ev.succ ?_
  simp only [laws_FnExactAnswersOf.j1, Bool.false_eq_true, if_false]
  refine Ev.bind (markInts_ev R.1 hR4 1 (by decide) (by decide)) ?_
  refine Ev.bind (heldInts_ev R.1.length hR4 1 (by decide) (by decide)) ?_
  simp only [if_neg c3, if_true]
  refine Ev.bind t0 (Ev.bind hi (Ev.bind eW ?_))
  simp only [if_true, bne_self_eq_false]
  refine Ev.succ ?_
  simp only [laws_FnExactAnswersOf.j2, Bool.false_eq_true, if_false]
  refine Ev.bind (heldInts_ev R.1.length hR4 1 (by decide) (by decide)) ?_
  simp only [if_neg c3, if_true]
  exact Ev.now _
end Go.Proofs.Yteeplponconnjaa.Pure
namespace Go.Proofs.Yteeplponconnjaa.fnExactAnswersOf
open Go.ChangeShapes Go.WideShapes Go.ChangeAt Go.RowKit Go.Proofs.YteeplponconnjaaW.PrintWords Go.Proofs.YteeplponconnjaaW.PrintLast Go.Proofs.Yteeplponconnjaa.P
open Go.ChangeMaps (open_string shut_string)
set_option linter.unusedVariables false
def Of (P : Program) (t : TypeId) {α : Type} (d : Kd α) (ok : α → Prop) : Prop :=
 ∀ (H : Type) (enc : TypeId × Value → H) (W : World) (n : Nat) (cs : List Value) (x : DataW H × List MemPlace), DataW.trod enc P W 0 (fun _ => true) true n t cs = some x → ∃ v, d.K W v cs ∧ ok v
def OfFs (P : Program) (off : Nat) (fs : List Field) {α : Type} (d : Kd α) (ok : α → Prop) : Prop :=
 ∀ (H : Type) (enc : TypeId × Value → H) (W : World) (n : Nat) (cs : List Value), cs.length = off + d.sz →
  (∀ f ∈ fs, ∃ y, DataW.trod enc P W 0 (fun _ => true) true n f.type ((cs.drop f.offset).take (P.cellsOf f.type)) = some y) → ∃ v, d.K W v (cs.drop off) ∧ ok v
section
variable {P : Program} {t : TypeId}
theorem of_bool (ht : P.underlying t = some .bool) : Of P t Kd.bool (fun _ => True) := by
 intro H enc W n cs x h
 obtain ⟨v, rfl, _⟩ := DataW.trod_bool ht h
 exact ⟨v, rfl, trivial⟩
theorem of_string (ht : P.underlying t = some .string) : Of P t Kd.string (fun s => s.size ≤ maxLen) := by
 intro H enc W n cs x h
 obtain ⟨v, rfl, _, hw⟩ := DataW.trod_string ht h
 exact ⟨v, rfl, hw⟩
theorem of_iso {α β : Type} {d : Kd α} {f : β → α} {ok : α → Prop} (h : Of P t d ok) (g : α → β) (hg : ∀ y, f (g y) = y) : Of P t (Kd.iso d f) (fun x => ok (f x)) := by
 intro H enc W n cs x hx
 obtain ⟨v, hK, ho⟩ := h H enc W n cs x hx
 exact ⟨g v, by show d.K W (f (g v)) cs; rw [hg]; exact hK, by show ok (f (g v)); rw [hg]; exact ho⟩
theorem of_slice {e : TypeId} {α : Type} {d : Kd α} {ok : α → Prop} (ht : P.underlying t = some (.slice e)) (hC : P.cellsOf e = d.sz) (he : Of P e d ok) :
  Of P t (Kd.slice e d) (fun l => l.length ≤ maxLen ∧ ∀ x ∈ l, ok x) := by
 intro H enc W fuel cs x h
 rcases Go.Deep.open_slice ht h with ⟨rfl, _⟩ | ⟨a, len, cap, m, n, D, Pl, rfl, _, hl, hm, hmm, _, hi⟩
 ·exact ⟨[], ⟨none, 0, rfl, Nat.le_refl _, Kd.C_nil _ _⟩, by simp, by simp⟩
 ·have hle : len ≤ m := by rw [hmm]; simpa using hl
  have key : ∀ q, q ≤ len → ∃ l : List α, l.length = q ∧ ∀ j p, l[j]? = some p → ∃ cs', W.cells? 0 (a.add (j * d.sz)) d.sz = some cs' ∧ d.K W p cs' ∧ ok p := by
   intro q
   induction q with
   | zero => exact fun _ => ⟨[], rfl, fun j p hj => by simp at hj⟩
   | succ q ih =>
    intro hq
    obtain ⟨l, hll, hp⟩ := ih (by omega)
    obtain ⟨cs', h1, h2⟩ := hi q (by omega)
    rw [hC] at h1
    obtain ⟨v, hK, ho⟩ := he H enc W n cs' _ h2
    refine ⟨l ++ [v], by simp [hll], fun j p hj => ?_⟩
    by_cases hjl : j < l.length
    ·rw [List.getElem?_append_left hjl] at hj
     exact hp j p hj
    ·have hj2 : j = l.length := by
      have := (List.getElem?_eq_some_iff.1 hj).1
      simp at this
      omega
     subst hj2
     simp at hj
     subst hj
     exact ⟨cs', by rw [hll]; exact h1, hK, ho⟩
  obtain ⟨l, hll, hp⟩ := key len (Nat.le_refl _)
  have hlm : l.length ≤ maxLen := by rw [hll]; exact Nat.le_trans hl hm
  refine ⟨l, ⟨some a, cap, by rw [hll], by omega, ⟨rfl, hlm, fun _ => ⟨a, rfl, fun j p hj => ?_⟩⟩⟩, hlm, fun p hpm => ?_⟩
  ·obtain ⟨cs', h1, hK, _⟩ := hp j p hj
   obtain ⟨_, hlen, hat⟩ := World.cells?_some h1
   refine ⟨cs', hlen, hK, fun i u hu => ?_⟩
   have hlt : i < d.sz := by rw [← hlen]; exact (List.getElem?_eq_some_iff.1 hu).1
   rw [← Go.Deep.add_add, hat i hlt, hu]
  ·obtain ⟨j, hj⟩ := List.getElem?_of_mem hpm
   obtain ⟨_, _, _, ho⟩ := hp j p hj
   exact ho
theorem fs_one {f : Field} {off : Nat} {α : Type} {d : Kd α} {ok : α → Prop} (ho : f.offset = off) (hC : P.cellsOf f.type = d.sz) (h : Of P f.type d ok) : OfFs P off [f] d ok := by
 intro H enc W n cs hl hf
 obtain ⟨y, hy⟩ := hf f (by simp)
 rw [ho, hC, List.take_of_length_le (by simp; omega)] at hy
 exact h H enc W n _ y hy
theorem fs_more {f : Field} {fs : List Field} {off : Nat} {α β : Type} {d : Kd α} {d2 : Kd β} {ok : α → Prop} {ok2 : β → Prop} (ho : f.offset = off) (hC : P.cellsOf f.type = d.sz) (h : Of P f.type d ok) (h2 : OfFs P (off + d.sz) fs d2 ok2) :
  OfFs P off (f :: fs) (Kd.pair d d2) (fun p => ok p.1 ∧ ok2 p.2) := by
 intro H enc W n cs hl hf
 have hl' : cs.length = off + d.sz + d2.sz := hl.trans (Nat.add_assoc _ _ _).symm
 obtain ⟨y, hy⟩ := hf f (by simp)
 rw [ho, hC] at hy
 obtain ⟨v, hK, hv⟩ := h H enc W n _ y hy
 obtain ⟨v2, hK2, hv2⟩ := h2 H enc W n cs hl' (fun g hg => hf g (List.mem_cons_of_mem _ hg))
 refine ⟨(v, v2), ⟨(cs.drop off).take d.sz, cs.drop (off + d.sz), ?_, hK, hK2⟩, hv, hv2⟩
 rw [← List.drop_drop, List.take_append_drop]
theorem of_struct {fs : Array Field} {α : Type} {d : Kd α} {ok : α → Prop} (ht : P.underlying t = some (.struct fs)) (hC : P.cellsOf t = d.sz) (h : OfFs P 0 fs.toList d ok) : Of P t d ok := by
 intro H enc W fuel cs x hx
 obtain ⟨xs, n, _, _, hlen, hxl, hf⟩ := DataW.trod_struct ht hx
 refine h H enc W n cs (by omega) (fun f hfm => ?_)
 obtain ⟨j, hj⟩ := List.getElem?_of_mem hfm
 have hj2 : fs[j]? = some f := by simpa using hj
 have hlt : j < xs.length := by rw [hxl]; exact (Array.getElem?_eq_some_iff.1 hj2).1
 exact ⟨_, (hf j f hj2).trans (List.getElem?_eq_getElem hlt)⟩
end
theorem own : ownKnob Try.prog.godebug = none := by kernel_rfl
theorem laidOut : laidOutB Try.prog = true := by kernel_rfl
theorem of4 : Of Try.prog 4 Kd.bool (fun _ : Bool => True) := of_bool Try.underlying4
theorem of9 : Of Try.prog 9 Kd.string (fun s : ByteArray => s.size ≤ maxLen) := of_string Try.underlying9
theorem of57 : Of Try.prog 57 k57 (fun x : S57 => (fun p : ((Bool) × (ByteArray)) => (fun _ : Bool => True) p.1 ∧ (fun s : ByteArray => s.size ≤ maxLen) p.2) (x.f0, x.f1)) := of_iso (f := fun x : S57 => (x.f0, x.f1)) (of_struct Try.underlying57 (by kernel_rfl) (fs_more (ok := (fun _ : Bool => True)) (ok2 := (fun s : ByteArray => s.size ≤ maxLen)) (by rfl) (by kernel_rfl) of4 (fs_one (by rfl) (by kernel_rfl) of9))) (fun y => ⟨y.1, y.2⟩) (fun _ => rfl)
theorem of22 : Of Try.prog 22 (Kd.slice 57 k57) (fun l : List (S57) => l.length ≤ maxLen ∧ ∀ x ∈ l, (fun x : S57 => (fun p : ((Bool) × (ByteArray)) => (fun _ : Bool => True) p.1 ∧ (fun s : ByteArray => s.size ≤ maxLen) p.2) (x.f0, x.f1)) x) := of_slice Try.underlying22 (by kernel_rfl) of57
theorem of24t : Of Try.prog 24 (Kd.slice 57 k57) (fun l : List (S57) => l.length ≤ maxLen ∧ ∀ x ∈ l, (fun x : S57 => (fun p : ((Bool) × (ByteArray)) => (fun _ : Bool => True) p.1 ∧ (fun s : ByteArray => s.size ≤ maxLen) p.2) (x.f0, x.f1)) x) := by
 refine of_struct Try.underlying24 (by kernel_rfl) ?_
 exact (fs_one (by rfl) (by kernel_rfl) of22)
set_option maxRecDepth 100000 in
set_option maxHeartbeats 4000000 in
theorem lifted (os : Os) (started : os.Started) (H : Type) (enc : TypeId × Value → H) :
  ReturnsInHanded {} Try.checked os 4 .any (Rows.fnExactAnswersOfSpec.pre6 enc Try.prog Try.f4 Rows.fnExactAnswersOfRow.domain false) (Rows.fnExactAnswersOfSpec.post enc Try.prog Try.f4 false true false false) := by
 refine returnsInHanded_of_change_sized (C := Try.checked) own started (by kernel_rfl) Try.func4
  (ChangeSpec.witness6 (enc := enc) (C := Try.checked) false ⟨#[], #[.agg #[.slice none 0 0], .string ByteArray.empty], []⟩ 8 (by kernel_rfl) (by kernel_rfl) (by kernel_rfl) (by kernel_rfl)) ?_
 intro W base args ds gs before hval0 hW hcnd hsz0 _
 have hval : ∀ (j : Nat) t v, Try.f4.params[j]? = some t → args[j]? = some v → Value.okWide Try.prog W .any base t v := hval0
 have hW' := hW
 obtain ⟨p, q, hA0, hV, rfl, hfz, hnd⟩ := hW
 have hA : DataW.TrodAll enc Try.prog W 0 (fun _ => true) true Try.f4.params.toList args.toList ds p := hA0
 rw [Try.params4] at hA hval
 obtain ⟨v0, vs0, d0, ds0, p0, q0, hargs, rfl, rfl, h0, r0⟩ := trodAll_cons hA
 obtain ⟨v1, vs1, d1, ds1, p1, q1, rfl, rfl, rfl, h1, r1⟩ := trodAll_cons r0
 obtain ⟨rfl, rfl, rfl⟩ := trodAll_nil r1
 obtain rfl : args = #[v0, v1] := by cases args; simp_all
 obtain ⟨rfl, rfl⟩ := trodVars_none hV
 have k0 := h0
 have lt0 : ∀ x ∈ p0, x.block < W.heap.size := by obtain ⟨m, hm⟩ := k0; exact DataW.trod_lt m _ _ _ hm
 obtain ⟨fu0, hf0⟩ := h0
 obtain ⟨x0, hK0, ho0⟩ := of24t H enc W _ _ _ hf0
 obtain ⟨cs0, rfl, _⟩ := okWide_struct Try.underlying24 (hval 0 24 v0 rfl rfl)
 obtain ⟨A0_0, c0_0, hcs0, hc0_0, hr0_0⟩ := hK0
 obtain rfl : cs0 = #[.slice A0_0 x0.length c0_0] := by
  have hcs_ : cs0.toList = _ := hcs0
  exact Array.toList_inj.1 (hcs_.trans rfl)
 obtain ⟨a1, rfl, rfl, rfl, y1⟩ := open_string Try.underlying9 (hval 1 9 v1 rfl rfl) h1
 clear hA0 hval0 hsz0
 obtain ⟨k, hk⟩ := Pure.FnExactAnswersOf x0 a1 ho0 y1
 refine (P.laws_FnExactAnswersOf.calls k A0_0 c0_0 x0 a1 true W hr0_0 hc0_0 hk).mono fun e W' hp => ?_
 obtain ⟨he, bel0⟩ := hp
 have bel : Below W.heap.size W W' := bel0
 subst he
 exact ⟨_, rfl, _, _, _, [], _, [], hW', trodAll_mk1 (shut_bool Try.underlying4 _), (trodAll_cons_mk (Below.trod laidOut (by kernel_rfl) (oT (by kernel_rfl)) k0 bel lt0) (trodAll_cons_mk (shut_string Try.underlying9 y1) trodAll_mk0)), rfl, bel.frame _, fun h => by cases h⟩
end Go.Proofs.Yteeplponconnjaa.fnExactAnswersOf
