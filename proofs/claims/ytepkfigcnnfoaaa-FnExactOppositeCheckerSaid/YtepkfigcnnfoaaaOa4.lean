/- Texts that this law leans on, several in one; written by programs of these sessions (print, wip/deep, gather.py). -/
import Derived.Test.YtepkfigcnnfoaaaOa3
namespace Go.Proofs.Ytepkfigcnnfoaaa.P
open Go.RowKit Go.Proofs.YtepkfigcnnfoaaaW.PrintWords Go.Proofs.YtepkfigcnnfoaaaW.PrintLast Go.Proofs.YtepkfigcnnfoaaaW.PrintMore
attribute [local go_sem] max2_int min2_int max_two min_two max_three min_three max_four min_four
set_option linter.unusedVariables false
set_option linter.unusedSimpArgs false
def laws_szBoolS.f (l0 : List Bool) (a1 : Int) : Option (Int) := if (wrap64 (a1 - (l0.length : Int))) < 0 then (some (-1)) else (some (wrap64 (a1 - (l0.length : Int))))
set_option maxHeartbeats 8000000 in
set_option maxRecDepth 100000 in
theorem laws_szBoolS.calls (A0 : Option Addr) (c0 : Nat) (l0 : List Bool) (a1 : Int) (r : Int) (w : World) (hr0 : Kd.C Kd.bool w A0 l0.length l0) (hc0 : l0.length ≤ c0) (h : laws_szBoolS.f l0 a1 = some r) :
  Calls Try.prog 66 #[.slice A0 l0.length c0, .int .i64 a1] w fun e w' => e = .returned (.int .i64 r) ∧ Drawn0 w w' := by
 have HR0 := AZ.mk hr0
 have HC0 := AZ.mk hc0
 clear hr0 hc0
 have H : (if (wrap64 (a1 - (l0.length : Int))) < 0 then (some (-1)) else (some (wrap64 (a1 - (l0.length : Int))))) = some r := h
 clear h
 by_cases c3 : (wrap64 (a1 - (l0.length : Int))) < 0
 ·rw [if_pos c3] at H
  have c3b0 : decide ((wrap64 (a1 - (l0.length : Int))) < 0) = true := decide_eq_true c3
  clear c3
  obtain rfl := Option.some.inj H
  go_enter Try.func66, Try.ntmps66
  go_wp2
  go_ret
  exact ⟨by first | rfl | (simp; done) | (simp [*]; done), by repeat (first | exact Drawn0.refl _ | apply Drawn0.step)⟩
 rw [if_neg c3] at H
 have c3b0 : decide ((wrap64 (a1 - (l0.length : Int))) < 0) = false := decide_eq_false c3
 clear c3
 obtain rfl := Option.some.inj H
 go_enter Try.func66, Try.ntmps66
 go_wp2
 go_ret
 exact ⟨by first | rfl | (simp; done) | (simp [*]; done), by repeat (first | exact Drawn0.refl _ | apply Drawn0.step)⟩
end Go.Proofs.Ytepkfigcnnfoaaa.P
namespace Go.Proofs.Ytepkfigcnnfoaaa.P
open Go.RowKit Go.Proofs.YtepkfigcnnfoaaaW.PrintWords Go.Proofs.YtepkfigcnnfoaaaW.PrintLast Go.Proofs.YtepkfigcnnfoaaaW.PrintMore
attribute [local go_sem] max2_int min2_int max_two min_two max_three min_three max_four min_four
set_option linter.unusedVariables false
set_option linter.unusedSimpArgs false
def laws_szPushS.f (l0 : List (S101)) (a1 : Int) : Option (Int) := if (wrap64 (a1 - (l0.length : Int))) < 0 then (some (-1)) else (some (wrap64 (a1 - (l0.length : Int))))
set_option maxHeartbeats 8000000 in
set_option maxRecDepth 100000 in
theorem laws_szPushS.calls (A0 : Option Addr) (c0 : Nat) (l0 : List (S101)) (a1 : Int) (r : Int) (w : World) (hr0 : Kd.C k101 w A0 l0.length l0) (hc0 : l0.length ≤ c0) (h : laws_szPushS.f l0 a1 = some r) :
  Calls Try.prog 91 #[.slice A0 l0.length c0, .int .i64 a1] w fun e w' => e = .returned (.int .i64 r) ∧ Drawn0 w w' := by
 have HR0 := AZ.mk hr0
 have HC0 := AZ.mk hc0
 clear hr0 hc0
 have H : (if (wrap64 (a1 - (l0.length : Int))) < 0 then (some (-1)) else (some (wrap64 (a1 - (l0.length : Int))))) = some r := h
 clear h
 by_cases c3 : (wrap64 (a1 - (l0.length : Int))) < 0
 ·rw [if_pos c3] at H
  have c3b0 : decide ((wrap64 (a1 - (l0.length : Int))) < 0) = true := decide_eq_true c3
  clear c3
  obtain rfl := Option.some.inj H
  go_enter Try.func91, Try.ntmps91
  go_wp2
  go_ret
  exact ⟨by first | rfl | (simp; done) | (simp [*]; done), by repeat (first | exact Drawn0.refl _ | apply Drawn0.step)⟩
 rw [if_neg c3] at H
 have c3b0 : decide ((wrap64 (a1 - (l0.length : Int))) < 0) = false := decide_eq_false c3
 clear c3
 obtain rfl := Option.some.inj H
 go_enter Try.func91, Try.ntmps91
 go_wp2
 go_ret
 exact ⟨by first | rfl | (simp; done) | (simp [*]; done), by repeat (first | exact Drawn0.refl _ | apply Drawn0.step)⟩
end Go.Proofs.Ytepkfigcnnfoaaa.P
namespace Go.Proofs.Ytepkfigcnnfoaaa.P
open Go.RowKit Go.Proofs.YtepkfigcnnfoaaaW.PrintWords Go.Proofs.YtepkfigcnnfoaaaW.PrintLast Go.Proofs.YtepkfigcnnfoaaaW.PrintMore
attribute [local go_sem] max2_int min2_int max_two min_two max_three min_three max_four min_four
set_option linter.unusedVariables false
set_option linter.unusedSimpArgs false
def laws_szPushSS.l0 : Nat → List (List (S101)) → Int → Int → Option (Int)
 | 0, _, _, _ => none
 | k + 1, x0, x1, x5 => if x5 < (x0.length : Int) then (if 0 ≤ x5 then ((laws_szPushS.f (rd_L9 x0 x5) x1).bind fun t315 => (if t315 < 0 then (some (-1)) else (laws_szPushSS.l0 k x0 t315 (wrap64 (x5 + 1))))) else (none)) else (some x1)
def laws_szPushSS.f (k : Nat) (l0 : List (List (S101))) (a1 : Int) : Option (Int) := if (wrap64 (a1 - (l0.length : Int))) < 0 then (some (-1)) else (laws_szPushSS.l0 k l0 (wrap64 (a1 - (l0.length : Int))) 0)
set_option maxHeartbeats 8000000 in
set_option maxRecDepth 100000 in
theorem laws_szPushSS.calls (k : Nat) (A0 : Option Addr) (c0 : Nat) (l0 : List (List (S101))) (a1 : Int) (r : Int) (w : World) (hr0 : Kd.C (Kd.slice 101 k101) w A0 l0.length l0) (hc0 : l0.length ≤ c0) (h : laws_szPushSS.f k l0 a1 = some r) :
  Calls Try.prog 67 #[.slice A0 l0.length c0, .int .i64 a1] w fun e w' => e = .returned (.int .i64 r) ∧ Drawn0 w w' := by
 have HR0 := AZ.mk hr0
 have HC0 := AZ.mk hc0
 clear hr0 hc0
 have H : (if (wrap64 (a1 - (l0.length : Int))) < 0 then (some (-1)) else (laws_szPushSS.l0 k l0 (wrap64 (a1 - (l0.length : Int))) 0)) = some r := h
 clear h
 by_cases c3 : (wrap64 (a1 - (l0.length : Int))) < 0
 ·rw [if_pos c3] at H
  have c3b0 : decide ((wrap64 (a1 - (l0.length : Int))) < 0) = true := decide_eq_true c3
  clear c3
  obtain rfl := Option.some.inj H
  go_enter Try.func67, Try.ntmps67
  go_wp2
  go_ret
  exact ⟨by first | rfl | (simp; done) | (simp [*]; done), by repeat (first | exact Drawn0.refl _ | apply Drawn0.step)⟩
 rw [if_neg c3] at H
 have c3b0 : decide ((wrap64 (a1 - (l0.length : Int))) < 0) = false := decide_eq_false c3
 clear c3
 have H' := AZ.mk H
 clear H
 go_enter Try.func67, Try.ntmps67
 go_wp2
 go_loopg [1, 5] k (fun kq v1 v5 w' => ∃ (x1_1 : Int) (x5_1 : Int), v1 = .int .i64 x1_1 ∧ v5 = .int .i64 x5_1 ∧ AZ (laws_szPushSS.l0 kq l0 x1_1 x5_1 = some r) ∧ AZ (kq ≤ k) ∧ Drawn0 w w')
 case atStart => exact ⟨(wrap64 (a1 - (l0.length : Int))), (0), (by first | rfl | (simp; done) | (simp [*]; done)), (by first | rfl | (simp; done) | (simp [*]; done)), H', ⟨Nat.le_refl _⟩, by repeat (first | exact Drawn0.refl _ | apply Drawn0.step)⟩
 case round =>
  clear H'
  try clear p2
  try clear c3
  try clear c3b0
  obtain ⟨x1_1, x5_1, rfl, rfl, HA, HK1, ⟨m1, rfl⟩⟩ := hrel
  cases gk with
  | zero => exact absurd HA.out (by simp [laws_szPushSS.l0])
  | succ k1 =>
   have H := HA.out
   clear HA
   simp only [laws_szPushSS.l0] at H
   by_cases c4 : x5_1 < (l0.length : Int)
   rotate_left
   ·rw [if_neg c4] at H
    have c4b0 : decide (x5_1 < (l0.length : Int)) = false := decide_eq_false c4
    clear c4
    obtain rfl := Option.some.inj H
    go_wp2
    go_ret
    exact ⟨by first | rfl | (simp; done) | (simp [*]; done), by repeat (first | exact Drawn0.refl _ | apply Drawn0.step)⟩
   rw [if_pos c4] at H
   have c4b0 : decide (x5_1 < (l0.length : Int)) = true := decide_eq_true c4
   clear c4
   by_cases c5 : 0 ≤ x5_1
   rotate_left
   ·rw [if_neg c5] at H
    exact absurd H (by simp)
   rw [if_pos c5] at H
   have c5b0 : decide (0 ≤ x5_1) = true := decide_eq_true c5
   clear c5
   replace H := Option.bind_eq_some_iff.mp H
   obtain ⟨t315, A60, H⟩ := H
   replace H : (if t315 < 0 then (some (-1)) else (laws_szPushSS.l0 k1 l0 t315 (wrap64 (x5_1 + 1)))) = some r := H
   have A6 := AZ.mk A60
   clear A60
   by_cases c7 : t315 < 0
   ·rw [if_pos c7] at H
    have c7b0 : decide (t315 < 0) = true := decide_eq_true c7
    clear c7
    obtain rfl := Option.some.inj H
    have p314 : 0 ≤ (x5_1 : Int) := oT (by first | (with_reducible assumption) | assumption)
    have q314 : x5_1 < (l0.length : Int) := oT (by first | (with_reducible assumption) | assumption)
    obtain ⟨ad314, A314_0, c314_0, e314, hx314_0, hl314_0, hi314_0⟩ := at_L9 HR0.out x5_1 p314 q314
    cases e314
    have HR314_0 := AZ.mk hi314_0
    have HC314_0 := AZ.mk hl314_0
    clear hi314_0 hl314_0
    replace p314 := eq_true p314
    replace q314 := eq_true q314
    go_wp2_with (first | ((with_reducible refine gate_callee (f := 91) rfl ?_); refine goesL_ (some 23) rfl rfl Try.func91 (by kernel_rfl) rfl #[.slice A314_0 (rd_L9 l0 x5_1).length c314_0, .int .i64 x1_1] rfl (by (try simp only [List.map_toArray, List.map_cons, List.map_nil]); first | done | rfl | (simp only [List.length_drop, List.length_take]; rfl)) ?_; (with_reducible refine (laws_szPushS.calls _ _ (rd_L9 l0 x5_1) x1_1 t315 _ ?side1 ?side2 A6.out).mono ?_); (case side1 => repeat (first | exact HR314_0.out | (with_reducible refine Kd.C_alloc ?_ _) | (with_reducible refine Kd.C_drewN ?_ _) | (with_reducible refine Kd.C_drew ?_))); (case side2 => exact HC314_0.out); rintro e w' ⟨rfl, ⟨nd, rfl⟩⟩; refine ⟨_, rfl, ?_⟩))
    go_ret
    exact ⟨by first | rfl | (simp; done) | (simp [*]; done), by repeat (first | exact Drawn0.refl _ | apply Drawn0.step)⟩
   rw [if_neg c7] at H
   have c7b0 : decide (t315 < 0) = false := decide_eq_false c7
   clear c7
   have H' := AZ.mk H
   clear H
   have p314 : 0 ≤ (x5_1 : Int) := oT (by first | (with_reducible assumption) | assumption)
   have q314 : x5_1 < (l0.length : Int) := oT (by first | (with_reducible assumption) | assumption)
   obtain ⟨ad314, A314_0, c314_0, e314, hx314_0, hl314_0, hi314_0⟩ := at_L9 HR0.out x5_1 p314 q314
   cases e314
   have HR314_0 := AZ.mk hi314_0
   have HC314_0 := AZ.mk hl314_0
   clear hi314_0 hl314_0
   replace p314 := eq_true p314
   replace q314 := eq_true q314
   go_wp2_with (first | ((with_reducible refine gate_callee (f := 91) rfl ?_); refine goesL_ (some 23) rfl rfl Try.func91 (by kernel_rfl) rfl #[.slice A314_0 (rd_L9 l0 x5_1).length c314_0, .int .i64 x1_1] rfl (by (try simp only [List.map_toArray, List.map_cons, List.map_nil]); first | done | rfl | (simp only [List.length_drop, List.length_take]; rfl)) ?_; (with_reducible refine (laws_szPushS.calls _ _ (rd_L9 l0 x5_1) x1_1 t315 _ ?side1 ?side2 A6.out).mono ?_); (case side1 => repeat (first | exact HR314_0.out | (with_reducible refine Kd.C_alloc ?_ _) | (with_reducible refine Kd.C_drewN ?_ _) | (with_reducible refine Kd.C_drew ?_))); (case side2 => exact HC314_0.out); rintro e w' ⟨rfl, ⟨nd, rfl⟩⟩; refine ⟨_, rfl, ?_⟩))
   go_roundg k1
   case measure => have := HK1.out; omega
   case rel => exact ⟨(t315), (wrap64 (x5_1 + 1)), (by first | rfl | (simp; done) | (simp [*]; done)), (by first | rfl | (simp; done) | (simp [*]; done)), H', ⟨by have := HK1.out; omega⟩, by repeat (first | exact Drawn0.refl _ | apply Drawn0.step)⟩
end Go.Proofs.Ytepkfigcnnfoaaa.P
namespace Go.Proofs.Ytepkfigcnnfoaaa.P
open Go.RowKit Go.Proofs.YtepkfigcnnfoaaaW.PrintWords Go.Proofs.YtepkfigcnnfoaaaW.PrintLast Go.Proofs.YtepkfigcnnfoaaaW.PrintMore
attribute [local go_sem] max2_int min2_int max_two min_two max_three min_three max_four min_four
set_option linter.unusedVariables false
set_option linter.unusedSimpArgs false
def laws_szInt64S.f (l0 : List Int) (a1 : Int) : Option (Int) := if (wrap64 (a1 - (l0.length : Int))) < 0 then (some (-1)) else (some (wrap64 (a1 - (l0.length : Int))))
set_option maxHeartbeats 8000000 in
set_option maxRecDepth 100000 in
theorem laws_szInt64S.calls (A0 : Option Addr) (c0 : Nat) (l0 : List Int) (a1 : Int) (r : Int) (w : World) (hr0 : Kd.C (Kd.int .i64) w A0 l0.length l0) (hc0 : l0.length ≤ c0) (h : laws_szInt64S.f l0 a1 = some r) :
  Calls Try.prog 92 #[.slice A0 l0.length c0, .int .i64 a1] w fun e w' => e = .returned (.int .i64 r) ∧ Drawn0 w w' := by
 have HR0 := AZ.mk hr0
 have HC0 := AZ.mk hc0
 clear hr0 hc0
 have H : (if (wrap64 (a1 - (l0.length : Int))) < 0 then (some (-1)) else (some (wrap64 (a1 - (l0.length : Int))))) = some r := h
 clear h
 by_cases c3 : (wrap64 (a1 - (l0.length : Int))) < 0
 ·rw [if_pos c3] at H
  have c3b0 : decide ((wrap64 (a1 - (l0.length : Int))) < 0) = true := decide_eq_true c3
  clear c3
  obtain rfl := Option.some.inj H
  go_enter Try.func92, Try.ntmps92
  go_wp2
  go_ret
  exact ⟨by first | rfl | (simp; done) | (simp [*]; done), by repeat (first | exact Drawn0.refl _ | apply Drawn0.step)⟩
 rw [if_neg c3] at H
 have c3b0 : decide ((wrap64 (a1 - (l0.length : Int))) < 0) = false := decide_eq_false c3
 clear c3
 obtain rfl := Option.some.inj H
 go_enter Try.func92, Try.ntmps92
 go_wp2
 go_ret
 exact ⟨by first | rfl | (simp; done) | (simp [*]; done), by repeat (first | exact Drawn0.refl _ | apply Drawn0.step)⟩
end Go.Proofs.Ytepkfigcnnfoaaa.P
namespace Go.Proofs.Ytepkfigcnnfoaaa.P
open Go.RowKit Go.Proofs.YtepkfigcnnfoaaaW.PrintWords Go.Proofs.YtepkfigcnnfoaaaW.PrintLast Go.Proofs.YtepkfigcnnfoaaaW.PrintMore
attribute [local go_sem] max2_int min2_int max_two min_two max_three min_three max_four min_four
set_option linter.unusedVariables false
set_option linter.unusedSimpArgs false
def laws_szInt64SS.l0 : Nat → List (List Int) → Int → Int → Option (Int)
 | 0, _, _, _ => none
 | k + 1, x0, x1, x5 => if x5 < (x0.length : Int) then (if 0 ≤ x5 then ((laws_szInt64S.f (rd_L4 x0 x5) x1).bind fun t317 => (if t317 < 0 then (some (-1)) else (laws_szInt64SS.l0 k x0 t317 (wrap64 (x5 + 1))))) else (none)) else (some x1)
def laws_szInt64SS.f (k : Nat) (l0 : List (List Int)) (a1 : Int) : Option (Int) := if (wrap64 (a1 - (l0.length : Int))) < 0 then (some (-1)) else (laws_szInt64SS.l0 k l0 (wrap64 (a1 - (l0.length : Int))) 0)
set_option maxHeartbeats 8000000 in
set_option maxRecDepth 100000 in
theorem laws_szInt64SS.calls (k : Nat) (A0 : Option Addr) (c0 : Nat) (l0 : List (List Int)) (a1 : Int) (r : Int) (w : World) (hr0 : Kd.C (Kd.slice 2 (Kd.int .i64)) w A0 l0.length l0) (hc0 : l0.length ≤ c0) (h : laws_szInt64SS.f k l0 a1 = some r) :
  Calls Try.prog 69 #[.slice A0 l0.length c0, .int .i64 a1] w fun e w' => e = .returned (.int .i64 r) ∧ Drawn0 w w' := by
 have HR0 := AZ.mk hr0
 have HC0 := AZ.mk hc0
 clear hr0 hc0
 have H : (if (wrap64 (a1 - (l0.length : Int))) < 0 then (some (-1)) else (laws_szInt64SS.l0 k l0 (wrap64 (a1 - (l0.length : Int))) 0)) = some r := h
 clear h
 by_cases c3 : (wrap64 (a1 - (l0.length : Int))) < 0
 ·rw [if_pos c3] at H
  have c3b0 : decide ((wrap64 (a1 - (l0.length : Int))) < 0) = true := decide_eq_true c3
  clear c3
  obtain rfl := Option.some.inj H
  go_enter Try.func69, Try.ntmps69
  go_wp2
  go_ret
  exact ⟨by first | rfl | (simp; done) | (simp [*]; done), by repeat (first | exact Drawn0.refl _ | apply Drawn0.step)⟩
 rw [if_neg c3] at H
 have c3b0 : decide ((wrap64 (a1 - (l0.length : Int))) < 0) = false := decide_eq_false c3
 clear c3
 have H' := AZ.mk H
 clear H
 go_enter Try.func69, Try.ntmps69
 go_wp2
 go_loopg [1, 5] k (fun kq v1 v5 w' => ∃ (x1_1 : Int) (x5_1 : Int), v1 = .int .i64 x1_1 ∧ v5 = .int .i64 x5_1 ∧ AZ (laws_szInt64SS.l0 kq l0 x1_1 x5_1 = some r) ∧ AZ (kq ≤ k) ∧ Drawn0 w w')
 case atStart => exact ⟨(wrap64 (a1 - (l0.length : Int))), (0), (by first | rfl | (simp; done) | (simp [*]; done)), (by first | rfl | (simp; done) | (simp [*]; done)), H', ⟨Nat.le_refl _⟩, by repeat (first | exact Drawn0.refl _ | apply Drawn0.step)⟩
 case round =>
  clear H'
  try clear p2
  try clear c3
  try clear c3b0
  obtain ⟨x1_1, x5_1, rfl, rfl, HA, HK1, ⟨m1, rfl⟩⟩ := hrel
  cases gk with
  | zero => exact absurd HA.out (by simp [laws_szInt64SS.l0])
  | succ k1 =>
   have H := HA.out
   clear HA
   simp only [laws_szInt64SS.l0] at H
   by_cases c4 : x5_1 < (l0.length : Int)
   rotate_left
   ·rw [if_neg c4] at H
    have c4b0 : decide (x5_1 < (l0.length : Int)) = false := decide_eq_false c4
    clear c4
    obtain rfl := Option.some.inj H
    go_wp2
    go_ret
    exact ⟨by first | rfl | (simp; done) | (simp [*]; done), by repeat (first | exact Drawn0.refl _ | apply Drawn0.step)⟩
   rw [if_pos c4] at H
   have c4b0 : decide (x5_1 < (l0.length : Int)) = true := decide_eq_true c4
   clear c4
   by_cases c5 : 0 ≤ x5_1
   rotate_left
   ·rw [if_neg c5] at H
    exact absurd H (by simp)
   rw [if_pos c5] at H
   have c5b0 : decide (0 ≤ x5_1) = true := decide_eq_true c5
   clear c5
   replace H := Option.bind_eq_some_iff.mp H
   obtain ⟨t317, A60, H⟩ := H
   replace H : (if t317 < 0 then (some (-1)) else (laws_szInt64SS.l0 k1 l0 t317 (wrap64 (x5_1 + 1)))) = some r := H
   have A6 := AZ.mk A60
   clear A60
   by_cases c7 : t317 < 0
   ·rw [if_pos c7] at H
    have c7b0 : decide (t317 < 0) = true := decide_eq_true c7
    clear c7
    obtain rfl := Option.some.inj H
    have p316 : 0 ≤ (x5_1 : Int) := oT (by first | (with_reducible assumption) | assumption)
    have q316 : x5_1 < (l0.length : Int) := oT (by first | (with_reducible assumption) | assumption)
    obtain ⟨ad316, A316_0, c316_0, e316, hx316_0, hl316_0, hi316_0⟩ := at_L4 HR0.out x5_1 p316 q316
    cases e316
    have HR316_0 := AZ.mk hi316_0
    have HC316_0 := AZ.mk hl316_0
    clear hi316_0 hl316_0
    replace p316 := eq_true p316
    replace q316 := eq_true q316
    go_wp2_with (first | ((with_reducible refine gate_callee (f := 92) rfl ?_); refine goesL_ (some 23) rfl rfl Try.func92 (by kernel_rfl) rfl #[.slice A316_0 (rd_L4 l0 x5_1).length c316_0, .int .i64 x1_1] rfl (by (try simp only [List.map_toArray, List.map_cons, List.map_nil]); first | done | rfl | (simp only [List.length_drop, List.length_take]; rfl)) ?_; (with_reducible refine (laws_szInt64S.calls _ _ (rd_L4 l0 x5_1) x1_1 t317 _ ?side1 ?side2 A6.out).mono ?_); (case side1 => repeat (first | exact HR316_0.out | (with_reducible refine Kd.C_alloc ?_ _) | (with_reducible refine Kd.C_drewN ?_ _) | (with_reducible refine Kd.C_drew ?_))); (case side2 => exact HC316_0.out); rintro e w' ⟨rfl, ⟨nd, rfl⟩⟩; refine ⟨_, rfl, ?_⟩))
    go_ret
    exact ⟨by first | rfl | (simp; done) | (simp [*]; done), by repeat (first | exact Drawn0.refl _ | apply Drawn0.step)⟩
   rw [if_neg c7] at H
   have c7b0 : decide (t317 < 0) = false := decide_eq_false c7
   clear c7
   have H' := AZ.mk H
   clear H
   have p316 : 0 ≤ (x5_1 : Int) := oT (by first | (with_reducible assumption) | assumption)
   have q316 : x5_1 < (l0.length : Int) := oT (by first | (with_reducible assumption) | assumption)
   obtain ⟨ad316, A316_0, c316_0, e316, hx316_0, hl316_0, hi316_0⟩ := at_L4 HR0.out x5_1 p316 q316
   cases e316
   have HR316_0 := AZ.mk hi316_0
   have HC316_0 := AZ.mk hl316_0
   clear hi316_0 hl316_0
   replace p316 := eq_true p316
   replace q316 := eq_true q316
   go_wp2_with (first | ((with_reducible refine gate_callee (f := 92) rfl ?_); refine goesL_ (some 23) rfl rfl Try.func92 (by kernel_rfl) rfl #[.slice A316_0 (rd_L4 l0 x5_1).length c316_0, .int .i64 x1_1] rfl (by (try simp only [List.map_toArray, List.map_cons, List.map_nil]); first | done | rfl | (simp only [List.length_drop, List.length_take]; rfl)) ?_; (with_reducible refine (laws_szInt64S.calls _ _ (rd_L4 l0 x5_1) x1_1 t317 _ ?side1 ?side2 A6.out).mono ?_); (case side1 => repeat (first | exact HR316_0.out | (with_reducible refine Kd.C_alloc ?_ _) | (with_reducible refine Kd.C_drewN ?_ _) | (with_reducible refine Kd.C_drew ?_))); (case side2 => exact HC316_0.out); rintro e w' ⟨rfl, ⟨nd, rfl⟩⟩; refine ⟨_, rfl, ?_⟩))
   go_roundg k1
   case measure => have := HK1.out; omega
   case rel => exact ⟨(t317), (wrap64 (x5_1 + 1)), (by first | rfl | (simp; done) | (simp [*]; done)), (by first | rfl | (simp; done) | (simp [*]; done)), H', ⟨by have := HK1.out; omega⟩, by repeat (first | exact Drawn0.refl _ | apply Drawn0.step)⟩
end Go.Proofs.Ytepkfigcnnfoaaa.P
namespace Go.Proofs.Ytepkfigcnnfoaaa.P
open Go.RowKit Go.Proofs.YtepkfigcnnfoaaaW.PrintWords Go.Proofs.YtepkfigcnnfoaaaW.PrintLast Go.Proofs.YtepkfigcnnfoaaaW.PrintMore
attribute [local go_sem] max2_int min2_int max_two min_two max_three min_three max_four min_four
set_option linter.unusedVariables false
set_option linter.unusedSimpArgs false
def laws_szInt64SSS.l0 : Nat → List (List (List Int)) → Int → Int → Option (Int)
 | 0, _, _, _ => none
 | k + 1, x0, x1, x5 => if x5 < (x0.length : Int) then (if 0 ≤ x5 then ((laws_szInt64SS.f k (rd_L5 x0 x5) x1).bind fun t319 => (if t319 < 0 then (some (-1)) else (laws_szInt64SSS.l0 k x0 t319 (wrap64 (x5 + 1))))) else (none)) else (some x1)
def laws_szInt64SSS.f (k : Nat) (l0 : List (List (List Int))) (a1 : Int) : Option (Int) := if (wrap64 (a1 - (l0.length : Int))) < 0 then (some (-1)) else (laws_szInt64SSS.l0 k l0 (wrap64 (a1 - (l0.length : Int))) 0)
set_option maxHeartbeats 8000000 in
set_option maxRecDepth 100000 in
theorem laws_szInt64SSS.calls (k : Nat) (A0 : Option Addr) (c0 : Nat) (l0 : List (List (List Int))) (a1 : Int) (r : Int) (w : World) (hr0 : Kd.C (Kd.slice 49 (Kd.slice 2 (Kd.int .i64))) w A0 l0.length l0) (hc0 : l0.length ≤ c0) (h : laws_szInt64SSS.f k l0 a1 = some r) :
  Calls Try.prog 68 #[.slice A0 l0.length c0, .int .i64 a1] w fun e w' => e = .returned (.int .i64 r) ∧ Drawn0 w w' := by
 have HR0 := AZ.mk hr0
 have HC0 := AZ.mk hc0
 clear hr0 hc0
 have H : (if (wrap64 (a1 - (l0.length : Int))) < 0 then (some (-1)) else (laws_szInt64SSS.l0 k l0 (wrap64 (a1 - (l0.length : Int))) 0)) = some r := h
 clear h
 by_cases c3 : (wrap64 (a1 - (l0.length : Int))) < 0
 ·rw [if_pos c3] at H
  have c3b0 : decide ((wrap64 (a1 - (l0.length : Int))) < 0) = true := decide_eq_true c3
  clear c3
  obtain rfl := Option.some.inj H
  go_enter Try.func68, Try.ntmps68
  go_wp2
  go_ret
  exact ⟨by first | rfl | (simp; done) | (simp [*]; done), by repeat (first | exact Drawn0.refl _ | apply Drawn0.step)⟩
 rw [if_neg c3] at H
 have c3b0 : decide ((wrap64 (a1 - (l0.length : Int))) < 0) = false := decide_eq_false c3
 clear c3
 have H' := AZ.mk H
 clear H
 go_enter Try.func68, Try.ntmps68
 go_wp2
 go_loopg [1, 5] k (fun kq v1 v5 w' => ∃ (x1_1 : Int) (x5_1 : Int), v1 = .int .i64 x1_1 ∧ v5 = .int .i64 x5_1 ∧ AZ (laws_szInt64SSS.l0 kq l0 x1_1 x5_1 = some r) ∧ AZ (kq ≤ k) ∧ Drawn0 w w')
 case atStart => exact ⟨(wrap64 (a1 - (l0.length : Int))), (0), (by first | rfl | (simp; done) | (simp [*]; done)), (by first | rfl | (simp; done) | (simp [*]; done)), H', ⟨Nat.le_refl _⟩, by repeat (first | exact Drawn0.refl _ | apply Drawn0.step)⟩
 case round =>
  clear H'
  try clear p2
  try clear c3
  try clear c3b0
  obtain ⟨x1_1, x5_1, rfl, rfl, HA, HK1, ⟨m1, rfl⟩⟩ := hrel
  cases gk with
  | zero => exact absurd HA.out (by simp [laws_szInt64SSS.l0])
  | succ k1 =>
   have H := HA.out
   clear HA
   simp only [laws_szInt64SSS.l0] at H
   by_cases c4 : x5_1 < (l0.length : Int)
   rotate_left
   ·rw [if_neg c4] at H
    have c4b0 : decide (x5_1 < (l0.length : Int)) = false := decide_eq_false c4
    clear c4
    obtain rfl := Option.some.inj H
    go_wp2
    go_ret
    exact ⟨by first | rfl | (simp; done) | (simp [*]; done), by repeat (first | exact Drawn0.refl _ | apply Drawn0.step)⟩
   rw [if_pos c4] at H
   have c4b0 : decide (x5_1 < (l0.length : Int)) = true := decide_eq_true c4
   clear c4
   by_cases c5 : 0 ≤ x5_1
   rotate_left
   ·rw [if_neg c5] at H
    exact absurd H (by simp)
   rw [if_pos c5] at H
   have c5b0 : decide (0 ≤ x5_1) = true := decide_eq_true c5
   clear c5
   replace H := Option.bind_eq_some_iff.mp H
   obtain ⟨t319, A60, H⟩ := H
   replace H : (if t319 < 0 then (some (-1)) else (laws_szInt64SSS.l0 k1 l0 t319 (wrap64 (x5_1 + 1)))) = some r := H
   have A6 := AZ.mk A60
   clear A60
   by_cases c7 : t319 < 0
   ·rw [if_pos c7] at H
    have c7b0 : decide (t319 < 0) = true := decide_eq_true c7
    clear c7
    obtain rfl := Option.some.inj H
    have p318 : 0 ≤ (x5_1 : Int) := oT (by first | (with_reducible assumption) | assumption)
    have q318 : x5_1 < (l0.length : Int) := oT (by first | (with_reducible assumption) | assumption)
    obtain ⟨ad318, A318_0, c318_0, e318, hx318_0, hl318_0, hi318_0⟩ := at_L5 HR0.out x5_1 p318 q318
    cases e318
    have HR318_0 := AZ.mk hi318_0
    have HC318_0 := AZ.mk hl318_0
    clear hi318_0 hl318_0
    replace p318 := eq_true p318
    replace q318 := eq_true q318
    go_wp2_with (first | ((with_reducible refine gate_callee (f := 69) rfl ?_); refine goesL_ (some 23) rfl rfl Try.func69 (by kernel_rfl) rfl #[.slice A318_0 (rd_L5 l0 x5_1).length c318_0, .int .i64 x1_1] rfl (by (try simp only [List.map_toArray, List.map_cons, List.map_nil]); first | done | rfl | (simp only [List.length_drop, List.length_take]; rfl)) ?_; (with_reducible refine (laws_szInt64SS.calls k1 _ _ (rd_L5 l0 x5_1) x1_1 t319 _ ?side1 ?side2 A6.out).mono ?_); (case side1 => repeat (first | exact HR318_0.out | (with_reducible refine Kd.C_alloc ?_ _) | (with_reducible refine Kd.C_drewN ?_ _) | (with_reducible refine Kd.C_drew ?_))); (case side2 => exact HC318_0.out); rintro e w' ⟨rfl, ⟨nd, rfl⟩⟩; refine ⟨_, rfl, ?_⟩))
    go_ret
    exact ⟨by first | rfl | (simp; done) | (simp [*]; done), by repeat (first | exact Drawn0.refl _ | apply Drawn0.step)⟩
   rw [if_neg c7] at H
   have c7b0 : decide (t319 < 0) = false := decide_eq_false c7
   clear c7
   have H' := AZ.mk H
   clear H
   have p318 : 0 ≤ (x5_1 : Int) := oT (by first | (with_reducible assumption) | assumption)
   have q318 : x5_1 < (l0.length : Int) := oT (by first | (with_reducible assumption) | assumption)
   obtain ⟨ad318, A318_0, c318_0, e318, hx318_0, hl318_0, hi318_0⟩ := at_L5 HR0.out x5_1 p318 q318
   cases e318
   have HR318_0 := AZ.mk hi318_0
   have HC318_0 := AZ.mk hl318_0
   clear hi318_0 hl318_0
   replace p318 := eq_true p318
   replace q318 := eq_true q318
   go_wp2_with (first | ((with_reducible refine gate_callee (f := 69) rfl ?_); refine goesL_ (some 23) rfl rfl Try.func69 (by kernel_rfl) rfl #[.slice A318_0 (rd_L5 l0 x5_1).length c318_0, .int .i64 x1_1] rfl (by (try simp only [List.map_toArray, List.map_cons, List.map_nil]); first | done | rfl | (simp only [List.length_drop, List.length_take]; rfl)) ?_; (with_reducible refine (laws_szInt64SS.calls k1 _ _ (rd_L5 l0 x5_1) x1_1 t319 _ ?side1 ?side2 A6.out).mono ?_); (case side1 => repeat (first | exact HR318_0.out | (with_reducible refine Kd.C_alloc ?_ _) | (with_reducible refine Kd.C_drewN ?_ _) | (with_reducible refine Kd.C_drew ?_))); (case side2 => exact HC318_0.out); rintro e w' ⟨rfl, ⟨nd, rfl⟩⟩; refine ⟨_, rfl, ?_⟩))
   go_roundg k1
   case measure => have := HK1.out; omega
   case rel => exact ⟨(t319), (wrap64 (x5_1 + 1)), (by first | rfl | (simp; done) | (simp [*]; done)), (by first | rfl | (simp; done) | (simp [*]; done)), H', ⟨by have := HK1.out; omega⟩, by repeat (first | exact Drawn0.refl _ | apply Drawn0.step)⟩
end Go.Proofs.Ytepkfigcnnfoaaa.P
namespace Go.Proofs.Ytepkfigcnnfoaaa.P
open Go.RowKit Go.Proofs.YtepkfigcnnfoaaaW.PrintWords Go.Proofs.YtepkfigcnnfoaaaW.PrintLast Go.Proofs.YtepkfigcnnfoaaaW.PrintMore
attribute [local go_sem] max2_int min2_int max_two min_two max_three min_three max_four min_four
set_option linter.unusedVariables false
set_option linter.unusedSimpArgs false
def laws_szChecker.f (k : Nat) (a0_0 : Int) (a0_1 : Int) (l0_2 : List Bool) (l0_3 : List (List (S101))) (l0_4 : List (List (List Int))) (l0_5 : List (List Int)) (a1 : Int) : Option (Int) := (laws_szBoolS.f l0_2 a1).bind fun t321 => (if t321 < 0 then (some (-1)) else ((laws_szPushSS.f k l0_3 t321).bind fun t322 => (if t322 < 0 then (some (-1)) else ((laws_szInt64SSS.f k l0_4 t322).bind fun t323 => (if t323 < 0 then (some (-1)) else ((laws_szInt64SS.f k l0_5 t323).bind fun t324 => (if t324 < 0 then (some (-1)) else (some t324))))))))
set_option maxHeartbeats 8000000 in
set_option maxRecDepth 100000 in
theorem laws_szChecker.calls (k : Nat) (a0_0 : Int) (a0_1 : Int) (A0_2 : Option Addr) (c0_2 : Nat) (l0_2 : List Bool) (A0_3 : Option Addr) (c0_3 : Nat) (l0_3 : List (List (S101))) (A0_4 : Option Addr) (c0_4 : Nat) (l0_4 : List (List (List Int))) (A0_5 : Option Addr) (c0_5 : Nat) (l0_5 : List (List Int)) (a1 : Int) (r : Int) (w : World) (hr0_2 : Kd.C Kd.bool w A0_2 l0_2.length l0_2) (hc0_2 : l0_2.length ≤ c0_2) (hr0_3 : Kd.C (Kd.slice 101 k101) w A0_3 l0_3.length l0_3) (hc0_3 : l0_3.length ≤ c0_3) (hr0_4 : Kd.C (Kd.slice 49 (Kd.slice 2 (Kd.int .i64))) w A0_4 l0_4.length l0_4) (hc0_4 : l0_4.length ≤ c0_4) (hr0_5 : Kd.C (Kd.slice 2 (Kd.int .i64)) w A0_5 l0_5.length l0_5) (hc0_5 : l0_5.length ≤ c0_5) (h : laws_szChecker.f k a0_0 a0_1 l0_2 l0_3 l0_4 l0_5 a1 = some r) :
  Calls Try.prog 21 #[.agg #[.int .i64 a0_0, .int .i64 a0_1, .slice A0_2 l0_2.length c0_2, .slice A0_3 l0_3.length c0_3, .slice A0_4 l0_4.length c0_4, .slice A0_5 l0_5.length c0_5], .int .i64 a1] w fun e w' => e = .returned (.int .i64 r) ∧ Below w.heap.size w w' := by
 have hu39 := Try.underlying39
 have HR0_2 := AZ.mk hr0_2
 have HC0_2 := AZ.mk hc0_2
 clear hr0_2 hc0_2
 have HR0_3 := AZ.mk hr0_3
 have HC0_3 := AZ.mk hc0_3
 clear hr0_3 hc0_3
 have HR0_4 := AZ.mk hr0_4
 have HC0_4 := AZ.mk hc0_4
 clear hr0_4 hc0_4
 have HR0_5 := AZ.mk hr0_5
 have HC0_5 := AZ.mk hc0_5
 clear hr0_5 hc0_5
 have HB := AZ.mk (Below.refl w.heap.size w)
 have H : ((laws_szBoolS.f l0_2 a1).bind fun t321 => (if t321 < 0 then (some (-1)) else ((laws_szPushSS.f k l0_3 t321).bind fun t322 => (if t322 < 0 then (some (-1)) else ((laws_szInt64SSS.f k l0_4 t322).bind fun t323 => (if t323 < 0 then (some (-1)) else ((laws_szInt64SS.f k l0_5 t323).bind fun t324 => (if t324 < 0 then (some (-1)) else (some t324))))))))) = some r := h
 clear h
 replace H := Option.bind_eq_some_iff.mp H
 obtain ⟨t321, A30, H⟩ := H
 replace H : (if t321 < 0 then (some (-1)) else ((laws_szPushSS.f k l0_3 t321).bind fun t322 => (if t322 < 0 then (some (-1)) else ((laws_szInt64SSS.f k l0_4 t322).bind fun t323 => (if t323 < 0 then (some (-1)) else ((laws_szInt64SS.f k l0_5 t323).bind fun t324 => (if t324 < 0 then (some (-1)) else (some t324)))))))) = some r := H
 have A3 := AZ.mk A30
 clear A30
 by_cases c4 : t321 < 0
 ·rw [if_pos c4] at H
  have c4b0 : decide (t321 < 0) = true := decide_eq_true c4
  clear c4
  obtain rfl := Option.some.inj H
  go_enter Try.func21, Try.ntmps21
  go_wp2_with (first | ((with_reducible refine gate_dst (N := 2) rfl ?_); refine box_event ?hg (N := 2) ?hd (cs := #[.int .i64 a0_0, .int .i64 a0_1, .slice A0_2 l0_2.length c0_2, .slice A0_3 l0_3.length c0_3, .slice A0_4 l0_4.length c0_4, .slice A0_5 l0_5.length c0_5]) (t := 39) ?hr ?_; (case hd => rfl); (case hg => rfl); (case hr => first | (go_simp; done) | (go_simp; rfl)); intro gb320 hg w5 hbox hb; have n0_ := AZ.mk (pT (by repeat (first | (with_reducible first | exact HB.out | apply pA | apply pN | apply pD) | exact HB.out)) hb); have n1_ := AZ.mk (hbox); have n2_ := AZ.mk ((by rw [hg]; exact (pZ (by repeat (first | (with_reducible first | exact HB.out | apply pA | apply pN | apply pD) | exact HB.out))) : w.heap.size ≤ gb320)); have n3_ := AZ.mk ((by rw [hg]; exact (pZ (by repeat (first | (with_reducible first | exact HB.out | apply pA | apply pN | apply pD) | exact HB.out))) : w.heap.size ≤ gb320)); clear HB; have HB := n0_; have BK320 := n1_; have GW320 := n2_; have GE320 := n3_; clear n0_ n1_ n2_ n3_; clear hb hbox hg; obtain ⟨hcz6_0, hcz6_1, hcz6_2, hcz6_3, hcz6_4, hcz6_5⟩ := c6 BK320.out; obtain ⟨hfz6_0, hfz6_1, hfz6_2, hfz6_3, hfz6_4, hfz6_5⟩ := f6 BK320.out) | ((with_reducible refine gate_callee (f := 66) rfl ?_); refine goesL_ (some 8) rfl rfl Try.func66 (by kernel_rfl) rfl #[.slice A0_2 l0_2.length c0_2, .int .i64 a1] rfl (by (try simp only [List.map_toArray, List.map_cons, List.map_nil]); first | done | rfl | (simp only [List.length_drop, List.length_take]; rfl)) ?_; (with_reducible refine (laws_szBoolS.calls _ _ l0_2 a1 t321 _ ?side1 ?side2 A3.out).mono ?_); (case side1 => repeat (first | exact (Kd.C_below HR0_2.out HB.out) | (with_reducible refine Kd.C_alloc ?_ _) | (with_reducible refine Kd.C_drewN ?_ _) | (with_reducible refine Kd.C_drew ?_))); (case side2 => exact HC0_2.out); rintro e w' ⟨rfl, ⟨nd, rfl⟩⟩; refine ⟨_, rfl, ?_⟩))
  go_ret
  exact ⟨by first | rfl | (simp [errW_none, errW_some] <;> rfl) | (simp [*, errW_none, errW_some] <;> rfl), by repeat (first | (with_reducible first | exact HB.out | apply pA | apply pN | apply pD | refine pS ?_ GE320.out) | exact HB.out)⟩
 rw [if_neg c4] at H
 have c4b0 : decide (t321 < 0) = false := decide_eq_false c4
 clear c4
 replace H := Option.bind_eq_some_iff.mp H
 obtain ⟨t322, A70, H⟩ := H
 replace H : (if t322 < 0 then (some (-1)) else ((laws_szInt64SSS.f k l0_4 t322).bind fun t323 => (if t323 < 0 then (some (-1)) else ((laws_szInt64SS.f k l0_5 t323).bind fun t324 => (if t324 < 0 then (some (-1)) else (some t324)))))) = some r := H
 have A7 := AZ.mk A70
 clear A70
 by_cases c8 : t322 < 0
 ·rw [if_pos c8] at H
  have c8b0 : decide (t322 < 0) = true := decide_eq_true c8
  clear c8
  obtain rfl := Option.some.inj H
  go_enter Try.func21, Try.ntmps21
  go_wp2_with (first | ((with_reducible refine gate_dst (N := 2) rfl ?_); refine box_event ?hg (N := 2) ?hd (cs := #[.int .i64 a0_0, .int .i64 a0_1, .slice A0_2 l0_2.length c0_2, .slice A0_3 l0_3.length c0_3, .slice A0_4 l0_4.length c0_4, .slice A0_5 l0_5.length c0_5]) (t := 39) ?hr ?_; (case hd => rfl); (case hg => rfl); (case hr => first | (go_simp; done) | (go_simp; rfl)); intro gb320 hg w9 hbox hb; have n0_ := AZ.mk (pT (by repeat (first | (with_reducible first | exact HB.out | apply pA | apply pN | apply pD) | exact HB.out)) hb); have n1_ := AZ.mk (hbox); have n2_ := AZ.mk ((by rw [hg]; exact (pZ (by repeat (first | (with_reducible first | exact HB.out | apply pA | apply pN | apply pD) | exact HB.out))) : w.heap.size ≤ gb320)); have n3_ := AZ.mk ((by rw [hg]; exact (pZ (by repeat (first | (with_reducible first | exact HB.out | apply pA | apply pN | apply pD) | exact HB.out))) : w.heap.size ≤ gb320)); clear HB; have HB := n0_; have BK320 := n1_; have GW320 := n2_; have GE320 := n3_; clear n0_ n1_ n2_ n3_; clear hb hbox hg; obtain ⟨hcz10_0, hcz10_1, hcz10_2, hcz10_3, hcz10_4, hcz10_5⟩ := c6 BK320.out; obtain ⟨hfz10_0, hfz10_1, hfz10_2, hfz10_3, hfz10_4, hfz10_5⟩ := f6 BK320.out) | ((with_reducible refine gate_callee (f := 66) rfl ?_); refine goesL_ (some 8) rfl rfl Try.func66 (by kernel_rfl) rfl #[.slice A0_2 l0_2.length c0_2, .int .i64 a1] rfl (by (try simp only [List.map_toArray, List.map_cons, List.map_nil]); first | done | rfl | (simp only [List.length_drop, List.length_take]; rfl)) ?_; (with_reducible refine (laws_szBoolS.calls _ _ l0_2 a1 t321 _ ?side1 ?side2 A3.out).mono ?_); (case side1 => repeat (first | exact (Kd.C_below HR0_2.out HB.out) | (with_reducible refine Kd.C_alloc ?_ _) | (with_reducible refine Kd.C_drewN ?_ _) | (with_reducible refine Kd.C_drew ?_))); (case side2 => exact HC0_2.out); rintro e w' ⟨rfl, ⟨nd, rfl⟩⟩; refine ⟨_, rfl, ?_⟩) | ((with_reducible refine gate_callee (f := 67) rfl ?_); refine goesL_ (some 14) rfl rfl Try.func67 (by kernel_rfl) rfl #[.slice A0_3 l0_3.length c0_3, .int .i64 t321] rfl (by (try simp only [List.map_toArray, List.map_cons, List.map_nil]); first | done | rfl | (simp only [List.length_drop, List.length_take]; rfl)) ?_; (with_reducible refine (laws_szPushSS.calls k _ _ l0_3 t321 t322 _ ?side1 ?side2 A7.out).mono ?_); (case side1 => repeat (first | exact (Kd.C_below HR0_3.out (by repeat (first | (with_reducible first | exact HB.out | apply pA | apply pN | apply pD | refine pS ?_ GE320.out) | exact HB.out))) | (with_reducible refine Kd.C_alloc ?_ _) | (with_reducible refine Kd.C_drewN ?_ _) | (with_reducible refine Kd.C_drew ?_))); (case side2 => exact HC0_3.out); rintro e w' ⟨rfl, ⟨nd, rfl⟩⟩; refine ⟨_, rfl, ?_⟩))
  go_ret
  exact ⟨by first | rfl | (simp [errW_none, errW_some] <;> rfl) | (simp [*, errW_none, errW_some] <;> rfl), by repeat (first | (with_reducible first | exact HB.out | apply pA | apply pN | apply pD | refine pS ?_ GE320.out) | exact HB.out)⟩
 rw [if_neg c8] at H
 have c8b0 : decide (t322 < 0) = false := decide_eq_false c8
 clear c8
 replace H := Option.bind_eq_some_iff.mp H
 obtain ⟨t323, A110, H⟩ := H
 replace H : (if t323 < 0 then (some (-1)) else ((laws_szInt64SS.f k l0_5 t323).bind fun t324 => (if t324 < 0 then (some (-1)) else (some t324)))) = some r := H
 have A11 := AZ.mk A110
 clear A110
 by_cases c12 : t323 < 0
 ·rw [if_pos c12] at H
  have c12b0 : decide (t323 < 0) = true := decide_eq_true c12
  clear c12
  obtain rfl := Option.some.inj H
  go_enter Try.func21, Try.ntmps21
  go_wp2_with (first | ((with_reducible refine gate_dst (N := 2) rfl ?_); refine box_event ?hg (N := 2) ?hd (cs := #[.int .i64 a0_0, .int .i64 a0_1, .slice A0_2 l0_2.length c0_2, .slice A0_3 l0_3.length c0_3, .slice A0_4 l0_4.length c0_4, .slice A0_5 l0_5.length c0_5]) (t := 39) ?hr ?_; (case hd => rfl); (case hg => rfl); (case hr => first | (go_simp; done) | (go_simp; rfl)); intro gb320 hg w13 hbox hb; have n0_ := AZ.mk (pT (by repeat (first | (with_reducible first | exact HB.out | apply pA | apply pN | apply pD) | exact HB.out)) hb); have n1_ := AZ.mk (hbox); have n2_ := AZ.mk ((by rw [hg]; exact (pZ (by repeat (first | (with_reducible first | exact HB.out | apply pA | apply pN | apply pD) | exact HB.out))) : w.heap.size ≤ gb320)); have n3_ := AZ.mk ((by rw [hg]; exact (pZ (by repeat (first | (with_reducible first | exact HB.out | apply pA | apply pN | apply pD) | exact HB.out))) : w.heap.size ≤ gb320)); clear HB; have HB := n0_; have BK320 := n1_; have GW320 := n2_; have GE320 := n3_; clear n0_ n1_ n2_ n3_; clear hb hbox hg; obtain ⟨hcz14_0, hcz14_1, hcz14_2, hcz14_3, hcz14_4, hcz14_5⟩ := c6 BK320.out; obtain ⟨hfz14_0, hfz14_1, hfz14_2, hfz14_3, hfz14_4, hfz14_5⟩ := f6 BK320.out) | ((with_reducible refine gate_callee (f := 66) rfl ?_); refine goesL_ (some 8) rfl rfl Try.func66 (by kernel_rfl) rfl #[.slice A0_2 l0_2.length c0_2, .int .i64 a1] rfl (by (try simp only [List.map_toArray, List.map_cons, List.map_nil]); first | done | rfl | (simp only [List.length_drop, List.length_take]; rfl)) ?_; (with_reducible refine (laws_szBoolS.calls _ _ l0_2 a1 t321 _ ?side1 ?side2 A3.out).mono ?_); (case side1 => repeat (first | exact (Kd.C_below HR0_2.out HB.out) | (with_reducible refine Kd.C_alloc ?_ _) | (with_reducible refine Kd.C_drewN ?_ _) | (with_reducible refine Kd.C_drew ?_))); (case side2 => exact HC0_2.out); rintro e w' ⟨rfl, ⟨nd, rfl⟩⟩; refine ⟨_, rfl, ?_⟩) | ((with_reducible refine gate_callee (f := 67) rfl ?_); refine goesL_ (some 14) rfl rfl Try.func67 (by kernel_rfl) rfl #[.slice A0_3 l0_3.length c0_3, .int .i64 t321] rfl (by (try simp only [List.map_toArray, List.map_cons, List.map_nil]); first | done | rfl | (simp only [List.length_drop, List.length_take]; rfl)) ?_; (with_reducible refine (laws_szPushSS.calls k _ _ l0_3 t321 t322 _ ?side1 ?side2 A7.out).mono ?_); (case side1 => repeat (first | exact (Kd.C_below HR0_3.out (by repeat (first | (with_reducible first | exact HB.out | apply pA | apply pN | apply pD | refine pS ?_ GE320.out) | exact HB.out))) | (with_reducible refine Kd.C_alloc ?_ _) | (with_reducible refine Kd.C_drewN ?_ _) | (with_reducible refine Kd.C_drew ?_))); (case side2 => exact HC0_3.out); rintro e w' ⟨rfl, ⟨nd, rfl⟩⟩; refine ⟨_, rfl, ?_⟩) | ((with_reducible refine gate_callee (f := 68) rfl ?_); refine goesL_ (some 20) rfl rfl Try.func68 (by kernel_rfl) rfl #[.slice A0_4 l0_4.length c0_4, .int .i64 t322] rfl (by (try simp only [List.map_toArray, List.map_cons, List.map_nil]); first | done | rfl | (simp only [List.length_drop, List.length_take]; rfl)) ?_; (with_reducible refine (laws_szInt64SSS.calls k _ _ l0_4 t322 t323 _ ?side1 ?side2 A11.out).mono ?_); (case side1 => repeat (first | exact (Kd.C_below HR0_4.out (by repeat (first | (with_reducible first | exact HB.out | apply pA | apply pN | apply pD | refine pS ?_ GE320.out) | exact HB.out))) | (with_reducible refine Kd.C_alloc ?_ _) | (with_reducible refine Kd.C_drewN ?_ _) | (with_reducible refine Kd.C_drew ?_))); (case side2 => exact HC0_4.out); rintro e w' ⟨rfl, ⟨nd, rfl⟩⟩; refine ⟨_, rfl, ?_⟩))
  go_ret
  exact ⟨by first | rfl | (simp [errW_none, errW_some] <;> rfl) | (simp [*, errW_none, errW_some] <;> rfl), by repeat (first | (with_reducible first | exact HB.out | apply pA | apply pN | apply pD | refine pS ?_ GE320.out) | exact HB.out)⟩
 rw [if_neg c12] at H
 have c12b0 : decide (t323 < 0) = false := decide_eq_false c12
 clear c12
 replace H := Option.bind_eq_some_iff.mp H
 obtain ⟨t324, A150, H⟩ := H
 replace H : (if t324 < 0 then (some (-1)) else (some t324)) = some r := H
 have A15 := AZ.mk A150
 clear A150
 by_cases c16 : t324 < 0
 ·rw [if_pos c16] at H
  have c16b0 : decide (t324 < 0) = true := decide_eq_true c16
  clear c16
  obtain rfl := Option.some.inj H
  go_enter Try.func21, Try.ntmps21
  go_wp2_with (first | ((with_reducible refine gate_dst (N := 2) rfl ?_); refine box_event ?hg (N := 2) ?hd (cs := #[.int .i64 a0_0, .int .i64 a0_1, .slice A0_2 l0_2.length c0_2, .slice A0_3 l0_3.length c0_3, .slice A0_4 l0_4.length c0_4, .slice A0_5 l0_5.length c0_5]) (t := 39) ?hr ?_; (case hd => rfl); (case hg => rfl); (case hr => first | (go_simp; done) | (go_simp; rfl)); intro gb320 hg w17 hbox hb; have n0_ := AZ.mk (pT (by repeat (first | (with_reducible first | exact HB.out | apply pA | apply pN | apply pD) | exact HB.out)) hb); have n1_ := AZ.mk (hbox); have n2_ := AZ.mk ((by rw [hg]; exact (pZ (by repeat (first | (with_reducible first | exact HB.out | apply pA | apply pN | apply pD) | exact HB.out))) : w.heap.size ≤ gb320)); have n3_ := AZ.mk ((by rw [hg]; exact (pZ (by repeat (first | (with_reducible first | exact HB.out | apply pA | apply pN | apply pD) | exact HB.out))) : w.heap.size ≤ gb320)); clear HB; have HB := n0_; have BK320 := n1_; have GW320 := n2_; have GE320 := n3_; clear n0_ n1_ n2_ n3_; clear hb hbox hg; obtain ⟨hcz18_0, hcz18_1, hcz18_2, hcz18_3, hcz18_4, hcz18_5⟩ := c6 BK320.out; obtain ⟨hfz18_0, hfz18_1, hfz18_2, hfz18_3, hfz18_4, hfz18_5⟩ := f6 BK320.out) | ((with_reducible refine gate_callee (f := 66) rfl ?_); refine goesL_ (some 8) rfl rfl Try.func66 (by kernel_rfl) rfl #[.slice A0_2 l0_2.length c0_2, .int .i64 a1] rfl (by (try simp only [List.map_toArray, List.map_cons, List.map_nil]); first | done | rfl | (simp only [List.length_drop, List.length_take]; rfl)) ?_; (with_reducible refine (laws_szBoolS.calls _ _ l0_2 a1 t321 _ ?side1 ?side2 A3.out).mono ?_); (case side1 => repeat (first | exact (Kd.C_below HR0_2.out HB.out) | (with_reducible refine Kd.C_alloc ?_ _) | (with_reducible refine Kd.C_drewN ?_ _) | (with_reducible refine Kd.C_drew ?_))); (case side2 => exact HC0_2.out); rintro e w' ⟨rfl, ⟨nd, rfl⟩⟩; refine ⟨_, rfl, ?_⟩) | ((with_reducible refine gate_callee (f := 67) rfl ?_); refine goesL_ (some 14) rfl rfl Try.func67 (by kernel_rfl) rfl #[.slice A0_3 l0_3.length c0_3, .int .i64 t321] rfl (by (try simp only [List.map_toArray, List.map_cons, List.map_nil]); first | done | rfl | (simp only [List.length_drop, List.length_take]; rfl)) ?_; (with_reducible refine (laws_szPushSS.calls k _ _ l0_3 t321 t322 _ ?side1 ?side2 A7.out).mono ?_); (case side1 => repeat (first | exact (Kd.C_below HR0_3.out (by repeat (first | (with_reducible first | exact HB.out | apply pA | apply pN | apply pD | refine pS ?_ GE320.out) | exact HB.out))) | (with_reducible refine Kd.C_alloc ?_ _) | (with_reducible refine Kd.C_drewN ?_ _) | (with_reducible refine Kd.C_drew ?_))); (case side2 => exact HC0_3.out); rintro e w' ⟨rfl, ⟨nd, rfl⟩⟩; refine ⟨_, rfl, ?_⟩) | ((with_reducible refine gate_callee (f := 68) rfl ?_); refine goesL_ (some 20) rfl rfl Try.func68 (by kernel_rfl) rfl #[.slice A0_4 l0_4.length c0_4, .int .i64 t322] rfl (by (try simp only [List.map_toArray, List.map_cons, List.map_nil]); first | done | rfl | (simp only [List.length_drop, List.length_take]; rfl)) ?_; (with_reducible refine (laws_szInt64SSS.calls k _ _ l0_4 t322 t323 _ ?side1 ?side2 A11.out).mono ?_); (case side1 => repeat (first | exact (Kd.C_below HR0_4.out (by repeat (first | (with_reducible first | exact HB.out | apply pA | apply pN | apply pD | refine pS ?_ GE320.out) | exact HB.out))) | (with_reducible refine Kd.C_alloc ?_ _) | (with_reducible refine Kd.C_drewN ?_ _) | (with_reducible refine Kd.C_drew ?_))); (case side2 => exact HC0_4.out); rintro e w' ⟨rfl, ⟨nd, rfl⟩⟩; refine ⟨_, rfl, ?_⟩) | ((with_reducible refine gate_callee (f := 69) rfl ?_); refine goesL_ (some 26) rfl rfl Try.func69 (by kernel_rfl) rfl #[.slice A0_5 l0_5.length c0_5, .int .i64 t323] rfl (by (try simp only [List.map_toArray, List.map_cons, List.map_nil]); first | done | rfl | (simp only [List.length_drop, List.length_take]; rfl)) ?_; (with_reducible refine (laws_szInt64SS.calls k _ _ l0_5 t323 t324 _ ?side1 ?side2 A15.out).mono ?_); (case side1 => repeat (first | exact (Kd.C_below HR0_5.out (by repeat (first | (with_reducible first | exact HB.out | apply pA | apply pN | apply pD | refine pS ?_ GE320.out) | exact HB.out))) | (with_reducible refine Kd.C_alloc ?_ _) | (with_reducible refine Kd.C_drewN ?_ _) | (with_reducible refine Kd.C_drew ?_))); (case side2 => exact HC0_5.out); rintro e w' ⟨rfl, ⟨nd, rfl⟩⟩; refine ⟨_, rfl, ?_⟩))
  go_ret
  exact ⟨by first | rfl | (simp [errW_none, errW_some] <;> rfl) | (simp [*, errW_none, errW_some] <;> rfl), by repeat (first | (with_reducible first | exact HB.out | apply pA | apply pN | apply pD | refine pS ?_ GE320.out) | exact HB.out)⟩
 rw [if_neg c16] at H
 have c16b0 : decide (t324 < 0) = false := decide_eq_false c16
 clear c16
 obtain rfl := Option.some.inj H
 go_enter Try.func21, Try.ntmps21
 go_wp2_with (first | ((with_reducible refine gate_dst (N := 2) rfl ?_); refine box_event ?hg (N := 2) ?hd (cs := #[.int .i64 a0_0, .int .i64 a0_1, .slice A0_2 l0_2.length c0_2, .slice A0_3 l0_3.length c0_3, .slice A0_4 l0_4.length c0_4, .slice A0_5 l0_5.length c0_5]) (t := 39) ?hr ?_; (case hd => rfl); (case hg => rfl); (case hr => first | (go_simp; done) | (go_simp; rfl)); intro gb320 hg w19 hbox hb; have n0_ := AZ.mk (pT (by repeat (first | (with_reducible first | exact HB.out | apply pA | apply pN | apply pD) | exact HB.out)) hb); have n1_ := AZ.mk (hbox); have n2_ := AZ.mk ((by rw [hg]; exact (pZ (by repeat (first | (with_reducible first | exact HB.out | apply pA | apply pN | apply pD) | exact HB.out))) : w.heap.size ≤ gb320)); have n3_ := AZ.mk ((by rw [hg]; exact (pZ (by repeat (first | (with_reducible first | exact HB.out | apply pA | apply pN | apply pD) | exact HB.out))) : w.heap.size ≤ gb320)); clear HB; have HB := n0_; have BK320 := n1_; have GW320 := n2_; have GE320 := n3_; clear n0_ n1_ n2_ n3_; clear hb hbox hg; obtain ⟨hcz20_0, hcz20_1, hcz20_2, hcz20_3, hcz20_4, hcz20_5⟩ := c6 BK320.out; obtain ⟨hfz20_0, hfz20_1, hfz20_2, hfz20_3, hfz20_4, hfz20_5⟩ := f6 BK320.out) | ((with_reducible refine gate_callee (f := 66) rfl ?_); refine goesL_ (some 8) rfl rfl Try.func66 (by kernel_rfl) rfl #[.slice A0_2 l0_2.length c0_2, .int .i64 a1] rfl (by (try simp only [List.map_toArray, List.map_cons, List.map_nil]); first | done | rfl | (simp only [List.length_drop, List.length_take]; rfl)) ?_; (with_reducible refine (laws_szBoolS.calls _ _ l0_2 a1 t321 _ ?side1 ?side2 A3.out).mono ?_); (case side1 => repeat (first | exact (Kd.C_below HR0_2.out HB.out) | (with_reducible refine Kd.C_alloc ?_ _) | (with_reducible refine Kd.C_drewN ?_ _) | (with_reducible refine Kd.C_drew ?_))); (case side2 => exact HC0_2.out); rintro e w' ⟨rfl, ⟨nd, rfl⟩⟩; refine ⟨_, rfl, ?_⟩) | ((with_reducible refine gate_callee (f := 67) rfl ?_); refine goesL_ (some 14) rfl rfl Try.func67 (by kernel_rfl) rfl #[.slice A0_3 l0_3.length c0_3, .int .i64 t321] rfl (by (try simp only [List.map_toArray, List.map_cons, List.map_nil]); first | done | rfl | (simp only [List.length_drop, List.length_take]; rfl)) ?_; (with_reducible refine (laws_szPushSS.calls k _ _ l0_3 t321 t322 _ ?side1 ?side2 A7.out).mono ?_); (case side1 => repeat (first | exact (Kd.C_below HR0_3.out (by repeat (first | (with_reducible first | exact HB.out | apply pA | apply pN | apply pD | refine pS ?_ GE320.out) | exact HB.out))) | (with_reducible refine Kd.C_alloc ?_ _) | (with_reducible refine Kd.C_drewN ?_ _) | (with_reducible refine Kd.C_drew ?_))); (case side2 => exact HC0_3.out); rintro e w' ⟨rfl, ⟨nd, rfl⟩⟩; refine ⟨_, rfl, ?_⟩) | ((with_reducible refine gate_callee (f := 68) rfl ?_); refine goesL_ (some 20) rfl rfl Try.func68 (by kernel_rfl) rfl #[.slice A0_4 l0_4.length c0_4, .int .i64 t322] rfl (by (try simp only [List.map_toArray, List.map_cons, List.map_nil]); first | done | rfl | (simp only [List.length_drop, List.length_take]; rfl)) ?_; (with_reducible refine (laws_szInt64SSS.calls k _ _ l0_4 t322 t323 _ ?side1 ?side2 A11.out).mono ?_); (case side1 => repeat (first | exact (Kd.C_below HR0_4.out (by repeat (first | (with_reducible first | exact HB.out | apply pA | apply pN | apply pD | refine pS ?_ GE320.out) | exact HB.out))) | (with_reducible refine Kd.C_alloc ?_ _) | (with_reducible refine Kd.C_drewN ?_ _) | (with_reducible refine Kd.C_drew ?_))); (case side2 => exact HC0_4.out); rintro e w' ⟨rfl, ⟨nd, rfl⟩⟩; refine ⟨_, rfl, ?_⟩) | ((with_reducible refine gate_callee (f := 69) rfl ?_); refine goesL_ (some 26) rfl rfl Try.func69 (by kernel_rfl) rfl #[.slice A0_5 l0_5.length c0_5, .int .i64 t323] rfl (by (try simp only [List.map_toArray, List.map_cons, List.map_nil]); first | done | rfl | (simp only [List.length_drop, List.length_take]; rfl)) ?_; (with_reducible refine (laws_szInt64SS.calls k _ _ l0_5 t323 t324 _ ?side1 ?side2 A15.out).mono ?_); (case side1 => repeat (first | exact (Kd.C_below HR0_5.out (by repeat (first | (with_reducible first | exact HB.out | apply pA | apply pN | apply pD | refine pS ?_ GE320.out) | exact HB.out))) | (with_reducible refine Kd.C_alloc ?_ _) | (with_reducible refine Kd.C_drewN ?_ _) | (with_reducible refine Kd.C_drew ?_))); (case side2 => exact HC0_5.out); rintro e w' ⟨rfl, ⟨nd, rfl⟩⟩; refine ⟨_, rfl, ?_⟩))
 go_ret
 exact ⟨by first | rfl | (simp [errW_none, errW_some] <;> rfl) | (simp [*, errW_none, errW_some] <;> rfl), by repeat (first | (with_reducible first | exact HB.out | apply pA | apply pN | apply pD | refine pS ?_ GE320.out) | exact HB.out)⟩
end Go.Proofs.Ytepkfigcnnfoaaa.P
namespace Go.Proofs.Ytepkfigcnnfoaaa.P
open Go.RowKit Go.Proofs.YtepkfigcnnfoaaaW.PrintWords Go.Proofs.YtepkfigcnnfoaaaW.PrintLast Go.Proofs.YtepkfigcnnfoaaaW.PrintMore
attribute [local go_sem] max2_int min2_int max_two min_two max_three min_three max_four min_four
set_option linter.unusedVariables false
set_option linter.unusedSimpArgs false
def spec_l00In.f (a0 : Int) (a1 : Int) (a2 : Int) : Option (Bool) := if a0 ≥ a1 then (some (decide (a0 ≤ a2))) else (some false)
set_option maxHeartbeats 8000000 in
set_option maxRecDepth 100000 in
theorem spec_l00In.calls (a0 : Int) (a1 : Int) (a2 : Int) (r : Bool) (w : World) (h : spec_l00In.f a0 a1 a2 = some r) :
  Calls Try.prog 50 #[.int .i64 a0, .int .i64 a1, .int .i64 a2] w fun e w' => e = .returned (.bool r) ∧ Drawn0 w w' := by
 have H : (if a0 ≥ a1 then (some (decide (a0 ≤ a2))) else (some false)) = some r := h
 clear h
 by_cases c4 : a0 ≥ a1
 ·rw [if_pos c4] at H
  have c4b0 : decide (a1 ≤ a0) = true := decide_eq_true c4
  clear c4
  obtain rfl := Option.some.inj H
  go_enter Try.func50, Try.ntmps50
  go_wp2
  go_ret
  exact ⟨by first | rfl | (simp; done) | (simp [*]; done), by repeat (first | exact Drawn0.refl _ | apply Drawn0.step)⟩
 rw [if_neg c4] at H
 have c4b0 : decide (a1 ≤ a0) = false := decide_eq_false c4
 clear c4
 obtain rfl := Option.some.inj H
 go_enter Try.func50, Try.ntmps50
 go_wp2
 go_ret
 exact ⟨by first | rfl | (simp; done) | (simp [*]; done), by repeat (first | exact Drawn0.refl _ | apply Drawn0.step)⟩
end Go.Proofs.Ytepkfigcnnfoaaa.P
namespace Go.Proofs.Ytepkfigcnnfoaaa.P
open Go.RowKit Go.Proofs.YtepkfigcnnfoaaaW.PrintWords Go.Proofs.YtepkfigcnnfoaaaW.PrintLast Go.Proofs.YtepkfigcnnfoaaaW.PrintMore
attribute [local go_sem] max2_int min2_int max_two min_two max_three min_three max_four min_four
set_option linter.unusedVariables false
set_option linter.unusedSimpArgs false
def spec_l02List.l0 : Nat → List Int → Int → Int → Option (Bool)
 | 0, _, _, _ => none
 | k + 1, x0, x2, x7 => if x7 < (x0.length : Int) then (if 0 ≤ x7 then ((spec_l00In.f (rd x0 x7) 0 (wrap64 (x2 - 1))).bind fun t326 => (if t326 = true then (spec_l02List.l0 k x0 x2 (wrap64 (x7 + 1))) else (some false))) else (none)) else (some true)
def spec_l02List.f (k : Nat) (l0 : List Int) (a1 : Int) (a2 : Int) : Option (Bool) := if (l0.length : Int) = a1 then (spec_l02List.l0 k l0 a2 0) else (some false)
set_option maxHeartbeats 8000000 in
set_option maxRecDepth 100000 in
theorem spec_l02List.calls (k : Nat) (A0 : Option Addr) (c0 : Nat) (l0 : List Int) (a1 : Int) (a2 : Int) (r : Bool) (w : World) (hr0 : Kd.C (Kd.int .i64) w A0 l0.length l0) (hc0 : l0.length ≤ c0) (h : spec_l02List.f k l0 a1 a2 = some r) :
  Calls Try.prog 93 #[.slice A0 l0.length c0, .int .i64 a1, .int .i64 a2] w fun e w' => e = .returned (.bool r) ∧ Drawn0 w w' := by
 have HR0 := AZ.mk hr0
 have HC0 := AZ.mk hc0
 clear hr0 hc0
 have H : (if (l0.length : Int) = a1 then (spec_l02List.l0 k l0 a2 0) else (some false)) = some r := h
 clear h
 by_cases c4 : (l0.length : Int) = a1
 rotate_left
 ·rw [if_neg c4] at H
  have c4b0 : ((l0.length : Int) == a1) = false := beq_eq_false_iff_ne.mpr c4
  have c4b1 : ((l0.length : Int) != a1) = true := bne_iff_ne.mpr c4
  obtain rfl := Option.some.inj H
  go_enter Try.func93, Try.ntmps93
  go_wp2
  go_ret
  exact ⟨by first | rfl | (simp; done) | (simp [*]; done), by repeat (first | exact Drawn0.refl _ | apply Drawn0.step)⟩
 rw [if_pos c4] at H
 have c4b0 : ((l0.length : Int) == a1) = true := beq_iff_eq.mpr c4
 have c4b1 : ((l0.length : Int) != a1) = false := bne_eq_false_iff_eq.mpr c4
 clear c4
 have H' := AZ.mk H
 clear H
 go_enter Try.func93, Try.ntmps93
 go_wp2
 go_loopg [7] k (fun kq v7 w' => ∃ (x7_1 : Int), v7 = .int .i64 x7_1 ∧ AZ (spec_l02List.l0 kq l0 a2 x7_1 = some r) ∧ AZ (kq ≤ k) ∧ Drawn0 w w')
 case atStart => exact ⟨(0), (by first | rfl | (simp; done) | (simp [*]; done)), H', ⟨Nat.le_refl _⟩, by repeat (first | exact Drawn0.refl _ | apply Drawn0.step)⟩
 case round =>
  clear H'
  try clear p2
  try clear c4
  try clear c4b0
  try clear c4b1
  obtain ⟨x7_1, rfl, HA, HK1, ⟨m1, rfl⟩⟩ := hrel
  cases gk with
  | zero => exact absurd HA.out (by simp [spec_l02List.l0])
  | succ k1 =>
   have H := HA.out
   clear HA
   simp only [spec_l02List.l0] at H
   by_cases c5 : x7_1 < (l0.length : Int)
   rotate_left
   ·rw [if_neg c5] at H
    have c5b0 : decide (x7_1 < (l0.length : Int)) = false := decide_eq_false c5
    clear c5
    obtain rfl := Option.some.inj H
    go_wp2
    go_ret
    exact ⟨by first | rfl | (simp; done) | (simp [*]; done), by repeat (first | exact Drawn0.refl _ | apply Drawn0.step)⟩
   rw [if_pos c5] at H
   have c5b0 : decide (x7_1 < (l0.length : Int)) = true := decide_eq_true c5
   clear c5
   by_cases c6 : 0 ≤ x7_1
   rotate_left
   ·rw [if_neg c6] at H
    exact absurd H (by simp)
   rw [if_pos c6] at H
   have c6b0 : decide (0 ≤ x7_1) = true := decide_eq_true c6
   clear c6
   replace H := Option.bind_eq_some_iff.mp H
   obtain ⟨t326, A70, H⟩ := H
   replace H : (if t326 = true then (spec_l02List.l0 k1 l0 a2 (wrap64 (x7_1 + 1))) else (some false)) = some r := H
   have A7 := AZ.mk A70
   clear A70
   by_cases c8 : t326 = true
   rotate_left
   ·replace c8 := Bool.eq_false_iff.mpr c8
    subst c8
    have H1 : (some false) = some r := by rw [if_neg (show ¬ (false = true) by decide)] at H; exact H
    clear H
    have H := H1
    clear H1
    obtain rfl := Option.some.inj H
    have p325 : 0 ≤ (x7_1 : Int) := oT (by first | (with_reducible assumption) | assumption)
    have q325 : x7_1 < (l0.length : Int) := oT (by first | (with_reducible assumption) | assumption)
    obtain ⟨ad325, e325, hx325_0⟩ := Kd.at_int HR0.out x7_1 p325 q325
    cases e325
    replace p325 := eq_true p325
    replace q325 := eq_true q325
    go_wp2_with (first | ((with_reducible refine gate_callee (f := 50) rfl ?_); refine goesL_ (some 24) rfl rfl Try.func50 (by kernel_rfl) rfl #[.int .i64 (rd l0 x7_1), .int .i64 0, .int .i64 (wrap64 (a2 - 1))] rfl (by (try simp only [List.map_toArray, List.map_cons, List.map_nil]); first | done | rfl | (simp only [List.length_drop, List.length_take]; rfl)) ?_; (with_reducible refine (spec_l00In.calls (rd l0 x7_1) 0 (wrap64 (a2 - 1)) false _ A7.out).mono ?_); rintro e w' ⟨rfl, ⟨nd, rfl⟩⟩; refine ⟨_, rfl, ?_⟩))
    go_ret
    exact ⟨by first | rfl | (simp; done) | (simp [*]; done), by repeat (first | exact Drawn0.refl _ | apply Drawn0.step)⟩
   subst c8
   have H1 : (spec_l02List.l0 k1 l0 a2 (wrap64 (x7_1 + 1))) = some r := by rw [if_pos rfl] at H; exact H
   clear H
   have H := H1
   clear H1
   have H' := AZ.mk H
   clear H
   have p325 : 0 ≤ (x7_1 : Int) := oT (by first | (with_reducible assumption) | assumption)
   have q325 : x7_1 < (l0.length : Int) := oT (by first | (with_reducible assumption) | assumption)
   obtain ⟨ad325, e325, hx325_0⟩ := Kd.at_int HR0.out x7_1 p325 q325
   cases e325
   replace p325 := eq_true p325
   replace q325 := eq_true q325
   go_wp2_with (first | ((with_reducible refine gate_callee (f := 50) rfl ?_); refine goesL_ (some 24) rfl rfl Try.func50 (by kernel_rfl) rfl #[.int .i64 (rd l0 x7_1), .int .i64 0, .int .i64 (wrap64 (a2 - 1))] rfl (by (try simp only [List.map_toArray, List.map_cons, List.map_nil]); first | done | rfl | (simp only [List.length_drop, List.length_take]; rfl)) ?_; (with_reducible refine (spec_l00In.calls (rd l0 x7_1) 0 (wrap64 (a2 - 1)) true _ A7.out).mono ?_); rintro e w' ⟨rfl, ⟨nd, rfl⟩⟩; refine ⟨_, rfl, ?_⟩))
   go_roundg k1
   case measure => have := HK1.out; omega
   case rel => exact ⟨(wrap64 (x7_1 + 1)), (by first | rfl | (simp; done) | (simp [*]; done)), H', ⟨by have := HK1.out; omega⟩, by repeat (first | exact Drawn0.refl _ | apply Drawn0.step)⟩
end Go.Proofs.Ytepkfigcnnfoaaa.P
namespace Go.Proofs.Ytepkfigcnnfoaaa.P
open Go.RowKit Go.Proofs.YtepkfigcnnfoaaaW.PrintWords Go.Proofs.YtepkfigcnnfoaaaW.PrintLast Go.Proofs.YtepkfigcnnfoaaaW.PrintMore
attribute [local go_sem] max2_int min2_int max_two min_two max_three min_three max_four min_four
set_option linter.unusedVariables false
set_option linter.unusedSimpArgs false
mutual
def spec_l02Ok.j0 : Nat → Int → Bool → Int → Int → List Bool → List (List (S47)) → List (List (List Int)) → List (List Int) → Option (Bool)
 | 0, _, _, _, _, _, _, _, _ => none
 | k + 1, x3, x58, x1000, x1001, x1002, x1003, x1004, x1005 => if x58 = true then (some false) else (spec_l02Ok.l0 k x3 0 x1000 x1001 x1002 x1003 x1004 x1005)
def spec_l02Ok.l0 : Nat → Int → Int → Int → Int → List Bool → List (List (S47)) → List (List (List Int)) → List (List Int) → Option (Bool)
 | 0, _, _, _, _, _, _, _, _ => none
 | k + 1, x3, x4, x1000, x1001, x1002, x1003, x1004, x1005 => if x4 < x3 then (if 0 ≤ x4 then (if x4 < (x1003.length : Int) then (if ((rd_L3 x1003 x4).length : Int) = 2 then (if x4 < (x1004.length : Int) then (if ((rd_L5 x1004 x4).length : Int) = 2 then (if x4 < (x1005.length : Int) then ((spec_l02List.f k (rd_L4 x1005 x4) 2 x3).bind fun t333 => (spec_l02Ok.j2 k x3 x4 (!t333) x1000 x1001 x1002 x1003 x1004 x1005)) else (none)) else (spec_l02Ok.j2 k x3 x4 true x1000 x1001 x1002 x1003 x1004 x1005)) else (none)) else (spec_l02Ok.j2 k x3 x4 true x1000 x1001 x1002 x1003 x1004 x1005)) else (none)) else (none)) else (some true)
def spec_l02Ok.j2 : Nat → Int → Int → Bool → Int → Int → List Bool → List (List (S47)) → List (List (List Int)) → List (List Int) → Option (Bool)
 | 0, _, _, _, _, _, _, _, _, _ => none
 | k + 1, x3, x4, x95, x1000, x1001, x1002, x1003, x1004, x1005 => if x95 = true then (some false) else (spec_l02Ok.l1 k x3 x4 0 x1000 x1001 x1002 x1003 x1004 x1005)
def spec_l02Ok.l1 : Nat → Int → Int → Int → Int → Int → List Bool → List (List (S47)) → List (List (List Int)) → List (List Int) → Option (Bool)
 | 0, _, _, _, _, _, _, _, _, _ => none
 | k + 1, x3, x4, x5, x1000, x1001, x1002, x1003, x1004, x1005 => if x5 < 2 then (if 0 ≤ x4 then (if x4 < (x1003.length : Int) then (if 0 ≤ x5 then (if x5 < ((rd_L3 x1003 x4).length : Int) then ((spec_l00In.f ((rd_T47 (rd_L3 x1003 x4) x5).f0) 0 (wrap64 (x3 - 1))).bind fun t336 => (if t336 = true then ((spec_l00In.f ((rd_T47 (rd_L3 x1003 x4) x5).f1) 0 (wrap64 (x1000 - 1))).bind fun t339 => (if t339 = true then (if x4 < (x1004.length : Int) then (if x5 < ((rd_L5 x1004 x4).length : Int) then ((spec_l02List.f k (rd_L4 (rd_L5 x1004 x4) x5) (wrap64 (x1000 + 1)) x3).bind fun t342 => (spec_l02Ok.j4 k x3 x4 x5 (!t342) x1000 x1001 x1002 x1003 x1004 x1005)) else (none)) else (none)) else (spec_l02Ok.j4 k x3 x4 x5 true x1000 x1001 x1002 x1003 x1004 x1005))) else (spec_l02Ok.j4 k x3 x4 x5 true x1000 x1001 x1002 x1003 x1004 x1005))) else (none)) else (none)) else (none)) else (none)) else (spec_l02Ok.l0 k x3 (wrap64 (x4 + 1)) x1000 x1001 x1002 x1003 x1004 x1005)
def spec_l02Ok.j4 : Nat → Int → Int → Int → Bool → Int → Int → List Bool → List (List (S47)) → List (List (List Int)) → List (List Int) → Option (Bool)
 | 0, _, _, _, _, _, _, _, _, _, _ => none
 | k + 1, x3, x4, x5, x154, x1000, x1001, x1002, x1003, x1004, x1005 => if x154 = true then (some false) else (spec_l02Ok.l1 k x3 x4 (wrap64 (x5 + 1)) x1000 x1001 x1002 x1003 x1004 x1005)
end
def spec_l02Ok.f (k : Nat) (a0_0 : Int) (a0_1 : Int) (l0_2 : List Bool) (l0_3 : List (List (S47))) (l0_4 : List (List (List Int))) (l0_5 : List (List Int)) : Option (Bool) := (spec_l00In.f (l0_2.length : Int) 1 40).bind fun t327 => (if t327 = true then ((spec_l00In.f a0_0 1 80).bind fun t328 => (if t328 = true then ((spec_l00In.f a0_1 0 (wrap64 ((l0_2.length : Int) - 1))).bind fun t329 => (if t329 = true then (if (l0_3.length : Int) = (l0_2.length : Int) then (if (l0_4.length : Int) = (l0_2.length : Int) then (spec_l02Ok.j0 k (l0_2.length : Int) ((l0_5.length : Int) != (l0_2.length : Int)) a0_0 a0_1 l0_2 l0_3 l0_4 l0_5) else (spec_l02Ok.j0 k (l0_2.length : Int) true a0_0 a0_1 l0_2 l0_3 l0_4 l0_5)) else (spec_l02Ok.j0 k (l0_2.length : Int) true a0_0 a0_1 l0_2 l0_3 l0_4 l0_5)) else (spec_l02Ok.j0 k (l0_2.length : Int) true a0_0 a0_1 l0_2 l0_3 l0_4 l0_5))) else (spec_l02Ok.j0 k (l0_2.length : Int) true a0_0 a0_1 l0_2 l0_3 l0_4 l0_5))) else (spec_l02Ok.j0 k (l0_2.length : Int) true a0_0 a0_1 l0_2 l0_3 l0_4 l0_5))
def spec_l02Ok.T12 : Bool × List (List Nat × List Nat) := (true, [([], []), ([0], [0]), ([1], [1]), ([2], [2]), ([], []), ([3, 4], [3, 4]), ([5], [5]), ([], []), ([6, 7], [6, 7]), ([8], [8]), ([9], [9]), ([], []), ([11], [11]), ([10, 12], [10, 12]), ([13], [13]), ([14, 13], [14]), ([15], [15]), ([16, 15], [15, 16]), ([17, 15], [15, 17]), ([18, 15], [15, 18]), ([15], [15]), ([19, 20, 15], [15, 19, 20]), ([21, 15], [15, 21]), ([15], [15]), ([22, 23, 15], [15, 22, 23]), ([24, 15], [15, 24]), ([25, 15], [15, 25]), ([15], [15]), ([27, 15], [15, 27]), ([28, 15], [15, 28]), ([29, 15], [15, 29]), ([30, 15], [15, 30]), ([26, 31, 15, 15], [15, 26, 31]), ([32, 15], [15, 32]), ([15, 33], [15, 33]), ([34, 32], [34]), ([35], [35]), ([36, 35], [35, 36]), ([37, 35], [35, 37]), ([38, 35], [35, 38]), ([35], [35]), ([39, 40, 35], [35, 39, 40]), ([41, 35], [35, 41]), ([35], [35]), ([42, 43, 35], [35, 42, 43]), ([44, 35], [35, 44]), ([35], [35]), ([46, 35], [35, 46]), ([47, 35], [35, 47]), ([48, 35], [35, 48]), ([49, 35], [35, 49]), ([35], [35]), ([45, 50, 51, 35, 35], [35, 45, 50, 51]), ([52, 35], [35, 52]), ([35, 53], [35, 53])])
def spec_l02Ok.B12 : List Nat := [0, 1, 3, 7, 0, 31, 63, 0, 255, 511, 1023, 0, 2048, 8191, 16383, 32767, 65535, 131071, 262143, 524287, 65535, 2097151, 4194303, 65535, 16777215, 33554431, 67108863, 65535, 134283263, 402718719, 939589631, 2013331455, 4294967295, 8589934591, 17179869183, 34359738367, 68719476735, 137438953471, 274877906943, 549755813887, 68719476735, 2199023255551, 4398046511103, 68719476735, 17592186044415, 35184372088831, 68719476735, 70437463654399, 211174952009727, 492649928720383, 1055599882141695, 68719476735, 4503599627370495, 9007199254740991, 18014398509481983]
theorem spec_l02Ok.tab12 : rtab .any (opsOf Try.f70 12) = spec_l02Ok.T12 := by kernel_rfl
theorem spec_l02Ok.bits12 : waitsOk spec_l02Ok.T12.2 spec_l02Ok.B12 = true := by kernel_rfl
def spec_l02Ok.cz0 : List Nat := [0, 1, 2, 4, 7, 11, 12, 403, 5, 406, 8, 9, 410]
def spec_l02Ok.cz1 : List Nat := [14, 15, 16, 17, 18, 20, 23, 27, 28, 29, 419, 21, 422, 24, 25, 426, 430, 31]
def spec_l02Ok.cz2 : List Nat := [33, 34, 35, 36, 37, 38, 40, 43, 46, 47, 48, 51, 439, 41, 442, 44, 445, 449, 50]
def spec_l02Ok.cz3 : List Nat := [53, 54]
def spec_l02Ok.cz4 : List Nat := [33, 34, 35, 236, 237, 238, 239, 240, 241, 242, 243, 244, 245, 246, 247, 248, 249, 250, 251, 252, 253, 54]
def spec_l02Ok.cz5 : List Nat := [14, 15, 216, 217, 218, 219, 220, 221, 222, 223, 224, 225, 226, 227, 228, 229, 230, 231, 232, 233, 34, 35, 236, 237, 238, 239, 240, 241, 242, 243, 244, 245, 246, 247, 248, 249, 250, 251, 252, 253, 54]
set_option maxHeartbeats 8000000 in
set_option maxRecDepth 100000 in
theorem spec_l02Ok.calls (k : Nat) (g0_ : Nat) (a0_0 : Int) (a0_1 : Int) (A0_2 : Option Addr) (c0_2 : Nat) (l0_2 : List Bool) (A0_3 : Option Addr) (c0_3 : Nat) (l0_3 : List (List (S47))) (A0_4 : Option Addr) (c0_4 : Nat) (l0_4 : List (List (List Int))) (A0_5 : Option Addr) (c0_5 : Nat) (l0_5 : List (List Int)) (r : Bool) (w : World) (hr0_2 : Kd.C Kd.bool w A0_2 l0_2.length l0_2) (hc0_2 : l0_2.length ≤ c0_2) (hr0_3 : Kd.C (Kd.slice 47 k47) w A0_3 l0_3.length l0_3) (hc0_3 : l0_3.length ≤ c0_3) (hr0_4 : Kd.C (Kd.slice 49 (Kd.slice 2 (Kd.int .i64))) w A0_4 l0_4.length l0_4) (hc0_4 : l0_4.length ≤ c0_4) (hr0_5 : Kd.C (Kd.slice 2 (Kd.int .i64)) w A0_5 l0_5.length l0_5) (hc0_5 : l0_5.length ≤ c0_5) (hbk0_0 : w.heap[g0_]? = some (.cells #[.int .i64 a0_0, .int .i64 a0_1, .slice A0_2 l0_2.length c0_2, .slice A0_3 l0_3.length c0_3, .slice A0_4 l0_4.length c0_4, .slice A0_5 l0_5.length c0_5] 27 (0, 0))) (h : spec_l02Ok.f k a0_0 a0_1 l0_2 l0_3 l0_4 l0_5 = some r) :
  Calls Try.prog 70 #[.pointer (some ⟨g0_, 0, none⟩)] w fun e w' => e = .returned (.bool r) ∧ Below w.heap.size w w' := by
 have HR0_2 := AZ.mk hr0_2
 have HC0_2 := AZ.mk hc0_2
 clear hr0_2 hc0_2
 have HR0_3 := AZ.mk hr0_3
 have HC0_3 := AZ.mk hc0_3
 clear hr0_3 hc0_3
 have HR0_4 := AZ.mk hr0_4
 have HC0_4 := AZ.mk hc0_4
 clear hr0_4 hc0_4
 have HR0_5 := AZ.mk hr0_5
 have HC0_5 := AZ.mk hc0_5
 clear hr0_5 hc0_5
 have BK0 := AZ.mk hbk0_0
 clear hbk0_0
 have HB := AZ.mk (Below.refl w.heap.size w)
 have H : ((spec_l00In.f (l0_2.length : Int) 1 40).bind fun t327 => (if t327 = true then ((spec_l00In.f a0_0 1 80).bind fun t328 => (if t328 = true then ((spec_l00In.f a0_1 0 (wrap64 ((l0_2.length : Int) - 1))).bind fun t329 => (if t329 = true then (if (l0_3.length : Int) = (l0_2.length : Int) then (if (l0_4.length : Int) = (l0_2.length : Int) then (spec_l02Ok.j0 k (l0_2.length : Int) ((l0_5.length : Int) != (l0_2.length : Int)) a0_0 a0_1 l0_2 l0_3 l0_4 l0_5) else (spec_l02Ok.j0 k (l0_2.length : Int) true a0_0 a0_1 l0_2 l0_3 l0_4 l0_5)) else (spec_l02Ok.j0 k (l0_2.length : Int) true a0_0 a0_1 l0_2 l0_3 l0_4 l0_5)) else (spec_l02Ok.j0 k (l0_2.length : Int) true a0_0 a0_1 l0_2 l0_3 l0_4 l0_5))) else (spec_l02Ok.j0 k (l0_2.length : Int) true a0_0 a0_1 l0_2 l0_3 l0_4 l0_5))) else (spec_l02Ok.j0 k (l0_2.length : Int) true a0_0 a0_1 l0_2 l0_3 l0_4 l0_5))) = some r := h
 clear h
 have HC2 := AZ.mk H
 clear H
 obtain ⟨hcz3_0, hcz3_1, hcz3_2, hcz3_3, hcz3_4, hcz3_5⟩ := c6 BK0.out
 obtain ⟨hfz3_0, hfz3_1, hfz3_2, hfz3_3, hfz3_4, hfz3_5⟩ := f6 BK0.out
 go_enter Try.func70, Try.ntmps70
 go_upto_region 2 with (fail)
 go_cut [58] (fun v58 wc => ∃ (kq : Nat) (x58_1 : Bool), v58 = .bool x58_1 ∧ AZ (spec_l02Ok.j0 kq (l0_2.length : Int) x58_1 a0_0 a0_1 l0_2 l0_3 l0_4 l0_5 = some r) ∧ AZ (kq ≤ k) ∧ AZ (wc.heap[g0_]? = some (.cells #[.int .i64 a0_0, .int .i64 a0_1, (.slice A0_2 l0_2.length c0_2), (.slice A0_3 l0_3.length c0_3), (.slice A0_4 l0_4.length c0_4), (.slice A0_5 l0_5.length c0_5)] 27 (0, 0))) ∧ AZ (Below w.heap.size w wc))
 case first =>
  have H := HC2.out
  clear HC2
  replace H := Option.bind_eq_some_iff.mp H
  obtain ⟨t327, A40, H⟩ := H
  replace H : (if t327 = true then ((spec_l00In.f a0_0 1 80).bind fun t328 => (if t328 = true then ((spec_l00In.f a0_1 0 (wrap64 ((l0_2.length : Int) - 1))).bind fun t329 => (if t329 = true then (if (l0_3.length : Int) = (l0_2.length : Int) then (if (l0_4.length : Int) = (l0_2.length : Int) then (spec_l02Ok.j0 k (l0_2.length : Int) ((l0_5.length : Int) != (l0_2.length : Int)) a0_0 a0_1 l0_2 l0_3 l0_4 l0_5) else (spec_l02Ok.j0 k (l0_2.length : Int) true a0_0 a0_1 l0_2 l0_3 l0_4 l0_5)) else (spec_l02Ok.j0 k (l0_2.length : Int) true a0_0 a0_1 l0_2 l0_3 l0_4 l0_5)) else (spec_l02Ok.j0 k (l0_2.length : Int) true a0_0 a0_1 l0_2 l0_3 l0_4 l0_5))) else (spec_l02Ok.j0 k (l0_2.length : Int) true a0_0 a0_1 l0_2 l0_3 l0_4 l0_5))) else (spec_l02Ok.j0 k (l0_2.length : Int) true a0_0 a0_1 l0_2 l0_3 l0_4 l0_5)) = some r := H
  have A4 := AZ.mk A40
  clear A40
  by_cases c5 : t327 = true
  rotate_left
  ·replace c5 := Bool.eq_false_iff.mpr c5
   subst c5
   have H1 : (spec_l02Ok.j0 k (l0_2.length : Int) true a0_0 a0_1 l0_2 l0_3 l0_4 l0_5) = some r := by rw [if_neg (show ¬ (false = true) by decide)] at H; exact H
   clear H
   have H := H1
   clear H1
   have H' := AZ.mk H
   clear H
   go_wp2_with (first | ((with_reducible refine gate_callee (f := 50) rfl ?_); refine goesL_ (some 12) rfl rfl Try.func50 (by kernel_rfl) rfl #[.int .i64 (l0_2.length : Int), .int .i64 1, .int .i64 40] rfl (by (try simp only [List.map_toArray, List.map_cons, List.map_nil]); first | done | rfl | (simp only [List.length_drop, List.length_take]; rfl)) ?_; (with_reducible refine (spec_l00In.calls (l0_2.length : Int) 1 40 false _ A4.out).mono ?_); rintro e w' ⟨rfl, ⟨nd, rfl⟩⟩; refine ⟨_, rfl, ?_⟩))
   go_meet
   case rel => exact ⟨_, (true), (by first | rfl | (simp; done) | (simp [*]; done)), H', ⟨by first | omega | exact Nat.le_refl _⟩, ⟨by (with_reducible repeat (first | refine bn_ ?_ _ | refine bd_ ?_ | refine ba_ ?_ _)); exact BK0.out⟩, ⟨by repeat (first | (with_reducible first | exact HB.out | apply pA | apply pN | apply pD | refine pS ?_ GE0.out) | exact HB.out)⟩⟩
  subst c5
  have H1 : ((spec_l00In.f a0_0 1 80).bind fun t328 => (if t328 = true then ((spec_l00In.f a0_1 0 (wrap64 ((l0_2.length : Int) - 1))).bind fun t329 => (if t329 = true then (if (l0_3.length : Int) = (l0_2.length : Int) then (if (l0_4.length : Int) = (l0_2.length : Int) then (spec_l02Ok.j0 k (l0_2.length : Int) ((l0_5.length : Int) != (l0_2.length : Int)) a0_0 a0_1 l0_2 l0_3 l0_4 l0_5) else (spec_l02Ok.j0 k (l0_2.length : Int) true a0_0 a0_1 l0_2 l0_3 l0_4 l0_5)) else (spec_l02Ok.j0 k (l0_2.length : Int) true a0_0 a0_1 l0_2 l0_3 l0_4 l0_5)) else (spec_l02Ok.j0 k (l0_2.length : Int) true a0_0 a0_1 l0_2 l0_3 l0_4 l0_5))) else (spec_l02Ok.j0 k (l0_2.length : Int) true a0_0 a0_1 l0_2 l0_3 l0_4 l0_5))) = some r := by rw [if_pos rfl] at H; exact H
  clear H
  have H := H1
  clear H1
  replace H := Option.bind_eq_some_iff.mp H
  obtain ⟨t328, A60, H⟩ := H
  replace H : (if t328 = true then ((spec_l00In.f a0_1 0 (wrap64 ((l0_2.length : Int) - 1))).bind fun t329 => (if t329 = true then (if (l0_3.length : Int) = (l0_2.length : Int) then (if (l0_4.length : Int) = (l0_2.length : Int) then (spec_l02Ok.j0 k (l0_2.length : Int) ((l0_5.length : Int) != (l0_2.length : Int)) a0_0 a0_1 l0_2 l0_3 l0_4 l0_5) else (spec_l02Ok.j0 k (l0_2.length : Int) true a0_0 a0_1 l0_2 l0_3 l0_4 l0_5)) else (spec_l02Ok.j0 k (l0_2.length : Int) true a0_0 a0_1 l0_2 l0_3 l0_4 l0_5)) else (spec_l02Ok.j0 k (l0_2.length : Int) true a0_0 a0_1 l0_2 l0_3 l0_4 l0_5))) else (spec_l02Ok.j0 k (l0_2.length : Int) true a0_0 a0_1 l0_2 l0_3 l0_4 l0_5)) = some r := H
  have A6 := AZ.mk A60
  clear A60
  by_cases c7 : t328 = true
  rotate_left
  ·replace c7 := Bool.eq_false_iff.mpr c7
   subst c7
   have H1 : (spec_l02Ok.j0 k (l0_2.length : Int) true a0_0 a0_1 l0_2 l0_3 l0_4 l0_5) = some r := by rw [if_neg (show ¬ (false = true) by decide)] at H; exact H
   clear H
   have H := H1
   clear H1
   have H' := AZ.mk H
   clear H
   go_wp2_with (first | ((with_reducible refine gate_callee (f := 50) rfl ?_); refine goesL_ (some 12) rfl rfl Try.func50 (by kernel_rfl) rfl #[.int .i64 (l0_2.length : Int), .int .i64 1, .int .i64 40] rfl (by (try simp only [List.map_toArray, List.map_cons, List.map_nil]); first | done | rfl | (simp only [List.length_drop, List.length_take]; rfl)) ?_; (with_reducible refine (spec_l00In.calls (l0_2.length : Int) 1 40 true _ A4.out).mono ?_); rintro e w' ⟨rfl, ⟨nd, rfl⟩⟩; refine ⟨_, rfl, ?_⟩; obtain ⟨hcz16_0, hcz16_1, hcz16_2, hcz16_3, hcz16_4, hcz16_5⟩ := c6 BK0.out; obtain ⟨hfz16_0, hfz16_1, hfz16_2, hfz16_3, hfz16_4, hfz16_5⟩ := f6 BK0.out) | (go_at_call 50; (with_reducible refine (spec_l00In.calls a0_0 1 80 false _ A6.out).mono ?_); rintro e w' ⟨rfl, ⟨nd, rfl⟩⟩))
   go_meet
   case rel => exact ⟨_, (true), (by first | rfl | (simp; done) | (simp [*]; done)), H', ⟨by first | omega | exact Nat.le_refl _⟩, ⟨by (with_reducible repeat (first | refine bn_ ?_ _ | refine bd_ ?_ | refine ba_ ?_ _)); exact BK0.out⟩, ⟨by repeat (first | (with_reducible first | exact HB.out | apply pA | apply pN | apply pD | refine pS ?_ GE0.out) | exact HB.out)⟩⟩
  subst c7
  have H1 : ((spec_l00In.f a0_1 0 (wrap64 ((l0_2.length : Int) - 1))).bind fun t329 => (if t329 = true then (if (l0_3.length : Int) = (l0_2.length : Int) then (if (l0_4.length : Int) = (l0_2.length : Int) then (spec_l02Ok.j0 k (l0_2.length : Int) ((l0_5.length : Int) != (l0_2.length : Int)) a0_0 a0_1 l0_2 l0_3 l0_4 l0_5) else (spec_l02Ok.j0 k (l0_2.length : Int) true a0_0 a0_1 l0_2 l0_3 l0_4 l0_5)) else (spec_l02Ok.j0 k (l0_2.length : Int) true a0_0 a0_1 l0_2 l0_3 l0_4 l0_5)) else (spec_l02Ok.j0 k (l0_2.length : Int) true a0_0 a0_1 l0_2 l0_3 l0_4 l0_5))) = some r := by rw [if_pos rfl] at H; exact H
  clear H
  have H := H1
  clear H1
  replace H := Option.bind_eq_some_iff.mp H
  obtain ⟨t329, A80, H⟩ := H
  replace H : (if t329 = true then (if (l0_3.length : Int) = (l0_2.length : Int) then (if (l0_4.length : Int) = (l0_2.length : Int) then (spec_l02Ok.j0 k (l0_2.length : Int) ((l0_5.length : Int) != (l0_2.length : Int)) a0_0 a0_1 l0_2 l0_3 l0_4 l0_5) else (spec_l02Ok.j0 k (l0_2.length : Int) true a0_0 a0_1 l0_2 l0_3 l0_4 l0_5)) else (spec_l02Ok.j0 k (l0_2.length : Int) true a0_0 a0_1 l0_2 l0_3 l0_4 l0_5)) else (spec_l02Ok.j0 k (l0_2.length : Int) true a0_0 a0_1 l0_2 l0_3 l0_4 l0_5)) = some r := H
  have A8 := AZ.mk A80
  clear A80
  by_cases c9 : t329 = true
  rotate_left
  ·replace c9 := Bool.eq_false_iff.mpr c9
   subst c9
   have H1 : (spec_l02Ok.j0 k (l0_2.length : Int) true a0_0 a0_1 l0_2 l0_3 l0_4 l0_5) = some r := by rw [if_neg (show ¬ (false = true) by decide)] at H; exact H
   clear H
   have H := H1
   clear H1
   have H' := AZ.mk H
   clear H
   go_wp2_with (first | ((with_reducible refine gate_callee (f := 50) rfl ?_); refine goesL_ (some 12) rfl rfl Try.func50 (by kernel_rfl) rfl #[.int .i64 (l0_2.length : Int), .int .i64 1, .int .i64 40] rfl (by (try simp only [List.map_toArray, List.map_cons, List.map_nil]); first | done | rfl | (simp only [List.length_drop, List.length_take]; rfl)) ?_; (with_reducible refine (spec_l00In.calls (l0_2.length : Int) 1 40 true _ A4.out).mono ?_); rintro e w' ⟨rfl, ⟨nd, rfl⟩⟩; refine ⟨_, rfl, ?_⟩; obtain ⟨hcz15_0, hcz15_1, hcz15_2, hcz15_3, hcz15_4, hcz15_5⟩ := c6 BK0.out; obtain ⟨hfz15_0, hfz15_1, hfz15_2, hfz15_3, hfz15_4, hfz15_5⟩ := f6 BK0.out) | (go_at_call 50; (with_reducible refine (spec_l00In.calls a0_0 1 80 true _ A6.out).mono ?_); rintro e w' ⟨rfl, ⟨nd, rfl⟩⟩) | (go_at_call 50; (with_reducible refine (spec_l00In.calls a0_1 0 (wrap64 ((l0_2.length : Int) - 1)) false _ A8.out).mono ?_); rintro e w' ⟨rfl, ⟨nd, rfl⟩⟩))
   go_meet
   case rel => exact ⟨_, (true), (by first | rfl | (simp; done) | (simp [*]; done)), H', ⟨by first | omega | exact Nat.le_refl _⟩, ⟨by (with_reducible repeat (first | refine bn_ ?_ _ | refine bd_ ?_ | refine ba_ ?_ _)); exact BK0.out⟩, ⟨by repeat (first | (with_reducible first | exact HB.out | apply pA | apply pN | apply pD | refine pS ?_ GE0.out) | exact HB.out)⟩⟩
  subst c9
  have H1 : (if (l0_3.length : Int) = (l0_2.length : Int) then (if (l0_4.length : Int) = (l0_2.length : Int) then (spec_l02Ok.j0 k (l0_2.length : Int) ((l0_5.length : Int) != (l0_2.length : Int)) a0_0 a0_1 l0_2 l0_3 l0_4 l0_5) else (spec_l02Ok.j0 k (l0_2.length : Int) true a0_0 a0_1 l0_2 l0_3 l0_4 l0_5)) else (spec_l02Ok.j0 k (l0_2.length : Int) true a0_0 a0_1 l0_2 l0_3 l0_4 l0_5)) = some r := by rw [if_pos rfl] at H; exact H
  clear H
  have H := H1
  clear H1
  by_cases c10 : (l0_3.length : Int) = (l0_2.length : Int)
  rotate_left
  ·rw [if_neg c10] at H
   have c10b0 : ((l0_3.length : Int) == (l0_2.length : Int)) = false := beq_eq_false_iff_ne.mpr c10
   have c10b1 : ((l0_3.length : Int) != (l0_2.length : Int)) = true := bne_iff_ne.mpr c10
   have c10b2 : (l0_3.length == l0_2.length) = false := by first | simpa using c10 | (simp at c10 ⊢; omega)
   (first | rw [c10b0] | rw [c10b1] | (simp only [i64_w, i32_w]; rw [c10b0]) | skip)
   have H' := AZ.mk H
   clear H
   go_wp2_with (first | ((with_reducible refine gate_callee (f := 50) rfl ?_); refine goesL_ (some 12) rfl rfl Try.func50 (by kernel_rfl) rfl #[.int .i64 (l0_2.length : Int), .int .i64 1, .int .i64 40] rfl (by (try simp only [List.map_toArray, List.map_cons, List.map_nil]); first | done | rfl | (simp only [List.length_drop, List.length_take]; rfl)) ?_; (with_reducible refine (spec_l00In.calls (l0_2.length : Int) 1 40 true _ A4.out).mono ?_); rintro e w' ⟨rfl, ⟨nd, rfl⟩⟩; refine ⟨_, rfl, ?_⟩; obtain ⟨hcz14_0, hcz14_1, hcz14_2, hcz14_3, hcz14_4, hcz14_5⟩ := c6 BK0.out; obtain ⟨hfz14_0, hfz14_1, hfz14_2, hfz14_3, hfz14_4, hfz14_5⟩ := f6 BK0.out) | (go_at_call 50; (with_reducible refine (spec_l00In.calls a0_0 1 80 true _ A6.out).mono ?_); rintro e w' ⟨rfl, ⟨nd, rfl⟩⟩) | (go_at_call 50; (with_reducible refine (spec_l00In.calls a0_1 0 (wrap64 ((l0_2.length : Int) - 1)) true _ A8.out).mono ?_); rintro e w' ⟨rfl, ⟨nd, rfl⟩⟩))
   go_meet
   case rel => exact ⟨_, (true), (by first | rfl | (simp; done) | (simp [*]; done)), H', ⟨by first | omega | exact Nat.le_refl _⟩, ⟨by (with_reducible repeat (first | refine bn_ ?_ _ | refine bd_ ?_ | refine ba_ ?_ _)); exact BK0.out⟩, ⟨by repeat (first | (with_reducible first | exact HB.out | apply pA | apply pN | apply pD | refine pS ?_ GE0.out) | exact HB.out)⟩⟩
  rw [if_pos c10] at H
  have c10b0 : ((l0_3.length : Int) == (l0_2.length : Int)) = true := beq_iff_eq.mpr c10
  have c10b1 : ((l0_3.length : Int) != (l0_2.length : Int)) = false := bne_eq_false_iff_eq.mpr c10
  have c10b2 : (l0_3.length == l0_2.length) = true := by first | simpa using c10 | (simp at c10 ⊢; omega)
  clear c10
  (first | rw [c10b0] | rw [c10b1] | (simp only [i64_w, i32_w]; rw [c10b0]) | skip)
  by_cases c11 : (l0_4.length : Int) = (l0_2.length : Int)
  rotate_left
  ·rw [if_neg c11] at H
   have c11b0 : ((l0_4.length : Int) == (l0_2.length : Int)) = false := beq_eq_false_iff_ne.mpr c11
   have c11b1 : ((l0_4.length : Int) != (l0_2.length : Int)) = true := bne_iff_ne.mpr c11
   have c11b2 : (l0_4.length == l0_2.length) = false := by first | simpa using c11 | (simp at c11 ⊢; omega)
   have H' := AZ.mk H
   clear H
   go_wp2_with (first | ((with_reducible refine gate_callee (f := 50) rfl ?_); refine goesL_ (some 12) rfl rfl Try.func50 (by kernel_rfl) rfl #[.int .i64 (l0_2.length : Int), .int .i64 1, .int .i64 40] rfl (by (try simp only [List.map_toArray, List.map_cons, List.map_nil]); first | done | rfl | (simp only [List.length_drop, List.length_take]; rfl)) ?_; (with_reducible refine (spec_l00In.calls (l0_2.length : Int) 1 40 true _ A4.out).mono ?_); rintro e w' ⟨rfl, ⟨nd, rfl⟩⟩; refine ⟨_, rfl, ?_⟩; obtain ⟨hcz13_0, hcz13_1, hcz13_2, hcz13_3, hcz13_4, hcz13_5⟩ := c6 BK0.out; obtain ⟨hfz13_0, hfz13_1, hfz13_2, hfz13_3, hfz13_4, hfz13_5⟩ := f6 BK0.out) | (go_at_call 50; (with_reducible refine (spec_l00In.calls a0_0 1 80 true _ A6.out).mono ?_); rintro e w' ⟨rfl, ⟨nd, rfl⟩⟩) | (go_at_call 50; (with_reducible refine (spec_l00In.calls a0_1 0 (wrap64 ((l0_2.length : Int) - 1)) true _ A8.out).mono ?_); rintro e w' ⟨rfl, ⟨nd, rfl⟩⟩))
   go_meet
   case rel => exact ⟨_, (true), (by first | rfl | (simp; done) | (simp [*]; done)), H', ⟨by first | omega | exact Nat.le_refl _⟩, ⟨by (with_reducible repeat (first | refine bn_ ?_ _ | refine bd_ ?_ | refine ba_ ?_ _)); exact BK0.out⟩, ⟨by repeat (first | (with_reducible first | exact HB.out | apply pA | apply pN | apply pD | refine pS ?_ GE0.out) | exact HB.out)⟩⟩
  rw [if_pos c11] at H
  have c11b0 : ((l0_4.length : Int) == (l0_2.length : Int)) = true := beq_iff_eq.mpr c11
  have c11b1 : ((l0_4.length : Int) != (l0_2.length : Int)) = false := bne_eq_false_iff_eq.mpr c11
  have c11b2 : (l0_4.length == l0_2.length) = true := by first | simpa using c11 | (simp at c11 ⊢; omega)
  clear c11
  have H' := AZ.mk H
  clear H
  go_wp2_with (first | ((with_reducible refine gate_callee (f := 50) rfl ?_); refine goesL_ (some 12) rfl rfl Try.func50 (by kernel_rfl) rfl #[.int .i64 (l0_2.length : Int), .int .i64 1, .int .i64 40] rfl (by (try simp only [List.map_toArray, List.map_cons, List.map_nil]); first | done | rfl | (simp only [List.length_drop, List.length_take]; rfl)) ?_; (with_reducible refine (spec_l00In.calls (l0_2.length : Int) 1 40 true _ A4.out).mono ?_); rintro e w' ⟨rfl, ⟨nd, rfl⟩⟩; refine ⟨_, rfl, ?_⟩; obtain ⟨hcz12_0, hcz12_1, hcz12_2, hcz12_3, hcz12_4, hcz12_5⟩ := c6 BK0.out; obtain ⟨hfz12_0, hfz12_1, hfz12_2, hfz12_3, hfz12_4, hfz12_5⟩ := f6 BK0.out) | (go_at_call 50; (with_reducible refine (spec_l00In.calls a0_0 1 80 true _ A6.out).mono ?_); rintro e w' ⟨rfl, ⟨nd, rfl⟩⟩) | (go_at_call 50; (with_reducible refine (spec_l00In.calls a0_1 0 (wrap64 ((l0_2.length : Int) - 1)) true _ A8.out).mono ?_); rintro e w' ⟨rfl, ⟨nd, rfl⟩⟩))
  go_meet
  case rel => exact ⟨_, (((l0_5.length : Int) != (l0_2.length : Int))), (by first | rfl | (simp; done) | (simp [*]; done)), H', ⟨by first | omega | exact Nat.le_refl _⟩, ⟨by (with_reducible repeat (first | refine bn_ ?_ _ | refine bd_ ?_ | refine ba_ ?_ _)); exact BK0.out⟩, ⟨by repeat (first | (with_reducible first | exact HB.out | apply pA | apply pN | apply pD | refine pS ?_ GE0.out) | exact HB.out)⟩⟩
 case rest =>
  clear HC2
  try clear c1
  try clear p2
  try clear c5
  try clear p6
  try clear c7
  try clear c9
  try clear c10
  try clear c10b0
  try clear c10b1
  try clear c10b2
  try clear c11
  try clear c11b0
  try clear c11b1
  try clear c11b2
  try clear hcz12_0
  try clear hcz12_1
  try clear hcz12_2
  try clear hcz12_3
  try clear hcz12_4
  try clear hcz12_5
  try clear hcz13_0
  try clear hcz13_1
  try clear hcz13_2
  try clear hcz13_3
  try clear hcz13_4
  try clear hcz13_5
  try clear hcz14_0
  try clear hcz14_1
  try clear hcz14_2
  try clear hcz14_3
  try clear hcz14_4
  try clear hcz14_5
  try clear hcz15_0
  try clear hcz15_1
  try clear hcz15_2
  try clear hcz15_3
  try clear hcz15_4
  try clear hcz15_5
  try clear hcz16_0
  try clear hcz16_1
  try clear hcz16_2
  try clear hcz16_3
  try clear hcz16_4
  try clear hcz16_5
  try clear hcz3_0
  try clear hcz3_1
  try clear hcz3_2
  try clear hcz3_3
  try clear hcz3_4
  try clear hcz3_5
  try clear hfz12_0
  try clear hfz12_1
  try clear hfz12_2
  try clear hfz12_3
  try clear hfz12_4
  try clear hfz12_5
  try clear hfz13_0
  try clear hfz13_1
  try clear hfz13_2
  try clear hfz13_3
  try clear hfz13_4
  try clear hfz13_5
  try clear hfz14_0
  try clear hfz14_1
  try clear hfz14_2
  try clear hfz14_3
  try clear hfz14_4
  try clear hfz14_5
  try clear hfz15_0
  try clear hfz15_1
  try clear hfz15_2
  try clear hfz15_3
  try clear hfz15_4
  try clear hfz15_5
  try clear hfz16_0
  try clear hfz16_1
  try clear hfz16_2
  try clear hfz16_3
  try clear hfz16_4
  try clear hfz16_5
  try clear hfz3_0
  try clear hfz3_1
  try clear hfz3_2
  try clear hfz3_3
  try clear hfz3_4
  try clear hfz3_5
  obtain ⟨kq, x58_1, rfl, HA, HJ1, BK0, HB⟩ := hcut
  cases kq with
  | zero => exact absurd HA.out (by simp [spec_l02Ok.j0])
  | succ kj1 =>
   have H := HA.out
   clear HA
   simp only [spec_l02Ok.j0] at H
   by_cases c17 : x58_1 = true
   ·subst c17
    have H1 : (some false) = some r := by rw [if_pos rfl] at H; exact H
    clear H
    have H := H1
    clear H1
    obtain rfl := Option.some.inj H
    go_wp2
    go_ret
    exact ⟨by first | rfl | (simp [errW_none, errW_some] <;> rfl) | (simp [*, errW_none, errW_some] <;> rfl), by repeat (first | (with_reducible first | exact HB.out | apply pA | apply pN | apply pD | refine pS ?_ GE0.out) | exact HB.out)⟩
   replace c17 := Bool.eq_false_iff.mpr c17
   subst c17
   have H1 : (spec_l02Ok.l0 kj1 (l0_2.length : Int) 0 a0_0 a0_1 l0_2 l0_3 l0_4 l0_5) = some r := by rw [if_neg (show ¬ (false = true) by decide)] at H; exact H
   clear H
   have H := H1
   clear H1
   have H' := AZ.mk H
   clear H
   go_wp2
   go_loopg [4] kj1 (fun kq v4 w' => ∃ (x4_2 : Int), v4 = .int .i64 x4_2 ∧ AZ (spec_l02Ok.l0 kq (l0_2.length : Int) x4_2 a0_0 a0_1 l0_2 l0_3 l0_4 l0_5 = some r) ∧ AZ (kq ≤ kj1) ∧ AZ (w'.heap[g0_]? = some (.cells #[.int .i64 a0_0, .int .i64 a0_1, (.slice A0_2 l0_2.length c0_2), (.slice A0_3 l0_3.length c0_3), (.slice A0_4 l0_4.length c0_4), (.slice A0_5 l0_5.length c0_5)] 27 (0, 0))) ∧ AZ (Below w.heap.size w w'))
   case atStart => exact ⟨(0), (by first | rfl | (simp; done) | (simp [*]; done)), H', ⟨Nat.le_refl _⟩, ⟨by (with_reducible repeat (first | refine bn_ ?_ _ | refine bd_ ?_ | refine ba_ ?_ _)); exact BK0.out⟩, ⟨by repeat (first | (with_reducible first | exact HB.out | apply pA | apply pN | apply pD | refine pS ?_ GE0.out) | exact HB.out)⟩⟩
   case round =>
    clear H'
    try clear c1
    try clear p2
    try clear c5
    try clear p6
    try clear c7
    try clear c9
    try clear c10
    try clear c10b0
    try clear c10b1
    try clear c10b2
    try clear c11
    try clear c11b0
    try clear c11b1
    try clear c11b2
    try clear c17
    try clear hcz12_0
    try clear hcz12_1
    try clear hcz12_2
    try clear hcz12_3
    try clear hcz12_4
    try clear hcz12_5
    try clear hcz13_0
    try clear hcz13_1
    try clear hcz13_2
    try clear hcz13_3
    try clear hcz13_4
    try clear hcz13_5
    try clear hcz14_0
    try clear hcz14_1
    try clear hcz14_2
    try clear hcz14_3
    try clear hcz14_4
    try clear hcz14_5
    try clear hcz15_0
    try clear hcz15_1
    try clear hcz15_2
    try clear hcz15_3
    try clear hcz15_4
    try clear hcz15_5
    try clear hcz16_0
    try clear hcz16_1
    try clear hcz16_2
    try clear hcz16_3
    try clear hcz16_4
    try clear hcz16_5
    try clear hcz3_0
    try clear hcz3_1
    try clear hcz3_2
    try clear hcz3_3
    try clear hcz3_4
    try clear hcz3_5
    try clear hfz12_0
    try clear hfz12_1
    try clear hfz12_2
    try clear hfz12_3
    try clear hfz12_4
    try clear hfz12_5
    try clear hfz13_0
    try clear hfz13_1
    try clear hfz13_2
    try clear hfz13_3
    try clear hfz13_4
    try clear hfz13_5
    try clear hfz14_0
    try clear hfz14_1
    try clear hfz14_2
    try clear hfz14_3
    try clear hfz14_4
    try clear hfz14_5
    try clear hfz15_0
    try clear hfz15_1
    try clear hfz15_2
    try clear hfz15_3
    try clear hfz15_4
    try clear hfz15_5
    try clear hfz16_0
    try clear hfz16_1
    try clear hfz16_2
    try clear hfz16_3
    try clear hfz16_4
    try clear hfz16_5
    try clear hfz3_0
    try clear hfz3_1
    try clear hfz3_2
    try clear hfz3_3
    try clear hfz3_4
    try clear hfz3_5
    try clear p2
    try clear p6
    obtain ⟨x4_2, rfl, HA, HK2, BK0, HB⟩ := hrel
    cases gk with
    | zero => exact absurd HA.out (by simp [spec_l02Ok.l0])
    | succ k2 =>
     have H := HA.out
     clear HA
     simp only [spec_l02Ok.l0] at H
     by_cases c18 : x4_2 < (l0_2.length : Int)
     rotate_left
     ·rw [if_neg c18] at H
      have c18b0 : decide (x4_2 < (l0_2.length : Int)) = false := decide_eq_false c18
      clear c18
      obtain rfl := Option.some.inj H
      go_wp2
      go_ret
      exact ⟨by first | rfl | (simp [errW_none, errW_some] <;> rfl) | (simp [*, errW_none, errW_some] <;> rfl), by repeat (first | (with_reducible first | exact HB.out | apply pA | apply pN | apply pD | refine pS ?_ GE0.out) | exact HB.out)⟩
     rw [if_pos c18] at H
     have c18b0 : decide (x4_2 < (l0_2.length : Int)) = true := decide_eq_true c18
     clear c18
     have HC19 := AZ.mk H
     clear H
     go_upto_region 7 with (fail)
     go_cut [95] (fun v95 wc => ∃ (kq : Nat) (x95_18 : Bool), v95 = .bool x95_18 ∧ AZ (spec_l02Ok.j2 kq (l0_2.length : Int) x4_2 x95_18 a0_0 a0_1 l0_2 l0_3 l0_4 l0_5 = some r) ∧ AZ (kq ≤ k2) ∧ AZ (wc.heap[g0_]? = some (.cells #[.int .i64 a0_0, .int .i64 a0_1, (.slice A0_2 l0_2.length c0_2), (.slice A0_3 l0_3.length c0_3), (.slice A0_4 l0_4.length c0_4), (.slice A0_5 l0_5.length c0_5)] 27 (0, 0))) ∧ AZ (Below w.heap.size w wc))
     case first =>
      have H := HC19.out
      clear HC19
      by_cases c20 : 0 ≤ x4_2
      rotate_left
      ·rw [if_neg c20] at H
       exact absurd H (by simp)
      rw [if_pos c20] at H
      have c20b0 : decide (0 ≤ x4_2) = true := decide_eq_true c20
      clear c20
      (first | rw [c20b0] | rw [c20b1] | (simp only [i64_w, i32_w]; rw [c20b0]) | skip)
      by_cases c21 : x4_2 < (l0_3.length : Int)
      rotate_left
      ·rw [if_neg c21] at H
       exact absurd H (by simp)
      rw [if_pos c21] at H
      have c21b0 : decide (x4_2 < (l0_3.length : Int)) = true := decide_eq_true c21
      clear c21
      by_cases c22 : ((rd_L3 l0_3 x4_2).length : Int) = 2
      rotate_left
      ·rw [if_neg c22] at H
       have c22b0 : (((rd_L3 l0_3 x4_2).length : Int) == 2) = false := beq_eq_false_iff_ne.mpr c22
       have c22b1 : (((rd_L3 l0_3 x4_2).length : Int) != 2) = true := bne_iff_ne.mpr c22
       have H' := AZ.mk H
       clear H
       obtain ⟨hcz29_0, hcz29_1, hcz29_2, hcz29_3, hcz29_4, hcz29_5⟩ := c6 BK0.out
       obtain ⟨hfz29_0, hfz29_1, hfz29_2, hfz29_3, hfz29_4, hfz29_5⟩ := f6 BK0.out
       have p330 : 0 ≤ (x4_2 : Int) := oT (by first | (with_reducible assumption) | assumption)
       have q330 : x4_2 < (l0_3.length : Int) := oT (by first | (with_reducible assumption) | assumption)
       obtain ⟨ad330, A330_0, c330_0, e330, hx330_0, hl330_0, hi330_0⟩ := at_L3 HR0_3.out x4_2 p330 q330
       cases e330
       replace hx330_0 := (HB.out.cell (World.block_lt_of_cell? w _ hx330_0)).trans hx330_0
       have HR330_0 := AZ.mk hi330_0
       have HC330_0 := AZ.mk hl330_0
       clear hi330_0 hl330_0
       replace p330 := eq_true p330
       replace q330 := eq_true q330
       go_wp2
       go_meet
       case rel => exact ⟨_, (true), (by first | rfl | (simp; done) | (simp [*]; done)), H', ⟨by have := HJ1.out; have := HK2.out; first | omega | exact Nat.le_refl _⟩, ⟨by (with_reducible repeat (first | refine bn_ ?_ _ | refine bd_ ?_ | refine ba_ ?_ _)); exact BK0.out⟩, ⟨by repeat (first | (with_reducible first | exact HB.out | apply pA | apply pN | apply pD | refine pS ?_ GE0.out) | exact HB.out)⟩⟩
      rw [if_pos c22] at H
      have c22b0 : (((rd_L3 l0_3 x4_2).length : Int) == 2) = true := beq_iff_eq.mpr c22
      have c22b1 : (((rd_L3 l0_3 x4_2).length : Int) != 2) = false := bne_eq_false_iff_eq.mpr c22
      clear c22
      by_cases c23 : x4_2 < (l0_4.length : Int)
      rotate_left
      ·rw [if_neg c23] at H
       exact absurd H (by simp)
      rw [if_pos c23] at H
      have c23b0 : decide (x4_2 < (l0_4.length : Int)) = true := decide_eq_true c23
      clear c23
      by_cases c24 : ((rd_L5 l0_4 x4_2).length : Int) = 2
      rotate_left
      ·rw [if_neg c24] at H
       have c24b0 : (((rd_L5 l0_4 x4_2).length : Int) == 2) = false := beq_eq_false_iff_ne.mpr c24
       have c24b1 : (((rd_L5 l0_4 x4_2).length : Int) != 2) = true := bne_iff_ne.mpr c24
       have H' := AZ.mk H
       clear H
       obtain ⟨hcz28_0, hcz28_1, hcz28_2, hcz28_3, hcz28_4, hcz28_5⟩ := c6 BK0.out
       obtain ⟨hfz28_0, hfz28_1, hfz28_2, hfz28_3, hfz28_4, hfz28_5⟩ := f6 BK0.out
       have p330 : 0 ≤ (x4_2 : Int) := oT (by first | (with_reducible assumption) | assumption)
       have q330 : x4_2 < (l0_3.length : Int) := oT (by first | (with_reducible assumption) | assumption)
       obtain ⟨ad330, A330_0, c330_0, e330, hx330_0, hl330_0, hi330_0⟩ := at_L3 HR0_3.out x4_2 p330 q330
       cases e330
       replace hx330_0 := (HB.out.cell (World.block_lt_of_cell? w _ hx330_0)).trans hx330_0
       have HR330_0 := AZ.mk hi330_0
       have HC330_0 := AZ.mk hl330_0
       clear hi330_0 hl330_0
       replace p330 := eq_true p330
       replace q330 := eq_true q330
       have p331 : 0 ≤ (x4_2 : Int) := oT (by first | (with_reducible assumption) | assumption)
       have q331 : x4_2 < (l0_4.length : Int) := oT (by first | (with_reducible assumption) | assumption)
       obtain ⟨ad331, A331_0, c331_0, e331, hx331_0, hl331_0, hi331_0⟩ := at_L5 HR0_4.out x4_2 p331 q331
       cases e331
       replace hx331_0 := (HB.out.cell (World.block_lt_of_cell? w _ hx331_0)).trans hx331_0
       have HR331_0 := AZ.mk hi331_0
       have HC331_0 := AZ.mk hl331_0
       clear hi331_0 hl331_0
       replace p331 := eq_true p331
       replace q331 := eq_true q331
       go_wp2
       go_meet
       case rel => exact ⟨_, (true), (by first | rfl | (simp; done) | (simp [*]; done)), H', ⟨by have := HJ1.out; have := HK2.out; first | omega | exact Nat.le_refl _⟩, ⟨by (with_reducible repeat (first | refine bn_ ?_ _ | refine bd_ ?_ | refine ba_ ?_ _)); exact BK0.out⟩, ⟨by repeat (first | (with_reducible first | exact HB.out | apply pA | apply pN | apply pD | refine pS ?_ GE0.out) | exact HB.out)⟩⟩
      rw [if_pos c24] at H
      have c24b0 : (((rd_L5 l0_4 x4_2).length : Int) == 2) = true := beq_iff_eq.mpr c24
      have c24b1 : (((rd_L5 l0_4 x4_2).length : Int) != 2) = false := bne_eq_false_iff_eq.mpr c24
      clear c24
      by_cases c25 : x4_2 < (l0_5.length : Int)
      rotate_left
      ·rw [if_neg c25] at H
       exact absurd H (by simp)
      rw [if_pos c25] at H
      have c25b0 : decide (x4_2 < (l0_5.length : Int)) = true := decide_eq_true c25
      clear c25
      replace H := Option.bind_eq_some_iff.mp H
      obtain ⟨t333, A260, H⟩ := H
      replace H : (spec_l02Ok.j2 k2 (l0_2.length : Int) x4_2 (!t333) a0_0 a0_1 l0_2 l0_3 l0_4 l0_5) = some r := H
      have A26 := AZ.mk A260
      clear A260
      have H' := AZ.mk H
      clear H
      obtain ⟨hcz27_0, hcz27_1, hcz27_2, hcz27_3, hcz27_4, hcz27_5⟩ := c6 BK0.out
      obtain ⟨hfz27_0, hfz27_1, hfz27_2, hfz27_3, hfz27_4, hfz27_5⟩ := f6 BK0.out
      have p330 : 0 ≤ (x4_2 : Int) := oT (by first | (with_reducible assumption) | assumption)
      have q330 : x4_2 < (l0_3.length : Int) := oT (by first | (with_reducible assumption) | assumption)
      obtain ⟨ad330, A330_0, c330_0, e330, hx330_0, hl330_0, hi330_0⟩ := at_L3 HR0_3.out x4_2 p330 q330
      cases e330
      replace hx330_0 := (HB.out.cell (World.block_lt_of_cell? w _ hx330_0)).trans hx330_0
      have HR330_0 := AZ.mk hi330_0
      have HC330_0 := AZ.mk hl330_0
      clear hi330_0 hl330_0
      replace p330 := eq_true p330
      replace q330 := eq_true q330
      have p331 : 0 ≤ (x4_2 : Int) := oT (by first | (with_reducible assumption) | assumption)
      have q331 : x4_2 < (l0_4.length : Int) := oT (by first | (with_reducible assumption) | assumption)
      obtain ⟨ad331, A331_0, c331_0, e331, hx331_0, hl331_0, hi331_0⟩ := at_L5 HR0_4.out x4_2 p331 q331
      cases e331
      replace hx331_0 := (HB.out.cell (World.block_lt_of_cell? w _ hx331_0)).trans hx331_0
      have HR331_0 := AZ.mk hi331_0
      have HC331_0 := AZ.mk hl331_0
      clear hi331_0 hl331_0
      replace p331 := eq_true p331
      replace q331 := eq_true q331
      have p332 : 0 ≤ (x4_2 : Int) := oT (by first | (with_reducible assumption) | assumption)
      have q332 : x4_2 < (l0_5.length : Int) := oT (by first | (with_reducible assumption) | assumption)
      obtain ⟨ad332, A332_0, c332_0, e332, hx332_0, hl332_0, hi332_0⟩ := at_L4 HR0_5.out x4_2 p332 q332
      cases e332
      replace hx332_0 := (HB.out.cell (World.block_lt_of_cell? w _ hx332_0)).trans hx332_0
      have HR332_0 := AZ.mk hi332_0
      have HC332_0 := AZ.mk hl332_0
      clear hi332_0 hl332_0
      replace p332 := eq_true p332
      replace q332 := eq_true q332
      go_wp2_with (first | (go_at_call 93; (with_reducible refine (spec_l02List.calls k2 _ _ (rd_L4 l0_5 x4_2) 2 (l0_2.length : Int) t333 _ ?side1 ?side2 A26.out).mono ?_); (case side1 => repeat (first | exact (Kd.C_below HR332_0.out HB.out) | (with_reducible refine Kd.C_alloc ?_ _) | (with_reducible refine Kd.C_drewN ?_ _) | (with_reducible refine Kd.C_drew ?_))); (case side2 => exact HC332_0.out); rintro e w' ⟨rfl, ⟨nd, rfl⟩⟩))
      go_meet
      case rel => exact ⟨_, (!t333), (by first | rfl | (simp; done) | (simp [*]; done)), H', ⟨by have := HJ1.out; have := HK2.out; first | omega | exact Nat.le_refl _⟩, ⟨by (with_reducible repeat (first | refine bn_ ?_ _ | refine bd_ ?_ | refine ba_ ?_ _)); exact BK0.out⟩, ⟨by repeat (first | (with_reducible first | exact HB.out | apply pA | apply pN | apply pD | refine pS ?_ GE0.out) | exact HB.out)⟩⟩
     case rest =>
      clear HC19
      try clear c1
      try clear c2
      try clear p2
      try clear c3
      try clear p3
      try clear q3
      try clear hx3
      try clear c5
      try clear p6
      try clear c7
      try clear c9
      try clear c10
      try clear c10b0
      try clear c10b1
      try clear c10b2
      try clear c11
      try clear c11b0
      try clear c11b1
      try clear c11b2
      try clear c17
      try clear c18
      try clear c18b0
      try clear c20
      try clear c20b0
      try clear c20b1
      try clear c21
      try clear c21b0
      try clear c22
      try clear c22b0
      try clear c22b1
      try clear c23
      try clear c23b0
      try clear c24
      try clear c24b0
      try clear c24b1
      try clear c25
      try clear c25b0
      try clear hcz12_0
      try clear hcz12_1
      try clear hcz12_2
      try clear hcz12_3
      try clear hcz12_4
      try clear hcz12_5
      try clear hcz13_0
      try clear hcz13_1
      try clear hcz13_2
      try clear hcz13_3
      try clear hcz13_4
      try clear hcz13_5
      try clear hcz14_0
      try clear hcz14_1
      try clear hcz14_2
      try clear hcz14_3
      try clear hcz14_4
      try clear hcz14_5
      try clear hcz15_0
      try clear hcz15_1
      try clear hcz15_2
      try clear hcz15_3
      try clear hcz15_4
      try clear hcz15_5
      try clear hcz16_0
      try clear hcz16_1
      try clear hcz16_2
      try clear hcz16_3
      try clear hcz16_4
      try clear hcz16_5
      try clear hcz27_0
      try clear hcz27_1
      try clear hcz27_2
      try clear hcz27_3
      try clear hcz27_4
      try clear hcz27_5
      try clear hcz28_0
      try clear hcz28_1
      try clear hcz28_2
      try clear hcz28_3
      try clear hcz28_4
      try clear hcz28_5
      try clear hcz29_0
      try clear hcz29_1
      try clear hcz29_2
      try clear hcz29_3
      try clear hcz29_4
      try clear hcz29_5
      try clear hcz3_0
      try clear hcz3_1
      try clear hcz3_2
      try clear hcz3_3
      try clear hcz3_4
      try clear hcz3_5
      try clear hfz12_0
      try clear hfz12_1
      try clear hfz12_2
      try clear hfz12_3
      try clear hfz12_4
      try clear hfz12_5
      try clear hfz13_0
      try clear hfz13_1
      try clear hfz13_2
      try clear hfz13_3
      try clear hfz13_4
      try clear hfz13_5
      try clear hfz14_0
      try clear hfz14_1
      try clear hfz14_2
      try clear hfz14_3
      try clear hfz14_4
      try clear hfz14_5
      try clear hfz15_0
      try clear hfz15_1
      try clear hfz15_2
      try clear hfz15_3
      try clear hfz15_4
      try clear hfz15_5
      try clear hfz16_0
      try clear hfz16_1
      try clear hfz16_2
      try clear hfz16_3
      try clear hfz16_4
      try clear hfz16_5
      try clear hfz27_0
      try clear hfz27_1
      try clear hfz27_2
      try clear hfz27_3
      try clear hfz27_4
      try clear hfz27_5
      try clear hfz28_0
      try clear hfz28_1
      try clear hfz28_2
      try clear hfz28_3
      try clear hfz28_4
      try clear hfz28_5
      try clear hfz29_0
      try clear hfz29_1
      try clear hfz29_2
      try clear hfz29_3
      try clear hfz29_4
      try clear hfz29_5
      try clear hfz3_0
      try clear hfz3_1
      try clear hfz3_2
      try clear hfz3_3
      try clear hfz3_4
      try clear hfz3_5
      try clear hx330_0
      try clear hx331_0
      try clear hx332_0
      try clear p2
      try clear p330
      try clear p331
      try clear p332
      try clear p6
      try clear q330
      try clear q331
      try clear q332
      obtain ⟨kq, x95_18, rfl, HA, HJ18, BK0, HB⟩ := hcut
      cases kq with
      | zero => exact absurd HA.out (by simp [spec_l02Ok.j2])
      | succ kj18 =>
       have H := HA.out
       clear HA
       simp only [spec_l02Ok.j2] at H
       by_cases c30 : x95_18 = true
       ·subst c30
        have H1 : (some false) = some r := by rw [if_pos rfl] at H; exact H
        clear H
        have H := H1
        clear H1
        obtain rfl := Option.some.inj H
        go_wp2
        go_ret
        exact ⟨by first | rfl | (simp [errW_none, errW_some] <;> rfl) | (simp [*, errW_none, errW_some] <;> rfl), by repeat (first | (with_reducible first | exact HB.out | apply pA | apply pN | apply pD | refine pS ?_ GE0.out) | exact HB.out)⟩
       replace c30 := Bool.eq_false_iff.mpr c30
       subst c30
       have H1 : (spec_l02Ok.l1 kj18 (l0_2.length : Int) x4_2 0 a0_0 a0_1 l0_2 l0_3 l0_4 l0_5) = some r := by rw [if_neg (show ¬ (false = true) by decide)] at H; exact H
       clear H
       have H := H1
       clear H1
       have H' := AZ.mk H
       clear H
       go_wp2
       go_loopg [5] kj18 (fun kq v5 w' => ∃ (x5_4 : Int), v5 = .int .i64 x5_4 ∧ AZ (spec_l02Ok.l1 kq (l0_2.length : Int) x4_2 x5_4 a0_0 a0_1 l0_2 l0_3 l0_4 l0_5 = some r) ∧ AZ (kq ≤ kj18) ∧ AZ (w'.heap[g0_]? = some (.cells #[.int .i64 a0_0, .int .i64 a0_1, (.slice A0_2 l0_2.length c0_2), (.slice A0_3 l0_3.length c0_3), (.slice A0_4 l0_4.length c0_4), (.slice A0_5 l0_5.length c0_5)] 27 (0, 0))) ∧ AZ (Below w.heap.size w w'))
       case atStart => exact ⟨(0), (by first | rfl | (simp; done) | (simp [*]; done)), H', ⟨Nat.le_refl _⟩, ⟨by (with_reducible repeat (first | refine bn_ ?_ _ | refine bd_ ?_ | refine ba_ ?_ _)); exact BK0.out⟩, ⟨by repeat (first | (with_reducible first | exact HB.out | apply pA | apply pN | apply pD | refine pS ?_ GE0.out) | exact HB.out)⟩⟩
       case round =>
        clear H'
        try clear c1
        try clear c2
        try clear p2
        try clear c3
        try clear p3
        try clear q3
        try clear hx3
        try clear c5
        try clear p6
        try clear c7
        try clear c9
        try clear c10
        try clear c10b0
        try clear c10b1
        try clear c10b2
        try clear c11
        try clear c11b0
        try clear c11b1
        try clear c11b2
        try clear c17
        try clear c18
        try clear c18b0
        try clear c20
        try clear c20b0
        try clear c20b1
        try clear c21
        try clear c21b0
        try clear c22
        try clear c22b0
        try clear c22b1
        try clear c23
        try clear c23b0
        try clear c24
        try clear c24b0
        try clear c24b1
        try clear c25
        try clear c25b0
        try clear c30
        try clear hcz12_0
        try clear hcz12_1
        try clear hcz12_2
        try clear hcz12_3
        try clear hcz12_4
        try clear hcz12_5
        try clear hcz13_0
        try clear hcz13_1
        try clear hcz13_2
        try clear hcz13_3
        try clear hcz13_4
        try clear hcz13_5
        try clear hcz14_0
        try clear hcz14_1
        try clear hcz14_2
        try clear hcz14_3
        try clear hcz14_4
        try clear hcz14_5
        try clear hcz15_0
        try clear hcz15_1
        try clear hcz15_2
        try clear hcz15_3
        try clear hcz15_4
        try clear hcz15_5
        try clear hcz16_0
        try clear hcz16_1
        try clear hcz16_2
        try clear hcz16_3
        try clear hcz16_4
        try clear hcz16_5
        try clear hcz27_0
        try clear hcz27_1
        try clear hcz27_2
        try clear hcz27_3
        try clear hcz27_4
        try clear hcz27_5
        try clear hcz28_0
        try clear hcz28_1
        try clear hcz28_2
        try clear hcz28_3
        try clear hcz28_4
        try clear hcz28_5
        try clear hcz29_0
        try clear hcz29_1
        try clear hcz29_2
        try clear hcz29_3
        try clear hcz29_4
        try clear hcz29_5
        try clear hcz3_0
        try clear hcz3_1
        try clear hcz3_2
        try clear hcz3_3
        try clear hcz3_4
        try clear hcz3_5
        try clear hfz12_0
        try clear hfz12_1
        try clear hfz12_2
        try clear hfz12_3
        try clear hfz12_4
        try clear hfz12_5
        try clear hfz13_0
        try clear hfz13_1
        try clear hfz13_2
        try clear hfz13_3
        try clear hfz13_4
        try clear hfz13_5
        try clear hfz14_0
        try clear hfz14_1
        try clear hfz14_2
        try clear hfz14_3
        try clear hfz14_4
        try clear hfz14_5
        try clear hfz15_0
        try clear hfz15_1
        try clear hfz15_2
        try clear hfz15_3
        try clear hfz15_4
        try clear hfz15_5
        try clear hfz16_0
        try clear hfz16_1
        try clear hfz16_2
        try clear hfz16_3
        try clear hfz16_4
        try clear hfz16_5
        try clear hfz27_0
        try clear hfz27_1
        try clear hfz27_2
        try clear hfz27_3
        try clear hfz27_4
        try clear hfz27_5
        try clear hfz28_0
        try clear hfz28_1
        try clear hfz28_2
        try clear hfz28_3
        try clear hfz28_4
        try clear hfz28_5
        try clear hfz29_0
        try clear hfz29_1
        try clear hfz29_2
        try clear hfz29_3
        try clear hfz29_4
        try clear hfz29_5
        try clear hfz3_0
        try clear hfz3_1
        try clear hfz3_2
        try clear hfz3_3
        try clear hfz3_4
        try clear hfz3_5
        try clear hx330_0
        try clear hx331_0
        try clear hx332_0
        try clear p2
        try clear p3
        try clear p330
        try clear p331
        try clear p332
        try clear p6
        try clear q3
        try clear q330
        try clear q331
        try clear q332
        obtain ⟨x5_4, rfl, HA, HK4, BK0, HB⟩ := hrel
        cases gk with
        | zero => exact absurd HA.out (by simp [spec_l02Ok.l1])
        | succ k4 =>
         have H := HA.out
         clear HA
         simp only [spec_l02Ok.l1] at H
         by_cases c31 : x5_4 < 2
         rotate_left
         ·rw [if_neg c31] at H
          have c31b0 : decide (x5_4 < 2) = false := decide_eq_false c31
          clear c31
          have H' := AZ.mk H
          clear H
          go_wp2
          go_roundg k4
          case measure => have := HJ1.out; have := HK2.out; have := HJ18.out; have := HK4.out; omega
          case rel => exact ⟨(wrap64 (x4_2 + 1)), (by first | rfl | (simp; done) | (simp [*]; done)), H', ⟨by have := HJ1.out; have := HK2.out; have := HJ18.out; have := HK4.out; omega⟩, ⟨by (with_reducible repeat (first | refine bn_ ?_ _ | refine bd_ ?_ | refine ba_ ?_ _)); exact BK0.out⟩, ⟨by repeat (first | (with_reducible first | exact HB.out | apply pA | apply pN | apply pD | refine pS ?_ GE0.out) | exact HB.out)⟩⟩
         rw [if_pos c31] at H
         have c31b0 : decide (x5_4 < 2) = true := decide_eq_true c31
         clear c31
         have HC32 := AZ.mk H
         clear H
         go_upto_region 12 with (fail)
         go_cut [154] (fun v154 wc => ∃ (kq : Nat) (x154_31 : Bool), v154 = .bool x154_31 ∧ AZ (spec_l02Ok.j4 kq (l0_2.length : Int) x4_2 x5_4 x154_31 a0_0 a0_1 l0_2 l0_3 l0_4 l0_5 = some r) ∧ AZ (kq ≤ k4) ∧ AZ (wc.heap[g0_]? = some (.cells #[.int .i64 a0_0, .int .i64 a0_1, (.slice A0_2 l0_2.length c0_2), (.slice A0_3 l0_3.length c0_3), (.slice A0_4 l0_4.length c0_4), (.slice A0_5 l0_5.length c0_5)] 27 (0, 0))) ∧ AZ (Below w.heap.size w wc))
         case first =>
          have H := HC32.out
          clear HC32
          by_cases c33 : 0 ≤ x4_2
          rotate_left
          ·rw [if_neg c33] at H
           exact absurd H (by simp)
          rw [if_pos c33] at H
          have c33b0 : decide (0 ≤ x4_2) = true := decide_eq_true c33
          clear c33
          (first | rw [c33b0] | rw [c33b1] | (simp only [i64_w, i32_w]; rw [c33b0]) | skip)
          by_cases c34 : x4_2 < (l0_3.length : Int)
          rotate_left
          ·rw [if_neg c34] at H
           exact absurd H (by simp)
          rw [if_pos c34] at H
          have c34b0 : decide (x4_2 < (l0_3.length : Int)) = true := decide_eq_true c34
          clear c34
          by_cases c35 : 0 ≤ x5_4
          rotate_left
          ·rw [if_neg c35] at H
           exact absurd H (by simp)
          rw [if_pos c35] at H
          have c35b0 : decide (0 ≤ x5_4) = true := decide_eq_true c35
          clear c35
          by_cases c36 : x5_4 < ((rd_L3 l0_3 x4_2).length : Int)
          rotate_left
          ·rw [if_neg c36] at H
           exact absurd H (by simp)
          rw [if_pos c36] at H
          have c36b0 : decide (x5_4 < ((rd_L3 l0_3 x4_2).length : Int)) = true := decide_eq_true c36
          clear c36
          replace H := Option.bind_eq_some_iff.mp H
          obtain ⟨t336, A370, H⟩ := H
          replace H : (if t336 = true then ((spec_l00In.f ((rd_T47 (rd_L3 l0_3 x4_2) x5_4).f1) 0 (wrap64 (a0_0 - 1))).bind fun t339 => (if t339 = true then (if x4_2 < (l0_4.length : Int) then (if x5_4 < ((rd_L5 l0_4 x4_2).length : Int) then ((spec_l02List.f k4 (rd_L4 (rd_L5 l0_4 x4_2) x5_4) (wrap64 (a0_0 + 1)) (l0_2.length : Int)).bind fun t342 => (spec_l02Ok.j4 k4 (l0_2.length : Int) x4_2 x5_4 (!t342) a0_0 a0_1 l0_2 l0_3 l0_4 l0_5)) else (none)) else (none)) else (spec_l02Ok.j4 k4 (l0_2.length : Int) x4_2 x5_4 true a0_0 a0_1 l0_2 l0_3 l0_4 l0_5))) else (spec_l02Ok.j4 k4 (l0_2.length : Int) x4_2 x5_4 true a0_0 a0_1 l0_2 l0_3 l0_4 l0_5)) = some r := H
          have A37 := AZ.mk A370
          clear A370
          by_cases c38 : t336 = true
          rotate_left
          ·replace c38 := Bool.eq_false_iff.mpr c38
           subst c38
           have H1 : (spec_l02Ok.j4 k4 (l0_2.length : Int) x4_2 x5_4 true a0_0 a0_1 l0_2 l0_3 l0_4 l0_5) = some r := by rw [if_neg (show ¬ (false = true) by decide)] at H; exact H
           clear H
           have H := H1
           clear H1
           have H' := AZ.mk H
           clear H
           try go_wp2
           have n0_ := AZ.mk (bd_ BK0.out)
           have n1_ := AZ.mk (pD HB.out)
           clear BK0
           clear HB
           have BK0 := n0_
           have HB := n1_
           clear n0_ n1_
           have p334 : 0 ≤ (x4_2 : Int) := oT (by first | (with_reducible assumption) | assumption)
           have q334 : x4_2 < (l0_3.length : Int) := oT (by first | (with_reducible assumption) | assumption)
           obtain ⟨ad334, A334_0, c334_0, e334, hx334_0, hl334_0, hi334_0⟩ := at_L3 HR0_3.out x4_2 p334 q334
           have hw334_0 := hx334_0
           cases e334
           replace hx334_0 := (HB.out.cell (World.block_lt_of_cell? w _ hx334_0)).trans hx334_0
           have HR334_0 := AZ.mk hi334_0
           have HC334_0 := AZ.mk hl334_0
           clear hi334_0 hl334_0
           replace p334 := eq_true p334
           replace q334 := eq_true q334
           have p335 : 0 ≤ (x5_4 : Int) := oT (by first | (with_reducible assumption) | assumption)
           have q335 : x5_4 < ((rd_L3 l0_3 x4_2).length : Int) := oT (by first | (with_reducible assumption) | assumption)
           obtain ⟨ad335, e335, hx335_0, hx335_1⟩ := at_T47 HR334_0.out x5_4 p335 q335
           have hw335_1 := hx335_1
           have hw335_0 := hx335_0
           cases e335
           replace hx335_0 := (HB.out.cell (World.block_lt_of_cell? w _ hx335_0)).trans hx335_0
           replace hx335_1 := (HB.out.cell (World.block_lt_of_cell? w _ hx335_1)).trans hx335_1
           replace p335 := eq_true p335
           replace q335 := eq_true q335
           refine start_ (n := 55) (S := fun w' => w'.cell? ⟨g0_, 0, none⟩ = some (.int .i64 a0_0) ∧ w'.cell? ⟨g0_, 1, none⟩ = some (.int .i64 a0_1) ∧ w'.cell? ⟨g0_, 2, none⟩ = some (.slice A0_2 l0_2.length c0_2) ∧ w'.cell? ⟨g0_, 3, none⟩ = some (.slice (some ad334) l0_3.length c0_3) ∧ w'.cell? ⟨g0_, 4, none⟩ = some (.slice A0_4 l0_4.length c0_4) ∧ w'.cell? ⟨g0_, 5, none⟩ = some (.slice A0_5 l0_5.length c0_5) ∧ w'.cell? (ad334.add (x4_2).toNat) = some (.slice (some ad335) (rd_L3 l0_3 x4_2).length c334_0) ∧ w'.cell? (ad335.add ((x5_4).toNat * 2)) = some (.int .i64 ((rd_T47 (rd_L3 l0_3 x4_2) x5_4).f0)) ∧ w'.cell? ⟨(ad335.add ((x5_4).toNat * 2)).block, (ad335.add ((x5_4).toNat * 2)).off + 1, none⟩ = some (.int .i64 ((rd_T47 (rd_L3 l0_3 x4_2) x5_4).f1))) (ds := []) (bz 55 0) (by kernel_rfl) rfl rfl ⟨(bc BK0.out 0).trans rfl, (bc BK0.out 1).trans rfl, (bc BK0.out 2).trans rfl, (bc BK0.out 3).trans rfl, (bc BK0.out 4).trans rfl, (bc BK0.out 5).trans rfl, ((HB.out.cell (World.block_lt_of_cell? w _ hw334_0)).trans hw334_0), ((HB.out.cell (World.block_lt_of_cell? w _ hw335_0)).trans hw335_0), ((HB.out.cell (World.block_lt_of_cell? w _ hw335_1)).trans hw335_1)⟩ (fun hHeld => ?_); refine with_tabW spec_l02Ok.tab12 spec_l02Ok.bits12 (fun HT_ HW_ => ?_)
           generalize wr.drew = w46 at BK0 HB HR334_0 hx334_0 hx335_0 hx335_1 hHeld ⊢
           iterate 13 (first | (refine pz_ HT_ spec_l02Ok.cz0 rfl rfl rfl (v := ?_) (a' := ?_) (by kernel_rfl) (fun _ _ _ h => h) (Or.inl ⟨by rfl, ?_⟩) ?_ ?_; rotate_left; (intro w'; go_simp; with_reducible rfl); rotate_left; (simp only [Act.put, sA, sB, sC, i64_w, i32_w]; rfl)) | (refine tz_ HT_ HW_ spec_l02Ok.cz0 rfl rfl rfl (v := ?_) (a' := ?_) (by kernel_rfl) (fun _ _ _ h => h) (Or.inl ⟨by rfl, ?_⟩) hHeld ?_ ?_; rotate_left; (rintro w' ⟨s0, s1, s2, s3, s4, s5, s6, s7, s8⟩; go_simp; with_reducible rfl); rotate_left; (simp only [Act.put, sA, sB, sC, i64_w, i32_w]; rfl)))
           refine one_ (i := 13) (N := some 113) (bz 55 16383) rfl rfl (one_of HT_.out (by kernel_rfl)) (by decide) (fun K hK => ?_)
           refine goes_ Try.func50 (by kernel_rfl) rfl #[.int .i64 ((rd_T47 (rd_L3 l0_3 x4_2) x5_4).f0), .int .i64 0, .int .i64 (wrap64 ((l0_2.length : Int) - 1))] (by rfl) rfl rfl (by (try simp only [List.map_toArray, List.map_cons, List.map_nil]); first | done | rfl | (simp only [List.length_drop, List.length_take]; rfl)) ?_
           with_reducible refine (spec_l00In.calls ((rd_T47 (rd_L3 l0_3 x4_2) x5_4).f0) 0 (wrap64 ((l0_2.length : Int) - 1)) false _ A37.out).mono ?_
           rintro e w' ⟨rfl, ⟨nd, rfl⟩⟩
           refine ⟨_, rfl, ?_⟩
           refine hK.out _ _ ⟨(bc BK0.out 0).trans rfl, (bc BK0.out 1).trans rfl, (bc BK0.out 2).trans rfl, (bc BK0.out 3).trans rfl, (bc BK0.out 4).trans rfl, (bc BK0.out 5).trans rfl, ((HB.out.cell (World.block_lt_of_cell? w _ hw334_0)).trans hw334_0), ((HB.out.cell (World.block_lt_of_cell? w _ hw335_0)).trans hw335_0), ((HB.out.cell (World.block_lt_of_cell? w _ hw335_1)).trans hw335_1)⟩ (fun hHeld => ?_)
           clear hK K
           refine norm_ (a' := ?_) ?_ ?_
           rotate_left
           ·show Act.put _ (some 113) _ = _
            simp only [Act.put, sA, sB, sC, i64_w, i32_w]
            rfl
           iterate 41 (first | (refine pz_ HT_ spec_l02Ok.cz5 rfl rfl rfl (v := ?_) (a' := ?_) (by kernel_rfl) (fun _ _ _ h => h) (Or.inl ⟨by rfl, ?_⟩) ?_ ?_; rotate_left; (intro w'; go_simp; with_reducible rfl); rotate_left; (simp only [Act.put, sA, sB, sC, i64_w, i32_w]; rfl)) | (refine uz_ HT_ spec_l02Ok.cz5 rfl rfl rfl (v := undef) (a' := ?_) (by kernel_rfl) (fun _ _ _ h => h) (Or.inr ⟨by rfl, rfl⟩) ?_ ?_; rotate_left; (simp only [Act.put, sA, sB, sC, i64_w, i32_w]; rfl)))
           refine done_ (done_of HT_.out (by kernel_rfl)) ?_
           try go_wp2
           go_meet
           case rel => exact ⟨_, (true), (by first | rfl | (simp; done) | (simp [*]; done)), H', ⟨by have := HJ1.out; have := HK2.out; have := HJ18.out; have := HK4.out; first | omega | exact Nat.le_refl _⟩, ⟨by (with_reducible repeat (first | refine bn_ ?_ _ | refine bd_ ?_ | refine ba_ ?_ _)); exact BK0.out⟩, ⟨by repeat (first | (with_reducible first | exact HB.out | apply pA | apply pN | apply pD | refine pS ?_ GE0.out) | exact HB.out)⟩⟩
          subst c38
          have H1 : ((spec_l00In.f ((rd_T47 (rd_L3 l0_3 x4_2) x5_4).f1) 0 (wrap64 (a0_0 - 1))).bind fun t339 => (if t339 = true then (if x4_2 < (l0_4.length : Int) then (if x5_4 < ((rd_L5 l0_4 x4_2).length : Int) then ((spec_l02List.f k4 (rd_L4 (rd_L5 l0_4 x4_2) x5_4) (wrap64 (a0_0 + 1)) (l0_2.length : Int)).bind fun t342 => (spec_l02Ok.j4 k4 (l0_2.length : Int) x4_2 x5_4 (!t342) a0_0 a0_1 l0_2 l0_3 l0_4 l0_5)) else (none)) else (none)) else (spec_l02Ok.j4 k4 (l0_2.length : Int) x4_2 x5_4 true a0_0 a0_1 l0_2 l0_3 l0_4 l0_5))) = some r := by rw [if_pos rfl] at H; exact H
          clear H
          have H := H1
          clear H1
          replace H := Option.bind_eq_some_iff.mp H
          obtain ⟨t339, A390, H⟩ := H
          replace H : (if t339 = true then (if x4_2 < (l0_4.length : Int) then (if x5_4 < ((rd_L5 l0_4 x4_2).length : Int) then ((spec_l02List.f k4 (rd_L4 (rd_L5 l0_4 x4_2) x5_4) (wrap64 (a0_0 + 1)) (l0_2.length : Int)).bind fun t342 => (spec_l02Ok.j4 k4 (l0_2.length : Int) x4_2 x5_4 (!t342) a0_0 a0_1 l0_2 l0_3 l0_4 l0_5)) else (none)) else (none)) else (spec_l02Ok.j4 k4 (l0_2.length : Int) x4_2 x5_4 true a0_0 a0_1 l0_2 l0_3 l0_4 l0_5)) = some r := H
          have A39 := AZ.mk A390
          clear A390
          by_cases c40 : t339 = true
          rotate_left
          ·replace c40 := Bool.eq_false_iff.mpr c40
           subst c40
           have H1 : (spec_l02Ok.j4 k4 (l0_2.length : Int) x4_2 x5_4 true a0_0 a0_1 l0_2 l0_3 l0_4 l0_5) = some r := by rw [if_neg (show ¬ (false = true) by decide)] at H; exact H
           clear H
           have H := H1
           clear H1
           have H' := AZ.mk H
           clear H
           try go_wp2
           have n0_ := AZ.mk (bd_ BK0.out)
           have n1_ := AZ.mk (pD HB.out)
           clear BK0
           clear HB
           have BK0 := n0_
           have HB := n1_
           clear n0_ n1_
           have p334 : 0 ≤ (x4_2 : Int) := oT (by first | (with_reducible assumption) | assumption)
           have q334 : x4_2 < (l0_3.length : Int) := oT (by first | (with_reducible assumption) | assumption)
           obtain ⟨ad334, A334_0, c334_0, e334, hx334_0, hl334_0, hi334_0⟩ := at_L3 HR0_3.out x4_2 p334 q334
           have hw334_0 := hx334_0
           cases e334
           replace hx334_0 := (HB.out.cell (World.block_lt_of_cell? w _ hx334_0)).trans hx334_0
           have HR334_0 := AZ.mk hi334_0
           have HC334_0 := AZ.mk hl334_0
           clear hi334_0 hl334_0
           replace p334 := eq_true p334
           replace q334 := eq_true q334
           have p335 : 0 ≤ (x5_4 : Int) := oT (by first | (with_reducible assumption) | assumption)
           have q335 : x5_4 < ((rd_L3 l0_3 x4_2).length : Int) := oT (by first | (with_reducible assumption) | assumption)
           obtain ⟨ad335, e335, hx335_0, hx335_1⟩ := at_T47 HR334_0.out x5_4 p335 q335
           have hw335_1 := hx335_1
           have hw335_0 := hx335_0
           cases e335
           replace hx335_0 := (HB.out.cell (World.block_lt_of_cell? w _ hx335_0)).trans hx335_0
           replace hx335_1 := (HB.out.cell (World.block_lt_of_cell? w _ hx335_1)).trans hx335_1
           replace p335 := eq_true p335
           replace q335 := eq_true q335
           have p337 : 0 ≤ (x4_2 : Int) := oT (by first | (with_reducible assumption) | assumption)
           have q337 : x4_2 < (l0_3.length : Int) := oT (by first | (with_reducible assumption) | assumption)
           obtain ⟨ad337, A337_0, c337_0, e337, hx337_0, hl337_0, hi337_0⟩ := at_L3 HR0_3.out x4_2 p337 q337
           have hw337_0 := hx337_0
           obtain rfl : ad334 = ad337 := (by injection e337)
           replace hx337_0 := (HB.out.cell (World.block_lt_of_cell? w _ hx337_0)).trans hx337_0
           have HR337_0 := AZ.mk hi337_0
           have HC337_0 := AZ.mk hl337_0
           clear hi337_0 hl337_0
           replace p337 := eq_true p337
           replace q337 := eq_true q337
           have ea_ := Option.some.inj (hx334_0.symm.trans hx337_0)
           injection ea_ with ea_ en_ ec_
           subst ea_
           subst ec_
           clear en_
           have p338 : 0 ≤ (x5_4 : Int) := oT (by first | (with_reducible assumption) | assumption)
           have q338 : x5_4 < ((rd_L3 l0_3 x4_2).length : Int) := oT (by first | (with_reducible assumption) | assumption)
           obtain ⟨ad338, e338, hx338_0, hx338_1⟩ := at_T47 HR337_0.out x5_4 p338 q338
           have hw338_1 := hx338_1
           have hw338_0 := hx338_0
           obtain rfl : ad335 = ad338 := (by injection e338)
           replace hx338_0 := (HB.out.cell (World.block_lt_of_cell? w _ hx338_0)).trans hx338_0
           replace hx338_1 := (HB.out.cell (World.block_lt_of_cell? w _ hx338_1)).trans hx338_1
           replace p338 := eq_true p338
           replace q338 := eq_true q338
           refine start_ (n := 55) (S := fun w' => w'.cell? ⟨g0_, 0, none⟩ = some (.int .i64 a0_0) ∧ w'.cell? ⟨g0_, 1, none⟩ = some (.int .i64 a0_1) ∧ w'.cell? ⟨g0_, 2, none⟩ = some (.slice A0_2 l0_2.length c0_2) ∧ w'.cell? ⟨g0_, 3, none⟩ = some (.slice (some ad334) l0_3.length c0_3) ∧ w'.cell? ⟨g0_, 4, none⟩ = some (.slice A0_4 l0_4.length c0_4) ∧ w'.cell? ⟨g0_, 5, none⟩ = some (.slice A0_5 l0_5.length c0_5) ∧ w'.cell? (ad334.add (x4_2).toNat) = some (.slice (some ad335) (rd_L3 l0_3 x4_2).length c334_0) ∧ w'.cell? (ad335.add ((x5_4).toNat * 2)) = some (.int .i64 ((rd_T47 (rd_L3 l0_3 x4_2) x5_4).f0)) ∧ w'.cell? ⟨(ad335.add ((x5_4).toNat * 2)).block, (ad335.add ((x5_4).toNat * 2)).off + 1, none⟩ = some (.int .i64 ((rd_T47 (rd_L3 l0_3 x4_2) x5_4).f1)) ∧ w'.cell? (ad334.add (x4_2).toNat) = some (.slice (some ad335) (rd_L3 l0_3 x4_2).length c334_0) ∧ w'.cell? (ad335.add ((x5_4).toNat * 2)) = some (.int .i64 ((rd_T47 (rd_L3 l0_3 x4_2) x5_4).f0)) ∧ w'.cell? ⟨(ad335.add ((x5_4).toNat * 2)).block, (ad335.add ((x5_4).toNat * 2)).off + 1, none⟩ = some (.int .i64 ((rd_T47 (rd_L3 l0_3 x4_2) x5_4).f1))) (ds := []) (bz 55 0) (by kernel_rfl) rfl rfl ⟨(bc BK0.out 0).trans rfl, (bc BK0.out 1).trans rfl, (bc BK0.out 2).trans rfl, (bc BK0.out 3).trans rfl, (bc BK0.out 4).trans rfl, (bc BK0.out 5).trans rfl, ((HB.out.cell (World.block_lt_of_cell? w _ hw334_0)).trans hw334_0), ((HB.out.cell (World.block_lt_of_cell? w _ hw335_0)).trans hw335_0), ((HB.out.cell (World.block_lt_of_cell? w _ hw335_1)).trans hw335_1), ((HB.out.cell (World.block_lt_of_cell? w _ hw337_0)).trans hw337_0), ((HB.out.cell (World.block_lt_of_cell? w _ hw338_0)).trans hw338_0), ((HB.out.cell (World.block_lt_of_cell? w _ hw338_1)).trans hw338_1)⟩ (fun hHeld => ?_); refine with_tabW spec_l02Ok.tab12 spec_l02Ok.bits12 (fun HT_ HW_ => ?_)
           generalize wr.drew = w45 at BK0 HB HR334_0 HR337_0 hx334_0 hx335_0 hx335_1 hx337_0 hx338_0 hx338_1 hHeld ⊢
           iterate 13 (first | (refine pz_ HT_ spec_l02Ok.cz0 rfl rfl rfl (v := ?_) (a' := ?_) (by kernel_rfl) (fun _ _ _ h => h) (Or.inl ⟨by rfl, ?_⟩) ?_ ?_; rotate_left; (intro w'; go_simp; with_reducible rfl); rotate_left; (simp only [Act.put, sA, sB, sC, i64_w, i32_w]; rfl)) | (refine tz_ HT_ HW_ spec_l02Ok.cz0 rfl rfl rfl (v := ?_) (a' := ?_) (by kernel_rfl) (fun _ _ _ h => h) (Or.inl ⟨by rfl, ?_⟩) hHeld ?_ ?_; rotate_left; (rintro w' ⟨s0, s1, s2, s3, s4, s5, s6, s7, s8, s9, s10, s11⟩; go_simp; with_reducible rfl); rotate_left; (simp only [Act.put, sA, sB, sC, i64_w, i32_w]; rfl)))
           refine one_ (i := 13) (N := some 113) (bz 55 16383) rfl rfl (one_of HT_.out (by kernel_rfl)) (by decide) (fun K hK => ?_)
           refine goes_ Try.func50 (by kernel_rfl) rfl #[.int .i64 ((rd_T47 (rd_L3 l0_3 x4_2) x5_4).f0), .int .i64 0, .int .i64 (wrap64 ((l0_2.length : Int) - 1))] (by rfl) rfl rfl (by (try simp only [List.map_toArray, List.map_cons, List.map_nil]); first | done | rfl | (simp only [List.length_drop, List.length_take]; rfl)) ?_
           with_reducible refine (spec_l00In.calls ((rd_T47 (rd_L3 l0_3 x4_2) x5_4).f0) 0 (wrap64 ((l0_2.length : Int) - 1)) true _ A37.out).mono ?_
           rintro e w' ⟨rfl, ⟨nd, rfl⟩⟩
           refine ⟨_, rfl, ?_⟩
           refine hK.out _ _ ⟨(bc BK0.out 0).trans rfl, (bc BK0.out 1).trans rfl, (bc BK0.out 2).trans rfl, (bc BK0.out 3).trans rfl, (bc BK0.out 4).trans rfl, (bc BK0.out 5).trans rfl, ((HB.out.cell (World.block_lt_of_cell? w _ hw334_0)).trans hw334_0), ((HB.out.cell (World.block_lt_of_cell? w _ hw335_0)).trans hw335_0), ((HB.out.cell (World.block_lt_of_cell? w _ hw335_1)).trans hw335_1), ((HB.out.cell (World.block_lt_of_cell? w _ hw337_0)).trans hw337_0), ((HB.out.cell (World.block_lt_of_cell? w _ hw338_0)).trans hw338_0), ((HB.out.cell (World.block_lt_of_cell? w _ hw338_1)).trans hw338_1)⟩ (fun hHeld => ?_)
           clear hK K
           refine norm_ (a' := ?_) ?_ ?_
           rotate_left
           ·show Act.put _ (some 113) _ = _
            simp only [Act.put, sA, sB, sC, i64_w, i32_w]
            rfl
           iterate 18 (first | (refine pz_ HT_ spec_l02Ok.cz1 rfl rfl rfl (v := ?_) (a' := ?_) (by kernel_rfl) (fun _ _ _ h => h) (Or.inl ⟨by rfl, ?_⟩) ?_ ?_; rotate_left; (intro w'; go_simp; with_reducible rfl); rotate_left; (simp only [Act.put, sA, sB, sC, i64_w, i32_w]; rfl)) | (refine tz_ HT_ HW_ spec_l02Ok.cz1 rfl rfl rfl (v := ?_) (a' := ?_) (by kernel_rfl) (fun _ _ _ h => h) (Or.inl ⟨by rfl, ?_⟩) hHeld ?_ ?_; rotate_left; (rintro w' ⟨s0, s1, s2, s3, s4, s5, s6, s7, s8, s9, s10, s11⟩; go_simp; with_reducible rfl); rotate_left; (simp only [Act.put, sA, sB, sC, i64_w, i32_w]; rfl)))
           refine one_ (i := 32) (N := some 132) (bz 55 8589934591) rfl rfl (one_of HT_.out (by kernel_rfl)) (by decide) (fun K hK => ?_)
           refine goes_ Try.func50 (by kernel_rfl) rfl #[.int .i64 ((rd_T47 (rd_L3 l0_3 x4_2) x5_4).f1), .int .i64 0, .int .i64 (wrap64 (a0_0 - 1))] (by rfl) rfl rfl (by (try simp only [List.map_toArray, List.map_cons, List.map_nil]); first | done | rfl | (simp only [List.length_drop, List.length_take]; rfl)) ?_
           with_reducible refine (spec_l00In.calls ((rd_T47 (rd_L3 l0_3 x4_2) x5_4).f1) 0 (wrap64 (a0_0 - 1)) false _ A39.out).mono ?_
           rintro e w' ⟨rfl, ⟨nd, rfl⟩⟩
           refine ⟨_, rfl, ?_⟩
           refine hK.out _ _ ⟨(bc BK0.out 0).trans rfl, (bc BK0.out 1).trans rfl, (bc BK0.out 2).trans rfl, (bc BK0.out 3).trans rfl, (bc BK0.out 4).trans rfl, (bc BK0.out 5).trans rfl, ((HB.out.cell (World.block_lt_of_cell? w _ hw334_0)).trans hw334_0), ((HB.out.cell (World.block_lt_of_cell? w _ hw335_0)).trans hw335_0), ((HB.out.cell (World.block_lt_of_cell? w _ hw335_1)).trans hw335_1), ((HB.out.cell (World.block_lt_of_cell? w _ hw337_0)).trans hw337_0), ((HB.out.cell (World.block_lt_of_cell? w _ hw338_0)).trans hw338_0), ((HB.out.cell (World.block_lt_of_cell? w _ hw338_1)).trans hw338_1)⟩ (fun hHeld => ?_)
           clear hK K
           refine norm_ (a' := ?_) ?_ ?_
           rotate_left
           ·show Act.put _ (some 132) _ = _
            simp only [Act.put, sA, sB, sC, i64_w, i32_w]
            rfl
           iterate 22 (first | (refine pz_ HT_ spec_l02Ok.cz4 rfl rfl rfl (v := ?_) (a' := ?_) (by kernel_rfl) (fun _ _ _ h => h) (Or.inl ⟨by rfl, ?_⟩) ?_ ?_; rotate_left; (intro w'; go_simp; with_reducible rfl); rotate_left; (simp only [Act.put, sA, sB, sC, i64_w, i32_w]; rfl)) | (refine uz_ HT_ spec_l02Ok.cz4 rfl rfl rfl (v := undef) (a' := ?_) (by kernel_rfl) (fun _ _ _ h => h) (Or.inr ⟨by rfl, rfl⟩) ?_ ?_; rotate_left; (simp only [Act.put, sA, sB, sC, i64_w, i32_w]; rfl)))
           refine done_ (done_of HT_.out (by kernel_rfl)) ?_
           try go_wp2
           go_meet
           case rel => exact ⟨_, (true), (by first | rfl | (simp; done) | (simp [*]; done)), H', ⟨by have := HJ1.out; have := HK2.out; have := HJ18.out; have := HK4.out; first | omega | exact Nat.le_refl _⟩, ⟨by (with_reducible repeat (first | refine bn_ ?_ _ | refine bd_ ?_ | refine ba_ ?_ _)); exact BK0.out⟩, ⟨by repeat (first | (with_reducible first | exact HB.out | apply pA | apply pN | apply pD | refine pS ?_ GE0.out) | exact HB.out)⟩⟩
          subst c40
          have H1 : (if x4_2 < (l0_4.length : Int) then (if x5_4 < ((rd_L5 l0_4 x4_2).length : Int) then ((spec_l02List.f k4 (rd_L4 (rd_L5 l0_4 x4_2) x5_4) (wrap64 (a0_0 + 1)) (l0_2.length : Int)).bind fun t342 => (spec_l02Ok.j4 k4 (l0_2.length : Int) x4_2 x5_4 (!t342) a0_0 a0_1 l0_2 l0_3 l0_4 l0_5)) else (none)) else (none)) = some r := by rw [if_pos rfl] at H; exact H
          clear H
          have H := H1
          clear H1
          by_cases c41 : x4_2 < (l0_4.length : Int)
          rotate_left
          ·rw [if_neg c41] at H
           exact absurd H (by simp)
          rw [if_pos c41] at H
          have c41b0 : decide (x4_2 < (l0_4.length : Int)) = true := decide_eq_true c41
          clear c41
          by_cases c42 : x5_4 < ((rd_L5 l0_4 x4_2).length : Int)
          rotate_left
          ·rw [if_neg c42] at H
           exact absurd H (by simp)
          rw [if_pos c42] at H
          have c42b0 : decide (x5_4 < ((rd_L5 l0_4 x4_2).length : Int)) = true := decide_eq_true c42
          clear c42
          replace H := Option.bind_eq_some_iff.mp H
          obtain ⟨t342, A430, H⟩ := H
          replace H : (spec_l02Ok.j4 k4 (l0_2.length : Int) x4_2 x5_4 (!t342) a0_0 a0_1 l0_2 l0_3 l0_4 l0_5) = some r := H
          have A43 := AZ.mk A430
          clear A430
          have H' := AZ.mk H
          clear H
          try go_wp2
          have n0_ := AZ.mk (bd_ BK0.out)
          have n1_ := AZ.mk (pD HB.out)
          clear BK0
          clear HB
          have BK0 := n0_
          have HB := n1_
          clear n0_ n1_
          have p334 : 0 ≤ (x4_2 : Int) := oT (by first | (with_reducible assumption) | assumption)
          have q334 : x4_2 < (l0_3.length : Int) := oT (by first | (with_reducible assumption) | assumption)
          obtain ⟨ad334, A334_0, c334_0, e334, hx334_0, hl334_0, hi334_0⟩ := at_L3 HR0_3.out x4_2 p334 q334
          have hw334_0 := hx334_0
          cases e334
          replace hx334_0 := (HB.out.cell (World.block_lt_of_cell? w _ hx334_0)).trans hx334_0
          have HR334_0 := AZ.mk hi334_0
          have HC334_0 := AZ.mk hl334_0
          clear hi334_0 hl334_0
          replace p334 := eq_true p334
          replace q334 := eq_true q334
          have p335 : 0 ≤ (x5_4 : Int) := oT (by first | (with_reducible assumption) | assumption)
          have q335 : x5_4 < ((rd_L3 l0_3 x4_2).length : Int) := oT (by first | (with_reducible assumption) | assumption)
          obtain ⟨ad335, e335, hx335_0, hx335_1⟩ := at_T47 HR334_0.out x5_4 p335 q335
          have hw335_1 := hx335_1
          have hw335_0 := hx335_0
          cases e335
          replace hx335_0 := (HB.out.cell (World.block_lt_of_cell? w _ hx335_0)).trans hx335_0
          replace hx335_1 := (HB.out.cell (World.block_lt_of_cell? w _ hx335_1)).trans hx335_1
          replace p335 := eq_true p335
          replace q335 := eq_true q335
          have p337 : 0 ≤ (x4_2 : Int) := oT (by first | (with_reducible assumption) | assumption)
          have q337 : x4_2 < (l0_3.length : Int) := oT (by first | (with_reducible assumption) | assumption)
          obtain ⟨ad337, A337_0, c337_0, e337, hx337_0, hl337_0, hi337_0⟩ := at_L3 HR0_3.out x4_2 p337 q337
          have hw337_0 := hx337_0
          obtain rfl : ad334 = ad337 := (by injection e337)
          replace hx337_0 := (HB.out.cell (World.block_lt_of_cell? w _ hx337_0)).trans hx337_0
          have HR337_0 := AZ.mk hi337_0
          have HC337_0 := AZ.mk hl337_0
          clear hi337_0 hl337_0
          replace p337 := eq_true p337
          replace q337 := eq_true q337
          have ea_ := Option.some.inj (hx334_0.symm.trans hx337_0)
          injection ea_ with ea_ en_ ec_
          subst ea_
          subst ec_
          clear en_
          have p338 : 0 ≤ (x5_4 : Int) := oT (by first | (with_reducible assumption) | assumption)
          have q338 : x5_4 < ((rd_L3 l0_3 x4_2).length : Int) := oT (by first | (with_reducible assumption) | assumption)
          obtain ⟨ad338, e338, hx338_0, hx338_1⟩ := at_T47 HR337_0.out x5_4 p338 q338
          have hw338_1 := hx338_1
          have hw338_0 := hx338_0
          obtain rfl : ad335 = ad338 := (by injection e338)
          replace hx338_0 := (HB.out.cell (World.block_lt_of_cell? w _ hx338_0)).trans hx338_0
          replace hx338_1 := (HB.out.cell (World.block_lt_of_cell? w _ hx338_1)).trans hx338_1
          replace p338 := eq_true p338
          replace q338 := eq_true q338
          have p340 : 0 ≤ (x4_2 : Int) := oT (by first | (with_reducible assumption) | assumption)
          have q340 : x4_2 < (l0_4.length : Int) := oT (by first | (with_reducible assumption) | assumption)
          obtain ⟨ad340, A340_0, c340_0, e340, hx340_0, hl340_0, hi340_0⟩ := at_L5 HR0_4.out x4_2 p340 q340
          have hw340_0 := hx340_0
          cases e340
          replace hx340_0 := (HB.out.cell (World.block_lt_of_cell? w _ hx340_0)).trans hx340_0
          have HR340_0 := AZ.mk hi340_0
          have HC340_0 := AZ.mk hl340_0
          clear hi340_0 hl340_0
          replace p340 := eq_true p340
          replace q340 := eq_true q340
          have p341 : 0 ≤ (x5_4 : Int) := oT (by first | (with_reducible assumption) | assumption)
          have q341 : x5_4 < ((rd_L5 l0_4 x4_2).length : Int) := oT (by first | (with_reducible assumption) | assumption)
          obtain ⟨ad341, A341_0, c341_0, e341, hx341_0, hl341_0, hi341_0⟩ := at_L4 HR340_0.out x5_4 p341 q341
          have hw341_0 := hx341_0
          cases e341
          replace hx341_0 := (HB.out.cell (World.block_lt_of_cell? w _ hx341_0)).trans hx341_0
          have HR341_0 := AZ.mk hi341_0
          have HC341_0 := AZ.mk hl341_0
          clear hi341_0 hl341_0
          replace p341 := eq_true p341
          replace q341 := eq_true q341
          refine start_ (n := 55) (S := fun w' => w'.cell? ⟨g0_, 0, none⟩ = some (.int .i64 a0_0) ∧ w'.cell? ⟨g0_, 1, none⟩ = some (.int .i64 a0_1) ∧ w'.cell? ⟨g0_, 2, none⟩ = some (.slice A0_2 l0_2.length c0_2) ∧ w'.cell? ⟨g0_, 3, none⟩ = some (.slice (some ad334) l0_3.length c0_3) ∧ w'.cell? ⟨g0_, 4, none⟩ = some (.slice (some ad340) l0_4.length c0_4) ∧ w'.cell? ⟨g0_, 5, none⟩ = some (.slice A0_5 l0_5.length c0_5) ∧ w'.cell? (ad334.add (x4_2).toNat) = some (.slice (some ad335) (rd_L3 l0_3 x4_2).length c334_0) ∧ w'.cell? (ad335.add ((x5_4).toNat * 2)) = some (.int .i64 ((rd_T47 (rd_L3 l0_3 x4_2) x5_4).f0)) ∧ w'.cell? ⟨(ad335.add ((x5_4).toNat * 2)).block, (ad335.add ((x5_4).toNat * 2)).off + 1, none⟩ = some (.int .i64 ((rd_T47 (rd_L3 l0_3 x4_2) x5_4).f1)) ∧ w'.cell? (ad334.add (x4_2).toNat) = some (.slice (some ad335) (rd_L3 l0_3 x4_2).length c334_0) ∧ w'.cell? (ad335.add ((x5_4).toNat * 2)) = some (.int .i64 ((rd_T47 (rd_L3 l0_3 x4_2) x5_4).f0)) ∧ w'.cell? ⟨(ad335.add ((x5_4).toNat * 2)).block, (ad335.add ((x5_4).toNat * 2)).off + 1, none⟩ = some (.int .i64 ((rd_T47 (rd_L3 l0_3 x4_2) x5_4).f1)) ∧ w'.cell? (ad340.add (x4_2).toNat) = some (.slice (some ad341) (rd_L5 l0_4 x4_2).length c340_0) ∧ w'.cell? (ad341.add (x5_4).toNat) = some (.slice A341_0 (rd_L4 (rd_L5 l0_4 x4_2) x5_4).length c341_0)) (ds := []) (bz 55 0) (by kernel_rfl) rfl rfl ⟨(bc BK0.out 0).trans rfl, (bc BK0.out 1).trans rfl, (bc BK0.out 2).trans rfl, (bc BK0.out 3).trans rfl, (bc BK0.out 4).trans rfl, (bc BK0.out 5).trans rfl, ((HB.out.cell (World.block_lt_of_cell? w _ hw334_0)).trans hw334_0), ((HB.out.cell (World.block_lt_of_cell? w _ hw335_0)).trans hw335_0), ((HB.out.cell (World.block_lt_of_cell? w _ hw335_1)).trans hw335_1), ((HB.out.cell (World.block_lt_of_cell? w _ hw337_0)).trans hw337_0), ((HB.out.cell (World.block_lt_of_cell? w _ hw338_0)).trans hw338_0), ((HB.out.cell (World.block_lt_of_cell? w _ hw338_1)).trans hw338_1), ((HB.out.cell (World.block_lt_of_cell? w _ hw340_0)).trans hw340_0), ((HB.out.cell (World.block_lt_of_cell? w _ hw341_0)).trans hw341_0)⟩ (fun hHeld => ?_); refine with_tabW spec_l02Ok.tab12 spec_l02Ok.bits12 (fun HT_ HW_ => ?_)
          generalize wr.drew = w44 at BK0 HB HR334_0 HR337_0 HR340_0 HR341_0 hx334_0 hx335_0 hx335_1 hx337_0 hx338_0 hx338_1 hx340_0 hx341_0 hHeld ⊢
          iterate 13 (first | (refine pz_ HT_ spec_l02Ok.cz0 rfl rfl rfl (v := ?_) (a' := ?_) (by kernel_rfl) (fun _ _ _ h => h) (Or.inl ⟨by rfl, ?_⟩) ?_ ?_; rotate_left; (intro w'; go_simp; with_reducible rfl); rotate_left; (simp only [Act.put, sA, sB, sC, i64_w, i32_w]; rfl)) | (refine tz_ HT_ HW_ spec_l02Ok.cz0 rfl rfl rfl (v := ?_) (a' := ?_) (by kernel_rfl) (fun _ _ _ h => h) (Or.inl ⟨by rfl, ?_⟩) hHeld ?_ ?_; rotate_left; (rintro w' ⟨s0, s1, s2, s3, s4, s5, s6, s7, s8, s9, s10, s11, s12, s13⟩; go_simp; with_reducible rfl); rotate_left; (simp only [Act.put, sA, sB, sC, i64_w, i32_w]; rfl)))
          refine one_ (i := 13) (N := some 113) (bz 55 16383) rfl rfl (one_of HT_.out (by kernel_rfl)) (by decide) (fun K hK => ?_)
          refine goes_ Try.func50 (by kernel_rfl) rfl #[.int .i64 ((rd_T47 (rd_L3 l0_3 x4_2) x5_4).f0), .int .i64 0, .int .i64 (wrap64 ((l0_2.length : Int) - 1))] (by rfl) rfl rfl (by (try simp only [List.map_toArray, List.map_cons, List.map_nil]); first | done | rfl | (simp only [List.length_drop, List.length_take]; rfl)) ?_
          with_reducible refine (spec_l00In.calls ((rd_T47 (rd_L3 l0_3 x4_2) x5_4).f0) 0 (wrap64 ((l0_2.length : Int) - 1)) true _ A37.out).mono ?_
          rintro e w' ⟨rfl, ⟨nd, rfl⟩⟩
          refine ⟨_, rfl, ?_⟩
          refine hK.out _ _ ⟨(bc BK0.out 0).trans rfl, (bc BK0.out 1).trans rfl, (bc BK0.out 2).trans rfl, (bc BK0.out 3).trans rfl, (bc BK0.out 4).trans rfl, (bc BK0.out 5).trans rfl, ((HB.out.cell (World.block_lt_of_cell? w _ hw334_0)).trans hw334_0), ((HB.out.cell (World.block_lt_of_cell? w _ hw335_0)).trans hw335_0), ((HB.out.cell (World.block_lt_of_cell? w _ hw335_1)).trans hw335_1), ((HB.out.cell (World.block_lt_of_cell? w _ hw337_0)).trans hw337_0), ((HB.out.cell (World.block_lt_of_cell? w _ hw338_0)).trans hw338_0), ((HB.out.cell (World.block_lt_of_cell? w _ hw338_1)).trans hw338_1), ((HB.out.cell (World.block_lt_of_cell? w _ hw340_0)).trans hw340_0), ((HB.out.cell (World.block_lt_of_cell? w _ hw341_0)).trans hw341_0)⟩ (fun hHeld => ?_)
          clear hK K
          refine norm_ (a' := ?_) ?_ ?_
          rotate_left
          ·show Act.put _ (some 113) _ = _
           simp only [Act.put, sA, sB, sC, i64_w, i32_w]
           rfl
          iterate 18 (first | (refine pz_ HT_ spec_l02Ok.cz1 rfl rfl rfl (v := ?_) (a' := ?_) (by kernel_rfl) (fun _ _ _ h => h) (Or.inl ⟨by rfl, ?_⟩) ?_ ?_; rotate_left; (intro w'; go_simp; with_reducible rfl); rotate_left; (simp only [Act.put, sA, sB, sC, i64_w, i32_w]; rfl)) | (refine tz_ HT_ HW_ spec_l02Ok.cz1 rfl rfl rfl (v := ?_) (a' := ?_) (by kernel_rfl) (fun _ _ _ h => h) (Or.inl ⟨by rfl, ?_⟩) hHeld ?_ ?_; rotate_left; (rintro w' ⟨s0, s1, s2, s3, s4, s5, s6, s7, s8, s9, s10, s11, s12, s13⟩; go_simp; with_reducible rfl); rotate_left; (simp only [Act.put, sA, sB, sC, i64_w, i32_w]; rfl)))
          refine one_ (i := 32) (N := some 132) (bz 55 8589934591) rfl rfl (one_of HT_.out (by kernel_rfl)) (by decide) (fun K hK => ?_)
          refine goes_ Try.func50 (by kernel_rfl) rfl #[.int .i64 ((rd_T47 (rd_L3 l0_3 x4_2) x5_4).f1), .int .i64 0, .int .i64 (wrap64 (a0_0 - 1))] (by rfl) rfl rfl (by (try simp only [List.map_toArray, List.map_cons, List.map_nil]); first | done | rfl | (simp only [List.length_drop, List.length_take]; rfl)) ?_
          with_reducible refine (spec_l00In.calls ((rd_T47 (rd_L3 l0_3 x4_2) x5_4).f1) 0 (wrap64 (a0_0 - 1)) true _ A39.out).mono ?_
          rintro e w' ⟨rfl, ⟨nd, rfl⟩⟩
          refine ⟨_, rfl, ?_⟩
          refine hK.out _ _ ⟨(bc BK0.out 0).trans rfl, (bc BK0.out 1).trans rfl, (bc BK0.out 2).trans rfl, (bc BK0.out 3).trans rfl, (bc BK0.out 4).trans rfl, (bc BK0.out 5).trans rfl, ((HB.out.cell (World.block_lt_of_cell? w _ hw334_0)).trans hw334_0), ((HB.out.cell (World.block_lt_of_cell? w _ hw335_0)).trans hw335_0), ((HB.out.cell (World.block_lt_of_cell? w _ hw335_1)).trans hw335_1), ((HB.out.cell (World.block_lt_of_cell? w _ hw337_0)).trans hw337_0), ((HB.out.cell (World.block_lt_of_cell? w _ hw338_0)).trans hw338_0), ((HB.out.cell (World.block_lt_of_cell? w _ hw338_1)).trans hw338_1), ((HB.out.cell (World.block_lt_of_cell? w _ hw340_0)).trans hw340_0), ((HB.out.cell (World.block_lt_of_cell? w _ hw341_0)).trans hw341_0)⟩ (fun hHeld => ?_)
          clear hK K
          refine norm_ (a' := ?_) ?_ ?_
          rotate_left
          ·show Act.put _ (some 132) _ = _
           simp only [Act.put, sA, sB, sC, i64_w, i32_w]
           rfl
          iterate 19 (first | (refine pz_ HT_ spec_l02Ok.cz2 rfl rfl rfl (v := ?_) (a' := ?_) (by kernel_rfl) (fun _ _ _ h => h) (Or.inl ⟨by rfl, ?_⟩) ?_ ?_; rotate_left; (intro w'; go_simp; with_reducible rfl); rotate_left; (simp only [Act.put, sA, sB, sC, i64_w, i32_w]; rfl)) | (refine tz_ HT_ HW_ spec_l02Ok.cz2 rfl rfl rfl (v := ?_) (a' := ?_) (by kernel_rfl) (fun _ _ _ h => h) (Or.inl ⟨by rfl, ?_⟩) hHeld ?_ ?_; rotate_left; (rintro w' ⟨s0, s1, s2, s3, s4, s5, s6, s7, s8, s9, s10, s11, s12, s13⟩; go_simp; with_reducible rfl); rotate_left; (simp only [Act.put, sA, sB, sC, i64_w, i32_w]; rfl)))
          refine one_ (i := 52) (N := some 152) (bz 55 9007199254740991) rfl rfl (one_of HT_.out (by kernel_rfl)) (by decide) (fun K hK => ?_)
          refine goes_ Try.func93 (by kernel_rfl) rfl #[.slice A341_0 (rd_L4 (rd_L5 l0_4 x4_2) x5_4).length c341_0, .int .i64 (wrap64 (a0_0 + 1)), .int .i64 (l0_2.length : Int)] (by rfl) rfl rfl (by (try simp only [List.map_toArray, List.map_cons, List.map_nil]); first | done | rfl | (simp only [List.length_drop, List.length_take]; rfl)) ?_
          with_reducible refine (spec_l02List.calls k4 _ _ (rd_L4 (rd_L5 l0_4 x4_2) x5_4) (wrap64 (a0_0 + 1)) (l0_2.length : Int) t342 _ ?side1 ?side2 A43.out).mono ?_
          (case side1 => repeat (first | exact (Kd.C_below HR341_0.out (by repeat (first | (with_reducible first | exact HB.out | apply pA | apply pN | apply pD | refine pS ?_ GE0.out) | exact HB.out))) | (with_reducible refine Kd.C_alloc ?_ _) | (with_reducible refine Kd.C_drewN ?_ _) | (with_reducible refine Kd.C_drew ?_)))
          (case side2 => exact HC341_0.out)
          rintro e w' ⟨rfl, ⟨nd, rfl⟩⟩
          refine ⟨_, rfl, ?_⟩
          refine hK.out _ _ ⟨(bc BK0.out 0).trans rfl, (bc BK0.out 1).trans rfl, (bc BK0.out 2).trans rfl, (bc BK0.out 3).trans rfl, (bc BK0.out 4).trans rfl, (bc BK0.out 5).trans rfl, ((HB.out.cell (World.block_lt_of_cell? w _ hw334_0)).trans hw334_0), ((HB.out.cell (World.block_lt_of_cell? w _ hw335_0)).trans hw335_0), ((HB.out.cell (World.block_lt_of_cell? w _ hw335_1)).trans hw335_1), ((HB.out.cell (World.block_lt_of_cell? w _ hw337_0)).trans hw337_0), ((HB.out.cell (World.block_lt_of_cell? w _ hw338_0)).trans hw338_0), ((HB.out.cell (World.block_lt_of_cell? w _ hw338_1)).trans hw338_1), ((HB.out.cell (World.block_lt_of_cell? w _ hw340_0)).trans hw340_0), ((HB.out.cell (World.block_lt_of_cell? w _ hw341_0)).trans hw341_0)⟩ (fun hHeld => ?_)
          clear hK K
          refine norm_ (a' := ?_) ?_ ?_
          rotate_left
          ·show Act.put _ (some 152) _ = _
           simp only [Act.put, sA, sB, sC, i64_w, i32_w]
           rfl
          iterate 2 (first | (refine pz_ HT_ spec_l02Ok.cz3 rfl rfl rfl (v := ?_) (a' := ?_) (by kernel_rfl) (fun _ _ _ h => h) (Or.inl ⟨by rfl, ?_⟩) ?_ ?_; rotate_left; (intro w'; go_simp; with_reducible rfl); rotate_left; (simp only [Act.put, sA, sB, sC, i64_w, i32_w]; rfl)))
          refine done_ (done_of HT_.out (by kernel_rfl)) ?_
          try go_wp2
          go_meet
          case rel => exact ⟨_, (!t342), (by first | rfl | (simp; done) | (simp [*]; done)), H', ⟨by have := HJ1.out; have := HK2.out; have := HJ18.out; have := HK4.out; first | omega | exact Nat.le_refl _⟩, ⟨by (with_reducible repeat (first | refine bn_ ?_ _ | refine bd_ ?_ | refine ba_ ?_ _)); exact BK0.out⟩, ⟨by repeat (first | (with_reducible first | exact HB.out | apply pA | apply pN | apply pD | refine pS ?_ GE0.out) | exact HB.out)⟩⟩
         case rest =>
          clear HC32
          try clear p2
          try clear c3
          try clear p3
          try clear q3
          try clear hx3
          try clear c5
          try clear p6
          try clear c33
          try clear p33
          try clear q33
          try clear hx33
          try clear c34
          try clear c35
          try clear c36
          try clear c38
          try clear hx334_0
          try clear hx335_0
          try clear hx335_1
          try clear p334
          try clear p335
          try clear q334
          try clear q335
          obtain ⟨kq, x154_31, rfl, HA, HJ31, BK0, HB⟩ := hcut
          cases kq with
          | zero => exact absurd HA.out (by simp [spec_l02Ok.j4])
          | succ kj31 =>
           have H := HA.out
           clear HA
           simp only [spec_l02Ok.j4] at H
           by_cases c47 : x154_31 = true
           ·subst c47
            have H1 : (some false) = some r := by rw [if_pos rfl] at H; exact H
            clear H
            have H := H1
            clear H1
            obtain rfl := Option.some.inj H
            go_wp2
            go_ret
            exact ⟨by first | rfl | (simp [errW_none, errW_some] <;> rfl) | (simp [*, errW_none, errW_some] <;> rfl), by repeat (first | (with_reducible first | exact HB.out | apply pA | apply pN | apply pD | refine pS ?_ GE0.out) | exact HB.out)⟩
           replace c47 := Bool.eq_false_iff.mpr c47
           subst c47
           have H1 : (spec_l02Ok.l1 kj31 (l0_2.length : Int) x4_2 (wrap64 (x5_4 + 1)) a0_0 a0_1 l0_2 l0_3 l0_4 l0_5) = some r := by rw [if_neg (show ¬ (false = true) by decide)] at H; exact H
           clear H
           have H := H1
           clear H1
           have H' := AZ.mk H
           clear H
           go_wp2
           go_roundg kj31
           case measure => have := HJ1.out; have := HK2.out; have := HJ18.out; have := HK4.out; have := HJ31.out; omega
           case rel => exact ⟨(wrap64 (x5_4 + 1)), (by first | rfl | (simp; done) | (simp [*]; done)), H', ⟨by have := HJ1.out; have := HK2.out; have := HJ18.out; have := HK4.out; have := HJ31.out; omega⟩, ⟨by (with_reducible repeat (first | refine bn_ ?_ _ | refine bd_ ?_ | refine ba_ ?_ _)); exact BK0.out⟩, ⟨by repeat (first | (with_reducible first | exact HB.out | apply pA | apply pN | apply pD | refine pS ?_ GE0.out) | exact HB.out)⟩⟩
end Go.Proofs.Ytepkfigcnnfoaaa.P
namespace Go.Proofs.Ytepkfigcnnfoaaa.P
open Go.RowKit Go.Proofs.YtepkfigcnnfoaaaW.PrintWords Go.Proofs.YtepkfigcnnfoaaaW.PrintLast Go.Proofs.YtepkfigcnnfoaaaW.PrintMore
attribute [local go_sem] max2_int min2_int max_two min_two max_three min_three max_four min_four
set_option linter.unusedVariables false
set_option linter.unusedSimpArgs false
def spec_l00Own.f (l0 : List Int) : Option (List Int) := (some (([] : List Int) : List Int)).bind fun y343 => (if y343.length + l0.length < 17592186044416 then (some (y343 ++ l0)) else (none))
set_option maxHeartbeats 8000000 in
set_option maxRecDepth 100000 in
theorem spec_l00Own.calls (A0 : Option Addr) (c0 : Nat) (l0 : List Int) (r : List Int) (w : World) (hr0 : Kd.C (Kd.int .i64) w A0 l0.length l0) (hc0 : l0.length ≤ c0) (h : spec_l00Own.f l0 = some r) :
  Calls Try.prog 94 #[.slice A0 l0.length c0] w fun e w' => ∃ v0_ : Value, e = .returned (v0_) ∧ Kd.R (Kd.int .i64) 2 w' w.heap.size (fun _ => True) v0_ r ∧ Below w.heap.size w w' := by
 have HR0 := AZ.mk hr0
 have HC0 := AZ.mk hc0
 clear hr0 hc0
 have HB := AZ.mk (Below.refl w.heap.size w)
 have H : ((some (([] : List Int) : List Int)).bind fun y343 => (if y343.length + l0.length < 17592186044416 then (some (y343 ++ l0)) else (none))) = some r := h
 clear h
 obtain ⟨y343, hy343⟩ : ∃ y_ : List Int, y_ = (([] : List Int)) := ⟨_, rfl⟩
 replace H : (if y343.length + l0.length < 17592186044416 then (some (y343 ++ l0)) else (none)) = some r := by first | (rw [hy343]; with_reducible exact H) | (have H2_ := (Option.bind_some _ _).symm.trans H; rw [hy343]; with_reducible exact H2_) | (have H2_ := (Option.bind_some _ _).symm.trans H; with_reducible exact H2_) | with_reducible exact H | (rw [hy343]; exact H) | exact H
 have Ny343 := AZ.mk hy343
 clear hy343
 by_cases c2 : y343.length + l0.length < 17592186044416
 rotate_left
 ·rw [if_neg c2] at H
  exact absurd H (by simp)
 rw [if_pos c2] at H
 have LMc2 := AZ.mk c2
 clear c2
 obtain ⟨y346, hy346⟩ : ∃ y_ : List Int, y_ = (y343 ++ l0) := ⟨_, rfl⟩
 replace H : (some y346) = some r := by first | (rw [hy346]; with_reducible exact H) | (have H2_ := (Option.bind_some _ _).symm.trans H; rw [hy346]; with_reducible exact H2_) | (have H2_ := (Option.bind_some _ _).symm.trans H; with_reducible exact H2_) | with_reducible exact H | (rw [hy346]; exact H) | exact H
 have Ny346 := AZ.mk hy346
 clear hy346
 obtain rfl := Option.some.inj H
 go_enter Try.func94, Try.ntmps94
 go_wp2_with (first | ((with_reducible refine gate_dst (N := 3) rfl ?_); refine Kd.R_lit (Kd.int .i64) _ 2 ?hg (N := 3) ?hd (xs := ([] : List Int)) (inner := []) (ok := fun _ => True) (okp := fun _ => True) ?hr ?hp (fun _ hk => hk) trivial (Below.refl _ _) (Nat.le_refl _) (by simp) ?_; (case hd => rfl); (case hg => rfl); (case hr => first | (go_simp; done) | (go_simp; rfl)); (case hp => exact (Reps.none _ _)); intro v344 w3 ho4 hb hg_ hnew_; clear hg_ hnew_; (first | rw [← Ny343.out] at ho4 | (simp only [Int.reduceToNat] at ho4; rw [← Ny343.out] at ho4)); have n0_ := AZ.mk (Kd.R_lower ho4 (pZ (by repeat (first | (with_reducible first | exact HB.out | apply pA | apply pN | apply pD) | exact HB.out)))); have n1_ := AZ.mk (pT (by repeat (first | (with_reducible first | exact HB.out | apply pA | apply pN | apply pD) | exact HB.out)) hb); clear HB; have HO345 := n0_; have HB := n1_; clear n0_ n1_; clear hb ho4) | ((with_reducible refine gate_builtin (b := .append) (xs := #[.tmp 3, .tmp 4]) rfl ?_); at_builtin; refine Kd.R_append_rows (Kd.int .i64) (w0 := w) w.heap.size rfl (.tmp 3) (.tmp 4) 49 2 (.int .i64 0) 8 rfl Try.underlying49 info2 rfl (by decide) (by omega) v344 y343 l0 _ _ _ (fun _ => True) (fun _ => False) rfl rfl ?aO ?aR (fun _ _ h => h) (fun _ h => h.elim) ?aF ?aB ?aS ?aL ?_; (case aR => repeat (first | exact (Kd.C_below HR0.out HB.out) | (with_reducible refine Kd.C_alloc ?_ _) | (with_reducible refine Kd.C_drewN ?_ _) | (with_reducible refine Kd.C_drew ?_))); (case aB => exact (by repeat (first | (with_reducible first | exact HB.out | apply pA | apply pN | apply pD) | exact HB.out))); (case aF => exact (fun _ _ => trivial)); (case aO => exact (by (with_reducible repeat (first | apply Kd.R_alloc | apply Kd.R_drewN | apply Kd.R_drew)); exact HO345.out)); (case aS => exact (pZ (by repeat (first | (with_reducible first | exact HB.out | apply pA | apply pN | apply pD) | exact HB.out)))); (case aL => have := LMc2.out; omega); intro v347 w5 ho hb hg hat; rw [← Ny346.out] at ho; have n0_ := AZ.mk (hb); have n1_ := AZ.mk (ho); clear HB; clear HO345; have HB := n0_; have HO348 := n1_; clear n0_ n1_; clear ho hb hg hat))
 go_ret
 exact ⟨_, by first | rfl | (simp [errW_none, errW_some] <;> rfl) | (simp [*, errW_none, errW_some] <;> rfl), by (with_reducible repeat (first | apply Kd.R_alloc | apply Kd.R_drewN | apply Kd.R_drew)); exact HO348.out, by repeat (first | (with_reducible first | exact HB.out | apply pA | apply pN | apply pD) | exact HB.out)⟩
end Go.Proofs.Ytepkfigcnnfoaaa.P
