/- Texts that this law leans on, several in one; written by programs of these sessions (print, wip/deep, gather.py). -/
import Derived.Test.YtepkfigcnnfoaaaOe1
set_option linter.unusedVariables false
set_option linter.unusedSimpArgs false
set_option linter.unusedSectionVars false
set_option maxHeartbeats 8000000
set_option maxRecDepth 100000
namespace Go.Proofs.Ytepkfigcnnfoaaa.P
open Go.RowKit Go.Proofs.YtepkfigcnnfoaaaW.PrintWords Go.Proofs.YtepkfigcnnfoaaaW.PrintLast Go.Proofs.YtepkfigcnnfoaaaW.PrintMore
attribute [local go_sem] Zn Zp Zw Zx Zj Zk Zq Zr
def laws_eqInt64SSS.l0 : Nat → List (List (List Int)) → List (List (List Int)) → Int → Option (Bool)
 | 0, _, _, _ => none
 | k + 1, x0, x1, x5 => if x5 < (x0.length : Int) then (if 0 ≤ x5 then (if x5 < (x1.length : Int) then ((laws_eqInt64SS.f k (rd_L5 x0 x5) (rd_L5 x1 x5)).bind fun t162 => (if t162 = true then (laws_eqInt64SSS.l0 k x0 x1 (wrap64 (x5 + 1))) else (some false))) else (none)) else (none)) else (some true)
def laws_eqInt64SSS.f (k : Nat) (l0 : List (List (List Int))) (l1 : List (List (List Int))) : Option (Bool) := if (l0.length : Int) = (l1.length : Int) then (laws_eqInt64SSS.l0 k l0 l1 0) else (some false)
theorem laws_eqInt64SSS.calls (k : Nat) (A0 : Option Addr) (c0 : Nat) (l0 : List (List (List Int))) (A1 : Option Addr) (c1 : Nat) (l1 : List (List (List Int))) (r : Bool) (w : World) (hr0 : Kd.C (Kd.slice 49 (Kd.slice 2 (Kd.int .i64))) w A0 l0.length l0) (hc0 : l0.length ≤ c0) (hr1 : Kd.C (Kd.slice 49 (Kd.slice 2 (Kd.int .i64))) w A1 l1.length l1) (hc1 : l1.length ≤ c1) (h : laws_eqInt64SSS.f k l0 l1 = some r) :
  Calls Try.prog 36 #[.slice A0 l0.length c0, .slice A1 l1.length c1] w fun e w' => e = .returned (.bool r) ∧ Drawn0 w w' := by
 have HR0 := AZ.mk hr0
 have HC0 := AZ.mk hc0
 clear hr0 hc0
 have HR1 := AZ.mk hr1
 have HC1 := AZ.mk hc1
 clear hr1 hc1
 have H : (if (l0.length : Int) = (l1.length : Int) then (laws_eqInt64SSS.l0 k l0 l1 0) else (some false)) = some r := h
 clear h
 by_cases c3 : (l0.length : Int) = (l1.length : Int)
 rotate_left
 ·rw [if_neg c3] at H
  have c3b0 : ((l0.length : Int) == (l1.length : Int)) = false := beq_eq_false_iff_ne.mpr c3
  have c3b1 : ((l0.length : Int) != (l1.length : Int)) = true := bne_iff_ne.mpr c3
  have c3b2 : (l0.length == l1.length) = false := by first | simpa using c3 | (simp at c3 ⊢; omega)
  obtain rfl := oJ H
  go_enter Try.func36, Try.ntmps36
  go_wp2
  repeat (go_quiet (fail); try go_wp2)
  go_ret
  exact ⟨by first | rfl | (simp; done) | (simp [*]; done), by repeat (first | exact Drawn0.refl _ | apply Drawn0.step)⟩
 rw [if_pos c3] at H
 have c3b0 : ((l0.length : Int) == (l1.length : Int)) = true := beq_iff_eq.mpr c3
 have c3b1 : ((l0.length : Int) != (l1.length : Int)) = false := bne_eq_false_iff_eq.mpr c3
 have c3b2 : (l0.length == l1.length) = true := by first | simpa using c3 | (simp at c3 ⊢; omega)
 clear c3
 have H' := AZ.mk H
 clear H
 go_enter Try.func36, Try.ntmps36
 go_wp2
 repeat (go_quiet (fail); try go_wp2)
 go_loopg [5] k (fun kq v5 w' => ∃ (x5_1 : Int), v5 = .int .i64 x5_1 ∧ AZ (laws_eqInt64SSS.l0 kq l0 l1 x5_1 = some r) ∧ AZ (kq ≤ k) ∧ Drawn0 w w')
 case atStart => exact ⟨(0), (by first | rfl | (simp; done) | (simp [*]; done)), H', ⟨Nat.le_refl _⟩, by repeat (first | exact Drawn0.refl _ | apply Drawn0.step)⟩
 case round =>
  clear H'
  try clear c1
  try clear p2
  try clear c3
  try clear c3b0
  try clear c3b1
  try clear c3b2
  obtain ⟨x5_1, rfl, HA, HK1, ⟨m1, rfl⟩⟩ := hrel
  cases gk with
  | zero => exact absurd HA.out (by simp [laws_eqInt64SSS.l0])
  | succ k1 =>
   have H := HA.out
   clear HA
   simp only [laws_eqInt64SSS.l0] at H
   by_cases c4 : x5_1 < (l0.length : Int)
   rotate_left
   ·rw [if_neg c4] at H
    have c4b0 : decide (x5_1 < (l0.length : Int)) = false := dF c4
    clear c4
    obtain rfl := oJ H
    go_wp2
    repeat (go_quiet (fail); try go_wp2)
    go_ret
    exact ⟨by first | rfl | (simp; done) | (simp [*]; done), by repeat (first | exact Drawn0.refl _ | apply Drawn0.step)⟩
   rw [if_pos c4] at H
   have c4b0 : decide (x5_1 < (l0.length : Int)) = true := dT c4
   clear c4
   by_cases c5 : 0 ≤ x5_1
   rotate_left
   ·rw [if_neg c5] at H
    exact absurd H (by simp)
   rw [if_pos c5] at H
   have c5b0 : decide (0 ≤ x5_1) = true := dT c5
   clear c5
   by_cases c6 : x5_1 < (l1.length : Int)
   rotate_left
   ·rw [if_neg c6] at H
    exact absurd H (by simp)
   rw [if_pos c6] at H
   have c6b0 : decide (x5_1 < (l1.length : Int)) = true := dT c6
   clear c6
   replace H := Option.bind_eq_some_iff.mp H
   obtain ⟨t162, A70, H⟩ := H
   replace H : (if t162 = true then (laws_eqInt64SSS.l0 k1 l0 l1 (wrap64 (x5_1 + 1))) else (some false)) = some r := H
   have A7 := AZ.mk A70
   clear A70
   by_cases c8 : t162 = true
   rotate_left
   ·replace c8 := Bool.eq_false_iff.mpr c8
    subst c8
    have H1 : (some false) = some r := by rw [if_neg (show ¬ (false = true) by decide)] at H; exact H
    clear H
    have H := H1
    clear H1
    obtain rfl := oJ H
    have p160 : 0 ≤ (x5_1 : Int) := oT (by first | (with_reducible assumption) | assumption)
    have q160 : x5_1 < (l0.length : Int) := oT (by first | (with_reducible assumption) | assumption)
    obtain ⟨ad160, A160_0, c160_0, e160, hx160_0, hl160_0, hi160_0⟩ := at_L5 HR0.out x5_1 p160 q160
    cases e160
    have HR160_0 := AZ.mk hi160_0
    have HC160_0 := AZ.mk hl160_0
    clear hi160_0 hl160_0
    replace p160 := eq_true p160
    replace q160 := eq_true q160
    have p161 : 0 ≤ (x5_1 : Int) := oT (by first | (with_reducible assumption) | assumption)
    have q161 : x5_1 < (l1.length : Int) := oT (by first | (with_reducible assumption) | assumption)
    obtain ⟨ad161, A161_0, c161_0, e161, hx161_0, hl161_0, hi161_0⟩ := at_L5 HR1.out x5_1 p161 q161
    cases e161
    have HR161_0 := AZ.mk hi161_0
    have HC161_0 := AZ.mk hl161_0
    clear hi161_0 hl161_0
    replace p161 := eq_true p161
    replace q161 := eq_true q161
    go_wp2_with (first | (go_at_call 37; (with_reducible refine (laws_eqInt64SS.calls k1 _ _ (rd_L5 l0 x5_1) _ _ (rd_L5 l1 x5_1) false _ ?side1 ?side2 ?side3 ?side4 A7.out).mono ?_); (case side1 => repeat (first | exact HR160_0.out | (with_reducible refine Kd.C_alloc ?_ _) | (with_reducible refine Kd.C_drewN ?_ _) | (with_reducible refine Kd.C_drew ?_))); (case side2 => exact HC160_0.out); (case side3 => repeat (first | exact HR161_0.out | (with_reducible refine Kd.C_alloc ?_ _) | (with_reducible refine Kd.C_drewN ?_ _) | (with_reducible refine Kd.C_drew ?_))); (case side4 => exact HC161_0.out); rintro e w' ⟨rfl, ⟨nd, rfl⟩⟩; (try first | exact ⟨rfl, _, World.drewN_drewN _ _ _⟩ | exact ⟨rfl, _, Eq.trans (World.drewN_drewN _ _ _) (congrArg (World.drewN _) (Nat.add_assoc _ _ _))⟩)))
    repeat (go_quiet (first | (go_at_call 37; (with_reducible refine (laws_eqInt64SS.calls k1 _ _ (rd_L5 l0 x5_1) _ _ (rd_L5 l1 x5_1) false _ ?side1 ?side2 ?side3 ?side4 A7.out).mono ?_); (case side1 => repeat (first | exact HR160_0.out | (with_reducible refine Kd.C_alloc ?_ _) | (with_reducible refine Kd.C_drewN ?_ _) | (with_reducible refine Kd.C_drew ?_))); (case side2 => exact HC160_0.out); (case side3 => repeat (first | exact HR161_0.out | (with_reducible refine Kd.C_alloc ?_ _) | (with_reducible refine Kd.C_drewN ?_ _) | (with_reducible refine Kd.C_drew ?_))); (case side4 => exact HC161_0.out); rintro e w' ⟨rfl, ⟨nd, rfl⟩⟩; (try first | exact ⟨rfl, _, World.drewN_drewN _ _ _⟩ | exact ⟨rfl, _, Eq.trans (World.drewN_drewN _ _ _) (congrArg (World.drewN _) (Nat.add_assoc _ _ _))⟩))); try go_wp2_with (first | (go_at_call 37; (with_reducible refine (laws_eqInt64SS.calls k1 _ _ (rd_L5 l0 x5_1) _ _ (rd_L5 l1 x5_1) false _ ?side1 ?side2 ?side3 ?side4 A7.out).mono ?_); (case side1 => repeat (first | exact HR160_0.out | (with_reducible refine Kd.C_alloc ?_ _) | (with_reducible refine Kd.C_drewN ?_ _) | (with_reducible refine Kd.C_drew ?_))); (case side2 => exact HC160_0.out); (case side3 => repeat (first | exact HR161_0.out | (with_reducible refine Kd.C_alloc ?_ _) | (with_reducible refine Kd.C_drewN ?_ _) | (with_reducible refine Kd.C_drew ?_))); (case side4 => exact HC161_0.out); rintro e w' ⟨rfl, ⟨nd, rfl⟩⟩; (try first | exact ⟨rfl, _, World.drewN_drewN _ _ _⟩ | exact ⟨rfl, _, Eq.trans (World.drewN_drewN _ _ _) (congrArg (World.drewN _) (Nat.add_assoc _ _ _))⟩))))
    go_ret
    exact ⟨by first | rfl | (simp; done) | (simp [*]; done), by repeat (first | exact Drawn0.refl _ | apply Drawn0.step)⟩
   subst c8
   have H1 : (laws_eqInt64SSS.l0 k1 l0 l1 (wrap64 (x5_1 + 1))) = some r := by rw [if_pos rfl] at H; exact H
   clear H
   have H := H1
   clear H1
   have H' := AZ.mk H
   clear H
   have p160 : 0 ≤ (x5_1 : Int) := oT (by first | (with_reducible assumption) | assumption)
   have q160 : x5_1 < (l0.length : Int) := oT (by first | (with_reducible assumption) | assumption)
   obtain ⟨ad160, A160_0, c160_0, e160, hx160_0, hl160_0, hi160_0⟩ := at_L5 HR0.out x5_1 p160 q160
   cases e160
   have HR160_0 := AZ.mk hi160_0
   have HC160_0 := AZ.mk hl160_0
   clear hi160_0 hl160_0
   replace p160 := eq_true p160
   replace q160 := eq_true q160
   have p161 : 0 ≤ (x5_1 : Int) := oT (by first | (with_reducible assumption) | assumption)
   have q161 : x5_1 < (l1.length : Int) := oT (by first | (with_reducible assumption) | assumption)
   obtain ⟨ad161, A161_0, c161_0, e161, hx161_0, hl161_0, hi161_0⟩ := at_L5 HR1.out x5_1 p161 q161
   cases e161
   have HR161_0 := AZ.mk hi161_0
   have HC161_0 := AZ.mk hl161_0
   clear hi161_0 hl161_0
   replace p161 := eq_true p161
   replace q161 := eq_true q161
   go_wp2_with (first | (go_at_call 37; (with_reducible refine (laws_eqInt64SS.calls k1 _ _ (rd_L5 l0 x5_1) _ _ (rd_L5 l1 x5_1) true _ ?side1 ?side2 ?side3 ?side4 A7.out).mono ?_); (case side1 => repeat (first | exact HR160_0.out | (with_reducible refine Kd.C_alloc ?_ _) | (with_reducible refine Kd.C_drewN ?_ _) | (with_reducible refine Kd.C_drew ?_))); (case side2 => exact HC160_0.out); (case side3 => repeat (first | exact HR161_0.out | (with_reducible refine Kd.C_alloc ?_ _) | (with_reducible refine Kd.C_drewN ?_ _) | (with_reducible refine Kd.C_drew ?_))); (case side4 => exact HC161_0.out); rintro e w' ⟨rfl, ⟨nd, rfl⟩⟩; (try first | exact ⟨rfl, _, World.drewN_drewN _ _ _⟩ | exact ⟨rfl, _, Eq.trans (World.drewN_drewN _ _ _) (congrArg (World.drewN _) (Nat.add_assoc _ _ _))⟩)))
   repeat (go_quiet (first | (go_at_call 37; (with_reducible refine (laws_eqInt64SS.calls k1 _ _ (rd_L5 l0 x5_1) _ _ (rd_L5 l1 x5_1) true _ ?side1 ?side2 ?side3 ?side4 A7.out).mono ?_); (case side1 => repeat (first | exact HR160_0.out | (with_reducible refine Kd.C_alloc ?_ _) | (with_reducible refine Kd.C_drewN ?_ _) | (with_reducible refine Kd.C_drew ?_))); (case side2 => exact HC160_0.out); (case side3 => repeat (first | exact HR161_0.out | (with_reducible refine Kd.C_alloc ?_ _) | (with_reducible refine Kd.C_drewN ?_ _) | (with_reducible refine Kd.C_drew ?_))); (case side4 => exact HC161_0.out); rintro e w' ⟨rfl, ⟨nd, rfl⟩⟩; (try first | exact ⟨rfl, _, World.drewN_drewN _ _ _⟩ | exact ⟨rfl, _, Eq.trans (World.drewN_drewN _ _ _) (congrArg (World.drewN _) (Nat.add_assoc _ _ _))⟩))); try go_wp2_with (first | (go_at_call 37; (with_reducible refine (laws_eqInt64SS.calls k1 _ _ (rd_L5 l0 x5_1) _ _ (rd_L5 l1 x5_1) true _ ?side1 ?side2 ?side3 ?side4 A7.out).mono ?_); (case side1 => repeat (first | exact HR160_0.out | (with_reducible refine Kd.C_alloc ?_ _) | (with_reducible refine Kd.C_drewN ?_ _) | (with_reducible refine Kd.C_drew ?_))); (case side2 => exact HC160_0.out); (case side3 => repeat (first | exact HR161_0.out | (with_reducible refine Kd.C_alloc ?_ _) | (with_reducible refine Kd.C_drewN ?_ _) | (with_reducible refine Kd.C_drew ?_))); (case side4 => exact HC161_0.out); rintro e w' ⟨rfl, ⟨nd, rfl⟩⟩; (try first | exact ⟨rfl, _, World.drewN_drewN _ _ _⟩ | exact ⟨rfl, _, Eq.trans (World.drewN_drewN _ _ _) (congrArg (World.drewN _) (Nat.add_assoc _ _ _))⟩))))
   go_roundg k1
   case measure => have := HK1.out; omega
   case rel => exact ⟨(wrap64 (x5_1 + 1)), (by first | rfl | (simp; done) | (simp [*]; done)), H', ⟨by have := HK1.out; omega⟩, by repeat (first | exact Drawn0.refl _ | apply Drawn0.step)⟩
end Go.Proofs.Ytepkfigcnnfoaaa.P
namespace Go.Proofs.Ytepkfigcnnfoaaa.P
open Go.RowKit Go.Proofs.YtepkfigcnnfoaaaW.PrintWords Go.Proofs.YtepkfigcnnfoaaaW.PrintLast Go.Proofs.YtepkfigcnnfoaaaW.PrintMore
attribute [local go_sem] Zn Zp Zw Zx Zj Zk Zq Zr
def laws_eqChecker.f (k : Nat) (a0_0 : Int) (a0_1 : Int) (l0_2 : List Bool) (l0_3 : List (List (S47))) (l0_4 : List (List (List Int))) (l0_5 : List (List Int)) (a1_0 : Int) (a1_1 : Int) (l1_2 : List Bool) (l1_3 : List (List (S47))) (l1_4 : List (List (List Int))) (l1_5 : List (List Int)) : Option (Bool) := if a0_0 = a1_0 then (if a0_1 = a1_1 then ((laws_eqBoolS.f k l0_2 l1_2).bind fun t165 => (if t165 = true then ((laws_eqPushSS.f k l0_3 l1_3).bind fun t166 => (if t166 = true then ((laws_eqInt64SSS.f k l0_4 l1_4).bind fun t167 => (if t167 = true then ((laws_eqInt64SS.f k l0_5 l1_5).bind fun t168 => (if t168 = true then (some true) else (some false))) else (some false))) else (some false))) else (some false))) else (some false)) else (some false)
end Go.Proofs.Ytepkfigcnnfoaaa.P
namespace Go.Proofs.Ytepkfigcnnfoaaa.P
open Go.RowKit Go.Proofs.YtepkfigcnnfoaaaW.PrintWords Go.Proofs.YtepkfigcnnfoaaaW.PrintLast Go.Proofs.YtepkfigcnnfoaaaW.PrintMore Go.Proofs.Ytepkfigcnnfoaaa.Deep
def Rd {α : Type} (d : Kd α) (w : World) (v : Value) (xs : List α) : Prop := ∃ A c, v = .slice A xs.length c ∧ xs.length ≤ c ∧ d.C w A xs.length xs
theorem Rd.below {α : Type} {d : Kd α} {w w' : World} {v : Value} {xs : List α} (h : Rd d w v xs) (hb : Below w.heap.size w w') : Rd d w' v xs := by
 obtain ⟨A, c, e, hl, hC⟩ := h
 exact ⟨A, c, e, hl, Kd.C_below hC hb⟩
theorem Rd.ofR {α : Type} {d : Kd α} {e : TypeId} {w : World} {B : Nat} {ok : Nat → Prop} {v : Value} {xs : List α} (h : d.R e w B ok v xs) : Rd d w v xs := Kd.R_reads h
theorem Rd.ofS {α : Type} {d : Kd α} {e : TypeId} {w : World} {B : Nat} {ok : Nat → Prop} {v : Value} {xs : List α} (h : Kd.S d e w B ok v xs) : Rd d w v xs := Kd.S_reads h
def Reads (w : World) (vA vC vR vI : Value) (LA : List Bool) (LC : List (List S47)) (LR : List (List (List Int))) (LI : List (List Int)) : Prop :=
 Rd Kd.bool w vA LA ∧ Rd (Kd.slice 47 k47) w vC LC ∧ Rd (Kd.slice 49 (Kd.slice 2 (Kd.int .i64))) w vR LR ∧ Rd (Kd.slice 2 (Kd.int .i64)) w vI LI
section
variable {w w' : World} {B : Nat} {vA vC vR vI vA' vC' vR' vI' : Value} {LA LA' : List Bool} {LC LC' : List (List S47)} {LR LR' : List (List (List Int))} {LI LI' : List (List Int)}
theorem Reads.below (h : Reads w vA vC vR vI LA LC LR LI) (hb : Below w.heap.size w w') : Reads w' vA vC vR vI LA LC LR LI := ⟨h.1.below hb, h.2.1.below hb, h.2.2.1.below hb, h.2.2.2.below hb⟩
theorem Reads.own (h : OwnC w B vA vC vR vI LA LC LR LI) : Reads w vA vC vR vI LA LC LR LI := by
 obtain ⟨f, h0, h1, h2, h3⟩ := h
 obtain ⟨A, c, e, hl, hC⟩ := Rd.ofS h2
 exact ⟨Rd.ofR h0, Rd.ofS h1, ⟨A, c, e, hl, hC⟩, Rd.ofS h3⟩
theorem Ye (h : OwnC w B vA vC vR vI LA LC LR LI) (hb : Below w.heap.size w w') : OwnC w' B vA vC vR vI LA LC LR LI := by
 obtain ⟨f, h0, h1, h2, h3⟩ := h
 have hgr := Yj hb none
 exact ⟨f, Kd.R_grown h0 hgr (fun _ _ e => by cases e), Kd.S_grown h1 hgr (fun _ _ e => by cases e), Kd.S_grown h2 hgr (fun _ _ e => by cases e), Kd.S_grown h3 hgr (fun _ _ e => by cases e)⟩
theorem own_far {B' : Nat} (h : OwnC w B vA vC vR vI LA LC LR LI) (hfar : ∀ k, B ≤ k → w'.heap[k]? = w.heap[k]?) (hle : B' ≤ B) : OwnC w' B' vA vC vR vI LA LC LR LI := by
 obtain ⟨f, h0, h1, h2, h3⟩ := h
 exact ⟨f, Kd.R_lower (Kd.R_mono (Kd.R_step (Kd.R_bound h0) (fun k hk _ => hfar k hk.2.1)) (fun _ hk => hk.1)) hle, Kd.S_lower (Kd.S_mono (Kd.S_step (Kd.S_bound h1) (fun k hk _ => hfar k hk.2.1)) (fun _ hk => hk.1)) hle, Kd.S_lower (Kd.S_mono (Kd.S_step (Kd.S_bound h2) (fun k hk _ => hfar k hk.2.1)) (fun _ hk => hk.1)) hle, Kd.S_lower (Kd.S_mono (Kd.S_step (Kd.S_bound h3) (fun k hk _ => hfar k hk.2.1)) (fun _ hk => hk.1)) hle⟩
theorem reads_shape (h : Reads w vA vC vR vI LA LC LR LI) : (∃ A n c, vA = .slice A n c) ∧ (∃ A n c, vC = .slice A n c) ∧ (∃ A n c, vR = .slice A n c) ∧ (∃ A n c, vI = .slice A n c) := by
 obtain ⟨⟨A0, c0, rfl, l0, g0⟩, ⟨A1, c1, rfl, l1, g1⟩, ⟨A2, c2, rfl, l2, g2⟩, ⟨A3, c3, rfl, l3, g3⟩⟩ := h
 exact ⟨⟨_, _, _, rfl⟩, ⟨_, _, _, rfl⟩, ⟨_, _, _, rfl⟩, ⟨_, _, _, rfl⟩⟩
end
def cellsI (m st : Int) (vA vC vR vI : Value) : Array Value := #[.int .i64 m, .int .i64 st, vA, vC, vR, vI]
theorem cellsI_one {w : World} {vA vC vR vI : Value} {LA : List Bool} {LC : List (List S47)} {LR : List (List (List Int))} {LI : List (List Int)} (m st : Int) (h : Reads w vA vC vR vI LA LC LR LI) : (cellsI m st vA vC vR vI).all (·.oneCell') = true := by
 obtain ⟨⟨_, _, _, rfl⟩, ⟨_, _, _, rfl⟩, ⟨_, _, _, rfl⟩, ⟨_, _, _, rfl⟩⟩ := reads_shape h
 rw [Array.all_eq_true_iff_forall_mem]
 intro x hx
 unfold cellsI at hx
 rw [List.mem_toArray] at hx
 rcases List.mem_cons.1 hx with rfl | hx
 ·rfl
 rcases List.mem_cons.1 hx with rfl | hx
 ·rfl
 rcases List.mem_cons.1 hx with rfl | hx
 ·rfl
 rcases List.mem_cons.1 hx with rfl | hx
 ·rfl
 rcases List.mem_cons.1 hx with rfl | hx
 ·rfl
 rw [List.mem_singleton.1 hx]
 rfl
theorem cells4_one (m st : Int) (A0 A1 A2 A3 : Option Addr) (n0 n1 n2 n3 c0 c1 c2 c3 : Nat) : (cellsI m st (.slice A0 n0 c0) (.slice A1 n1 c1) (.slice A2 n2 c2) (.slice A3 n3 c3)).all (·.oneCell') = true := by
  rw [Array.all_eq_true_iff_forall_mem]
  intro x hx
  unfold cellsI at hx
  rw [List.mem_toArray] at hx
  rcases List.mem_cons.1 hx with rfl | hx
  · rfl
  rcases List.mem_cons.1 hx with rfl | hx
  · rfl
  rcases List.mem_cons.1 hx with rfl | hx
  · rfl
  rcases List.mem_cons.1 hx with rfl | hx
  · rfl
  rcases List.mem_cons.1 hx with rfl | hx
  · rfl
  rw [List.mem_singleton.1 hx]
  rfl
theorem own_far' {w w9 : World} {B gZ : Nat} {cs : Array Value} {vA vC vR vI : Value} {LA : List Bool} {LC : List (List S47)} {LR : List (List (List Int))} {LI : List (List Int)} (h : OwnC w B vA vC vR vI LA LC LR LI) (hZ : w.heap[gZ]? = some (.cells cs 27 (0, 0))) (hfar : ∀ k, k ≠ gZ → w9.heap[k]? = w.heap[k]?) : OwnC w9 B vA vC vR vI LA LC LR LI := by
  obtain ⟨f, h0, h1, h2, h3⟩ := h
  exact ⟨f, Kd.R_mono (Kd.R_step (Kd.R_types h0 hZ (by decide)) (fun k hk _ => hfar k hk.2)) (fun _ hk => hk.1), Kd.S_mono (Kd.S_step (Kd.S_types h1 hZ (by decide)) (fun k hk _ => hfar k hk.2)) (fun _ hk => hk.1), Kd.S_mono (Kd.S_step (Kd.S_types h2 hZ (by decide)) (fun k hk _ => hfar k hk.2)) (fun _ hk => hk.1), Kd.S_mono (Kd.S_step (Kd.S_types h3 hZ (by decide)) (fun k hk _ => hfar k hk.2)) (fun _ hk => hk.1)⟩
theorem own_four {w : World} {B N0 N1 N2 N3 N4 : Nat} {vA vC vR vI : Value} {LA : List Bool} {LC : List (List S47)} {LR : List (List (List Int))} {LI : List (List Int)}
    (hn1 : N1 ≤ N2) (hn2 : N2 ≤ N3) (h0 : Kd.bool.R 4 w B (fun k => N0 ≤ k ∧ k < N1) vA LA) (h1 : Kd.S (Kd.slice 47 k47) 48 w B (fun k => N1 ≤ k ∧ k < N2) vC LC) (h2 : Kd.S (sliceS 49 (Kd.slice 2 (Kd.int .i64))) 25 w B (fun k => N2 ≤ k ∧ k < N3) vR LR) (h3 : Kd.S (Kd.slice 2 (Kd.int .i64)) 49 w B (fun k => N3 ≤ k ∧ k < N4) vI LI) : OwnC w B vA vC vR vI LA LC LR LI :=
  ⟨fun k => if k < N1 then 0 else if k < N2 then 1 else if k < N3 then 2 else 3, Kd.R_mono h0 (fun k hk => if_pos hk.2), Kd.S_mono h1 (fun k hk => (if_neg (by omega)).trans (if_pos hk.2)),
   Kd.S_mono h2 (fun k hk => by show (if k < N1 then 0 else if k < N2 then 1 else if k < N3 then 2 else 3) = 2; rw [if_neg (by omega), if_neg (by omega), if_pos hk.2]), Kd.S_mono h3 (fun k hk => by show (if k < N1 then 0 else if k < N2 then 1 else if k < N3 then 2 else 3) = 3; rw [if_neg (by omega), if_neg (by omega), if_neg (by omega)])⟩
theorem toChecker_calls (k : Nat) (m st : Int) (A2 : Option Addr) (c2 : Nat) (l2 : List Bool) (A3 : Option Addr) (c3 : Nat) (l3 : List (List S101)) (A4 : Option Addr) (c4 : Nat) (l4 : List (List (List Int))) (A5 : Option Addr) (c5 : Nat) (l5 : List (List Int)) (r2 : List Bool) (r3 : List (List S47)) (r4 : List (List (List Int))) (r5 : List (List Int)) (w : World)
    (hc2 : Kd.C Kd.bool w A2 l2.length l2) (hd2 : l2.length ≤ c2) (hc3 : Kd.C (Kd.slice 101 k101) w A3 l3.length l3) (hd3 : l3.length ≤ c3) (hc4 : Kd.C (Kd.slice 49 (Kd.slice 2 (Kd.int .i64))) w A4 l4.length l4) (hd4 : l4.length ≤ c4) (hc5 : Kd.C (Kd.slice 2 (Kd.int .i64)) w A5 l5.length l5) (hd5 : l5.length ≤ c5)
    (e2 : laws_toBoolS.f k l2 = some r2) (e3 : laws_toPushSS.f k l3 = some r3) (e4 : laws_toInt64SSS.f k l4 = some r4) (e5 : laws_toInt64SS.f k l5 = some r5) :
    Calls Try.prog 23 #[.agg #[.int .i64 m, .int .i64 st, .slice A2 l2.length c2, .slice A3 l3.length c3, .slice A4 l4.length c4, .slice A5 l5.length c5]] w fun e w' => ∃ vA vC vR vI : Value, e = .returned (.agg #[.int .i64 m, .int .i64 st, vA, vC, vR, vI]) ∧ OwnC w' w.heap.size vA vC vR vI r2 r3 r4 r5 ∧ Below w.heap.size w w' := by
  have hu27 := Try.underlying27
  have HB := AZ.mk (Below.refl w.heap.size w)
  have C2 := AZ.mk hc2
  have D2 := AZ.mk hd2
  have E2 := AZ.mk e2
  have C3 := AZ.mk hc3
  have D3 := AZ.mk hd3
  have E3 := AZ.mk e3
  have C4 := AZ.mk hc4
  have D4 := AZ.mk hd4
  have E4 := AZ.mk e4
  have C5 := AZ.mk hc5
  have D5 := AZ.mk hd5
  have E5 := AZ.mk e5
  clear hc2 hd2 hc3 hd3 hc4 hd4 hc5 hd5 e2 e3 e4 e5
  go_enter Try.func23, Try.ntmps23
  go_wp2_with (first | ((with_reducible refine Zc (N := 1) rfl ?_); refine Zh rfl (N := 1) rfl (cs := #[.int .i64 m, .int .i64 st, .slice A2 l2.length c2, .slice A3 l3.length c3, .slice A4 l4.length c4, .slice A5 l5.length c5]) (t := 39) (by go_simp; try rfl) ?_; intro gB hg WgB hbx hb; have BB := AZ.mk hbx; have n_ := AZ.mk (pT HB.out hb); clear HB hb hbx hg; have HB := n_; clear n_) | ((with_reducible refine Zc (N := 2) rfl ?_); refine Zh rfl (N := 2) rfl (cs := cZ) (t := 27) (by go_simp; try rfl) ?_; intro gZ hg WgZ hbx hb; have BZ := AZ.mk hbx; have GZ := AZ.mk (show w.heap.size ≤ gZ by rw [hg]; exact pZ HB.out); have n_ := AZ.mk (pT HB.out hb); have n2_ := AZ.mk (bb_ BB.out hb); clear HB BB hb hbx hg; have HB := n_; have BB := n2_; clear n_ n2_) | ((with_reducible refine Zc (N := 3) rfl ?_); refine Zh rfl (N := 3) rfl (cs := #[(.int .i64 0), (.int .i64 0), (.slice none 0 0), (.slice none 0 0), (.slice none 0 0), (.slice none 0 0)]) (t := 27) (by go_simp; try rfl) ?_; intro gX hg WgX hbx hb; have BX := AZ.mk hbx; have GX := AZ.mk (show w.heap.size ≤ gX by rw [hg]; exact pZ HB.out); have NZ := AZ.mk (show gZ ≠ gX by rw [hg]; exact nL (Zv BZ.out)); have NB := AZ.mk (show gB ≠ gX by rw [hg]; exact nL (Zv BB.out)); have n_ := AZ.mk (pT HB.out hb); have n2_ := AZ.mk (bb_ BB.out hb); have n3_ := AZ.mk (bb_ BZ.out hb); clear HB BB BZ hb hbx hg; have HB := n_; have BB := n2_; have BZ := n3_; clear n_ n2_ n3_; obtain ⟨N0, hN0⟩ : ∃ n, n = WgX.heap.size := ⟨_, rfl⟩; have SZ := AZ.mk (Nat.le_of_eq hN0); clear hN0; have hx0 : WgX.cell? ⟨gX, 0, none⟩ = some (.int .i64 0) := (bc BX.out 0).trans rfl; have hf0 := bf BX.out 0; have hx1 : WgX.cell? ⟨gX, 1, none⟩ = some (.int .i64 0) := (bc BX.out 1).trans rfl; have hf1 := bf BX.out 1; have hx2 : WgX.cell? ⟨gX, 2, none⟩ = some (.slice none 0 0) := (bc BX.out 2).trans rfl; have hf2 := bf BX.out 2; have hx3 : WgX.cell? ⟨gX, 3, none⟩ = some (.slice none 0 0) := (bc BX.out 3).trans rfl; have hf3 := bf BX.out 3; have hx4 : WgX.cell? ⟨gX, 4, none⟩ = some (.slice none 0 0) := (bc BX.out 4).trans rfl; have hf4 := bf BX.out 4; have hx5 : WgX.cell? ⟨gX, 5, none⟩ = some (.slice none 0 0) := (bc BX.out 5).trans rfl; have hf5 := bf BX.out 5; have hy0 : WgX.cell? ⟨gB, 0, none⟩ = some (.int .i64 m) := (bc BB.out 0).trans rfl; have hy1 : WgX.cell? ⟨gB, 1, none⟩ = some (.int .i64 st) := (bc BB.out 1).trans rfl; have hy2 : WgX.cell? ⟨gB, 2, none⟩ = some (.slice A2 l2.length c2) := (bc BB.out 2).trans rfl; have hy3 : WgX.cell? ⟨gB, 3, none⟩ = some (.slice A3 l3.length c3) := (bc BB.out 3).trans rfl; have hy4 : WgX.cell? ⟨gB, 4, none⟩ = some (.slice A4 l4.length c4) := (bc BB.out 4).trans rfl; have hy5 : WgX.cell? ⟨gB, 5, none⟩ = some (.slice A5 l5.length c5) := (bc BB.out 5).trans rfl) | ((with_reducible refine Yk (t := 2) (p := 6) rfl ?_); refine Yg (t := 2) (p := 6) (v := ?vo_0) (w1 := World.setCell WgX ⟨gX, 0, none⟩ (.int .i64 m)) ?hg ?ho ?hn ?hr ?_; (case ho => rfl); (case hg => rfl); (case hn => rfl); (case hr => first | (go_simp; done) | (go_simp; rfl)); intro WX0 hw; have n0_ : AZ (Below w.heap.size w WX0) := ⟨by rw [hw]; exact pS HB.out GX.out⟩; have n1_ : AZ (WX0.heap[gB]? = some (.cells #[.int .i64 m, .int .i64 st, .slice A2 l2.length c2, .slice A3 l3.length c3, .slice A4 l4.length c4, .slice A5 l5.length c5] 39 (0, 0))) := ⟨by rw [hw]; exact (Below.heap_setCell _ _ _ _ NB.out).trans BB.out⟩; have n2_ : AZ (WX0.heap[gZ]? = some (.cells cZ 27 (0, 0))) := ⟨by rw [hw]; exact (Below.heap_setCell _ _ _ _ NZ.out).trans BZ.out⟩; have n3_ : AZ (N0 ≤ WX0.heap.size) := ⟨by rw [hw, World.size_setCell]; exact SZ.out⟩; have n4_ : AZ (WX0.heap[gX]? = some (.cells #[(.int .i64 m), (.int .i64 0), (.slice none 0 0), (.slice none 0 0), (.slice none 0 0), (.slice none 0 0)] 27 (0, 0))) := ⟨by rw [hw]; exact blk_put BX.out 0 _ rfl⟩; clear HB BB BZ SZ BX hw; clear hx0 hf0 hy0 hx1 hf1 hy1 hx2 hf2 hy2 hx3 hf3 hy3 hx4 hf4 hy4 hx5 hf5 hy5; have HB := n0_; have BB := n1_; have BZ := n2_; have SZ := n3_; have BX := n4_; clear n0_ n1_ n2_ n3_ n4_; have hx0 : WX0.cell? ⟨gX, 0, none⟩ = some (.int .i64 m) := (bc BX.out 0).trans rfl; have hf0 := bf BX.out 0; have hx1 : WX0.cell? ⟨gX, 1, none⟩ = some (.int .i64 0) := (bc BX.out 1).trans rfl; have hf1 := bf BX.out 1; have hx2 : WX0.cell? ⟨gX, 2, none⟩ = some (.slice none 0 0) := (bc BX.out 2).trans rfl; have hf2 := bf BX.out 2; have hx3 : WX0.cell? ⟨gX, 3, none⟩ = some (.slice none 0 0) := (bc BX.out 3).trans rfl; have hf3 := bf BX.out 3; have hx4 : WX0.cell? ⟨gX, 4, none⟩ = some (.slice none 0 0) := (bc BX.out 4).trans rfl; have hf4 := bf BX.out 4; have hx5 : WX0.cell? ⟨gX, 5, none⟩ = some (.slice none 0 0) := (bc BX.out 5).trans rfl; have hf5 := bf BX.out 5; have hy0 : WX0.cell? ⟨gB, 0, none⟩ = some (.int .i64 m) := (bc BB.out 0).trans rfl; have hy1 : WX0.cell? ⟨gB, 1, none⟩ = some (.int .i64 st) := (bc BB.out 1).trans rfl; have hy2 : WX0.cell? ⟨gB, 2, none⟩ = some (.slice A2 l2.length c2) := (bc BB.out 2).trans rfl; have hy3 : WX0.cell? ⟨gB, 3, none⟩ = some (.slice A3 l3.length c3) := (bc BB.out 3).trans rfl; have hy4 : WX0.cell? ⟨gB, 4, none⟩ = some (.slice A4 l4.length c4) := (bc BB.out 4).trans rfl; have hy5 : WX0.cell? ⟨gB, 5, none⟩ = some (.slice A5 l5.length c5) := (bc BB.out 5).trans rfl) | ((with_reducible refine Yk (t := 2) (p := 9) rfl ?_); refine Yg (t := 2) (p := 9) (v := ?vo_1) (w1 := World.setCell WX0 ⟨gX, 1, none⟩ (.int .i64 st)) ?hg ?ho ?hn ?hr ?_; (case ho => rfl); (case hg => rfl); (case hn => rfl); (case hr => first | (go_simp; done) | (go_simp; rfl)); intro WX1 hw; have n0_ : AZ (Below w.heap.size w WX1) := ⟨by rw [hw]; exact pS HB.out GX.out⟩; have n1_ : AZ (WX1.heap[gB]? = some (.cells #[.int .i64 m, .int .i64 st, .slice A2 l2.length c2, .slice A3 l3.length c3, .slice A4 l4.length c4, .slice A5 l5.length c5] 39 (0, 0))) := ⟨by rw [hw]; exact (Below.heap_setCell _ _ _ _ NB.out).trans BB.out⟩; have n2_ : AZ (WX1.heap[gZ]? = some (.cells cZ 27 (0, 0))) := ⟨by rw [hw]; exact (Below.heap_setCell _ _ _ _ NZ.out).trans BZ.out⟩; have n3_ : AZ (N0 ≤ WX1.heap.size) := ⟨by rw [hw, World.size_setCell]; exact SZ.out⟩; have n4_ : AZ (WX1.heap[gX]? = some (.cells #[(.int .i64 m), (.int .i64 st), (.slice none 0 0), (.slice none 0 0), (.slice none 0 0), (.slice none 0 0)] 27 (0, 0))) := ⟨by rw [hw]; exact blk_put BX.out 1 _ rfl⟩; clear HB BB BZ SZ BX hw; clear hx0 hf0 hy0 hx1 hf1 hy1 hx2 hf2 hy2 hx3 hf3 hy3 hx4 hf4 hy4 hx5 hf5 hy5; have HB := n0_; have BB := n1_; have BZ := n2_; have SZ := n3_; have BX := n4_; clear n0_ n1_ n2_ n3_ n4_; have hx0 : WX1.cell? ⟨gX, 0, none⟩ = some (.int .i64 m) := (bc BX.out 0).trans rfl; have hf0 := bf BX.out 0; have hx1 : WX1.cell? ⟨gX, 1, none⟩ = some (.int .i64 st) := (bc BX.out 1).trans rfl; have hf1 := bf BX.out 1; have hx2 : WX1.cell? ⟨gX, 2, none⟩ = some (.slice none 0 0) := (bc BX.out 2).trans rfl; have hf2 := bf BX.out 2; have hx3 : WX1.cell? ⟨gX, 3, none⟩ = some (.slice none 0 0) := (bc BX.out 3).trans rfl; have hf3 := bf BX.out 3; have hx4 : WX1.cell? ⟨gX, 4, none⟩ = some (.slice none 0 0) := (bc BX.out 4).trans rfl; have hf4 := bf BX.out 4; have hx5 : WX1.cell? ⟨gX, 5, none⟩ = some (.slice none 0 0) := (bc BX.out 5).trans rfl; have hf5 := bf BX.out 5; have hy0 : WX1.cell? ⟨gB, 0, none⟩ = some (.int .i64 m) := (bc BB.out 0).trans rfl; have hy1 : WX1.cell? ⟨gB, 1, none⟩ = some (.int .i64 st) := (bc BB.out 1).trans rfl; have hy2 : WX1.cell? ⟨gB, 2, none⟩ = some (.slice A2 l2.length c2) := (bc BB.out 2).trans rfl; have hy3 : WX1.cell? ⟨gB, 3, none⟩ = some (.slice A3 l3.length c3) := (bc BB.out 3).trans rfl; have hy4 : WX1.cell? ⟨gB, 4, none⟩ = some (.slice A4 l4.length c4) := (bc BB.out 4).trans rfl; have hy5 : WX1.cell? ⟨gB, 5, none⟩ = some (.slice A5 l5.length c5) := (bc BB.out 5).trans rfl) | ((with_reducible refine Yk (t := 22) (p := 13) rfl ?_); refine Yg (t := 22) (p := 13) (v := ?vo_2) (w1 := World.setCell WC0 ⟨gX, 2, none⟩ (.slice a0_ r2.length b0_)) ?hg ?ho ?hn ?hr ?_; (case ho => rfl); (case hg => rfl); (case hn => rfl); (case hr => first | (go_simp; done) | (go_simp; rfl)); intro WX2 hw; have n0_ : AZ (Below w.heap.size w WX2) := ⟨by rw [hw]; exact pS HB.out GX.out⟩; have n1_ : AZ (WX2.heap[gB]? = some (.cells #[.int .i64 m, .int .i64 st, .slice A2 l2.length c2, .slice A3 l3.length c3, .slice A4 l4.length c4, .slice A5 l5.length c5] 39 (0, 0))) := ⟨by rw [hw]; exact (Below.heap_setCell _ _ _ _ NB.out).trans BB.out⟩; have n2_ : AZ (WX2.heap[gZ]? = some (.cells cZ 27 (0, 0))) := ⟨by rw [hw]; exact (Below.heap_setCell _ _ _ _ NZ.out).trans BZ.out⟩; have n3_ : AZ (N1 ≤ WX2.heap.size) := ⟨by rw [hw, World.size_setCell]; exact SZ.out⟩; have n4_ : AZ (Kd.bool.R 4 WX2 w.heap.size (fun k => N0 ≤ k ∧ k < N1) (.slice a0_ r2.length b0_) r2) := ⟨by rw [hw]; exact Kd.R_set HA.out BX.out (by decide) 2 _⟩; have n5_ : AZ (WX2.heap[gX]? = some (.cells #[(.int .i64 m), (.int .i64 st), (.slice a0_ r2.length b0_), (.slice none 0 0), (.slice none 0 0), (.slice none 0 0)] 27 (0, 0))) := ⟨by rw [hw]; exact blk_put BX.out 2 _ rfl⟩; clear HB BB BZ SZ HA BX hw; clear hx0 hf0 hy0 hx1 hf1 hy1 hx2 hf2 hy2 hx3 hf3 hy3 hx4 hf4 hy4 hx5 hf5 hy5; have HB := n0_; have BB := n1_; have BZ := n2_; have SZ := n3_; have HA := n4_; have BX := n5_; clear n0_ n1_ n2_ n3_ n4_ n5_; have hx0 : WX2.cell? ⟨gX, 0, none⟩ = some (.int .i64 m) := (bc BX.out 0).trans rfl; have hf0 := bf BX.out 0; have hx1 : WX2.cell? ⟨gX, 1, none⟩ = some (.int .i64 st) := (bc BX.out 1).trans rfl; have hf1 := bf BX.out 1; have hx2 : WX2.cell? ⟨gX, 2, none⟩ = some (.slice a0_ r2.length b0_) := (bc BX.out 2).trans rfl; have hf2 := bf BX.out 2; have hx3 : WX2.cell? ⟨gX, 3, none⟩ = some (.slice none 0 0) := (bc BX.out 3).trans rfl; have hf3 := bf BX.out 3; have hx4 : WX2.cell? ⟨gX, 4, none⟩ = some (.slice none 0 0) := (bc BX.out 4).trans rfl; have hf4 := bf BX.out 4; have hx5 : WX2.cell? ⟨gX, 5, none⟩ = some (.slice none 0 0) := (bc BX.out 5).trans rfl; have hf5 := bf BX.out 5; have hy0 : WX2.cell? ⟨gB, 0, none⟩ = some (.int .i64 m) := (bc BB.out 0).trans rfl; have hy1 : WX2.cell? ⟨gB, 1, none⟩ = some (.int .i64 st) := (bc BB.out 1).trans rfl; have hy2 : WX2.cell? ⟨gB, 2, none⟩ = some (.slice A2 l2.length c2) := (bc BB.out 2).trans rfl; have hy3 : WX2.cell? ⟨gB, 3, none⟩ = some (.slice A3 l3.length c3) := (bc BB.out 3).trans rfl; have hy4 : WX2.cell? ⟨gB, 4, none⟩ = some (.slice A4 l4.length c4) := (bc BB.out 4).trans rfl; have hy5 : WX2.cell? ⟨gB, 5, none⟩ = some (.slice A5 l5.length c5) := (bc BB.out 5).trans rfl) | ((with_reducible refine Yk (t := 23) (p := 17) rfl ?_); refine Yg (t := 23) (p := 17) (v := ?vo_3) (w1 := World.setCell WC1 ⟨gX, 3, none⟩ (.slice a1_ r3.length b1_)) ?hg ?ho ?hn ?hr ?_; (case ho => rfl); (case hg => rfl); (case hn => rfl); (case hr => first | (go_simp; done) | (go_simp; rfl)); intro WX3 hw; have n0_ : AZ (Below w.heap.size w WX3) := ⟨by rw [hw]; exact pS HB.out GX.out⟩; have n1_ : AZ (WX3.heap[gB]? = some (.cells #[.int .i64 m, .int .i64 st, .slice A2 l2.length c2, .slice A3 l3.length c3, .slice A4 l4.length c4, .slice A5 l5.length c5] 39 (0, 0))) := ⟨by rw [hw]; exact (Below.heap_setCell _ _ _ _ NB.out).trans BB.out⟩; have n2_ : AZ (WX3.heap[gZ]? = some (.cells cZ 27 (0, 0))) := ⟨by rw [hw]; exact (Below.heap_setCell _ _ _ _ NZ.out).trans BZ.out⟩; have n3_ : AZ (N2 ≤ WX3.heap.size) := ⟨by rw [hw, World.size_setCell]; exact SZ.out⟩; have n4_ : AZ (Kd.bool.R 4 WX3 w.heap.size (fun k => N0 ≤ k ∧ k < N1) (.slice a0_ r2.length b0_) r2) := ⟨by rw [hw]; exact Kd.R_set HA.out BX.out (by decide) 3 _⟩; have n5_ : AZ (Kd.S (Kd.slice 47 k47) 48 WX3 w.heap.size (fun k => N1 ≤ k ∧ k < N2) (.slice a1_ r3.length b1_) r3) := ⟨by rw [hw]; exact Kd.S_set HC.out BX.out (by decide) 3 _⟩; have n6_ : AZ (WX3.heap[gX]? = some (.cells #[(.int .i64 m), (.int .i64 st), (.slice a0_ r2.length b0_), (.slice a1_ r3.length b1_), (.slice none 0 0), (.slice none 0 0)] 27 (0, 0))) := ⟨by rw [hw]; exact blk_put BX.out 3 _ rfl⟩; clear HB BB BZ SZ HA HC BX hw; clear hx0 hf0 hy0 hx1 hf1 hy1 hx2 hf2 hy2 hx3 hf3 hy3 hx4 hf4 hy4 hx5 hf5 hy5; have HB := n0_; have BB := n1_; have BZ := n2_; have SZ := n3_; have HA := n4_; have HC := n5_; have BX := n6_; clear n0_ n1_ n2_ n3_ n4_ n5_ n6_; have hx0 : WX3.cell? ⟨gX, 0, none⟩ = some (.int .i64 m) := (bc BX.out 0).trans rfl; have hf0 := bf BX.out 0; have hx1 : WX3.cell? ⟨gX, 1, none⟩ = some (.int .i64 st) := (bc BX.out 1).trans rfl; have hf1 := bf BX.out 1; have hx2 : WX3.cell? ⟨gX, 2, none⟩ = some (.slice a0_ r2.length b0_) := (bc BX.out 2).trans rfl; have hf2 := bf BX.out 2; have hx3 : WX3.cell? ⟨gX, 3, none⟩ = some (.slice a1_ r3.length b1_) := (bc BX.out 3).trans rfl; have hf3 := bf BX.out 3; have hx4 : WX3.cell? ⟨gX, 4, none⟩ = some (.slice none 0 0) := (bc BX.out 4).trans rfl; have hf4 := bf BX.out 4; have hx5 : WX3.cell? ⟨gX, 5, none⟩ = some (.slice none 0 0) := (bc BX.out 5).trans rfl; have hf5 := bf BX.out 5; have hy0 : WX3.cell? ⟨gB, 0, none⟩ = some (.int .i64 m) := (bc BB.out 0).trans rfl; have hy1 : WX3.cell? ⟨gB, 1, none⟩ = some (.int .i64 st) := (bc BB.out 1).trans rfl; have hy2 : WX3.cell? ⟨gB, 2, none⟩ = some (.slice A2 l2.length c2) := (bc BB.out 2).trans rfl; have hy3 : WX3.cell? ⟨gB, 3, none⟩ = some (.slice A3 l3.length c3) := (bc BB.out 3).trans rfl; have hy4 : WX3.cell? ⟨gB, 4, none⟩ = some (.slice A4 l4.length c4) := (bc BB.out 4).trans rfl; have hy5 : WX3.cell? ⟨gB, 5, none⟩ = some (.slice A5 l5.length c5) := (bc BB.out 5).trans rfl) | ((with_reducible refine Yk (t := 24) (p := 21) rfl ?_); refine Yg (t := 24) (p := 21) (v := ?vo_4) (w1 := World.setCell WC2 ⟨gX, 4, none⟩ (.slice a2_ r4.length b2_)) ?hg ?ho ?hn ?hr ?_; (case ho => rfl); (case hg => rfl); (case hn => rfl); (case hr => first | (go_simp; done) | (go_simp; rfl)); intro WX4 hw; have n0_ : AZ (Below w.heap.size w WX4) := ⟨by rw [hw]; exact pS HB.out GX.out⟩; have n1_ : AZ (WX4.heap[gB]? = some (.cells #[.int .i64 m, .int .i64 st, .slice A2 l2.length c2, .slice A3 l3.length c3, .slice A4 l4.length c4, .slice A5 l5.length c5] 39 (0, 0))) := ⟨by rw [hw]; exact (Below.heap_setCell _ _ _ _ NB.out).trans BB.out⟩; have n2_ : AZ (WX4.heap[gZ]? = some (.cells cZ 27 (0, 0))) := ⟨by rw [hw]; exact (Below.heap_setCell _ _ _ _ NZ.out).trans BZ.out⟩; have n3_ : AZ (N3 ≤ WX4.heap.size) := ⟨by rw [hw, World.size_setCell]; exact SZ.out⟩; have n4_ : AZ (Kd.bool.R 4 WX4 w.heap.size (fun k => N0 ≤ k ∧ k < N1) (.slice a0_ r2.length b0_) r2) := ⟨by rw [hw]; exact Kd.R_set HA.out BX.out (by decide) 4 _⟩; have n5_ : AZ (Kd.S (Kd.slice 47 k47) 48 WX4 w.heap.size (fun k => N1 ≤ k ∧ k < N2) (.slice a1_ r3.length b1_) r3) := ⟨by rw [hw]; exact Kd.S_set HC.out BX.out (by decide) 4 _⟩; have n6_ : AZ (Kd.S (sliceS 49 (Kd.slice 2 (Kd.int .i64))) 25 WX4 w.heap.size (fun k => N2 ≤ k ∧ k < N3) (.slice a2_ r4.length b2_) r4) := ⟨by rw [hw]; exact Kd.S_set HR.out BX.out (by decide) 4 _⟩; have n7_ : AZ (WX4.heap[gX]? = some (.cells #[(.int .i64 m), (.int .i64 st), (.slice a0_ r2.length b0_), (.slice a1_ r3.length b1_), (.slice a2_ r4.length b2_), (.slice none 0 0)] 27 (0, 0))) := ⟨by rw [hw]; exact blk_put BX.out 4 _ rfl⟩; clear HB BB BZ SZ HA HC HR BX hw; clear hx0 hf0 hy0 hx1 hf1 hy1 hx2 hf2 hy2 hx3 hf3 hy3 hx4 hf4 hy4 hx5 hf5 hy5; have HB := n0_; have BB := n1_; have BZ := n2_; have SZ := n3_; have HA := n4_; have HC := n5_; have HR := n6_; have BX := n7_; clear n0_ n1_ n2_ n3_ n4_ n5_ n6_ n7_; have hx0 : WX4.cell? ⟨gX, 0, none⟩ = some (.int .i64 m) := (bc BX.out 0).trans rfl; have hf0 := bf BX.out 0; have hx1 : WX4.cell? ⟨gX, 1, none⟩ = some (.int .i64 st) := (bc BX.out 1).trans rfl; have hf1 := bf BX.out 1; have hx2 : WX4.cell? ⟨gX, 2, none⟩ = some (.slice a0_ r2.length b0_) := (bc BX.out 2).trans rfl; have hf2 := bf BX.out 2; have hx3 : WX4.cell? ⟨gX, 3, none⟩ = some (.slice a1_ r3.length b1_) := (bc BX.out 3).trans rfl; have hf3 := bf BX.out 3; have hx4 : WX4.cell? ⟨gX, 4, none⟩ = some (.slice a2_ r4.length b2_) := (bc BX.out 4).trans rfl; have hf4 := bf BX.out 4; have hx5 : WX4.cell? ⟨gX, 5, none⟩ = some (.slice none 0 0) := (bc BX.out 5).trans rfl; have hf5 := bf BX.out 5; have hy0 : WX4.cell? ⟨gB, 0, none⟩ = some (.int .i64 m) := (bc BB.out 0).trans rfl; have hy1 : WX4.cell? ⟨gB, 1, none⟩ = some (.int .i64 st) := (bc BB.out 1).trans rfl; have hy2 : WX4.cell? ⟨gB, 2, none⟩ = some (.slice A2 l2.length c2) := (bc BB.out 2).trans rfl; have hy3 : WX4.cell? ⟨gB, 3, none⟩ = some (.slice A3 l3.length c3) := (bc BB.out 3).trans rfl; have hy4 : WX4.cell? ⟨gB, 4, none⟩ = some (.slice A4 l4.length c4) := (bc BB.out 4).trans rfl; have hy5 : WX4.cell? ⟨gB, 5, none⟩ = some (.slice A5 l5.length c5) := (bc BB.out 5).trans rfl) | ((with_reducible refine Yk (t := 25) (p := 25) rfl ?_); refine Yg (t := 25) (p := 25) (v := ?vo_5) (w1 := World.setCell WC3 ⟨gX, 5, none⟩ (.slice a3_ r5.length b3_)) ?hg ?ho ?hn ?hr ?_; (case ho => rfl); (case hg => rfl); (case hn => rfl); (case hr => first | (go_simp; done) | (go_simp; rfl)); intro WX5 hw; have n0_ : AZ (Below w.heap.size w WX5) := ⟨by rw [hw]; exact pS HB.out GX.out⟩; have n1_ : AZ (WX5.heap[gB]? = some (.cells #[.int .i64 m, .int .i64 st, .slice A2 l2.length c2, .slice A3 l3.length c3, .slice A4 l4.length c4, .slice A5 l5.length c5] 39 (0, 0))) := ⟨by rw [hw]; exact (Below.heap_setCell _ _ _ _ NB.out).trans BB.out⟩; have n2_ : AZ (WX5.heap[gZ]? = some (.cells cZ 27 (0, 0))) := ⟨by rw [hw]; exact (Below.heap_setCell _ _ _ _ NZ.out).trans BZ.out⟩; have n3_ : AZ (N4 ≤ WX5.heap.size) := ⟨by rw [hw, World.size_setCell]; exact SZ.out⟩; have n4_ : AZ (Kd.bool.R 4 WX5 w.heap.size (fun k => N0 ≤ k ∧ k < N1) (.slice a0_ r2.length b0_) r2) := ⟨by rw [hw]; exact Kd.R_set HA.out BX.out (by decide) 5 _⟩; have n5_ : AZ (Kd.S (Kd.slice 47 k47) 48 WX5 w.heap.size (fun k => N1 ≤ k ∧ k < N2) (.slice a1_ r3.length b1_) r3) := ⟨by rw [hw]; exact Kd.S_set HC.out BX.out (by decide) 5 _⟩; have n6_ : AZ (Kd.S (sliceS 49 (Kd.slice 2 (Kd.int .i64))) 25 WX5 w.heap.size (fun k => N2 ≤ k ∧ k < N3) (.slice a2_ r4.length b2_) r4) := ⟨by rw [hw]; exact Kd.S_set HR.out BX.out (by decide) 5 _⟩; have n7_ : AZ (Kd.S (Kd.slice 2 (Kd.int .i64)) 49 WX5 w.heap.size (fun k => N3 ≤ k ∧ k < N4) (.slice a3_ r5.length b3_) r5) := ⟨by rw [hw]; exact Kd.S_set HI.out BX.out (by decide) 5 _⟩; have n8_ : AZ (WX5.heap[gX]? = some (.cells #[(.int .i64 m), (.int .i64 st), (.slice a0_ r2.length b0_), (.slice a1_ r3.length b1_), (.slice a2_ r4.length b2_), (.slice a3_ r5.length b3_)] 27 (0, 0))) := ⟨by rw [hw]; exact blk_put BX.out 5 _ rfl⟩; clear HB BB BZ SZ HA HC HR HI BX hw; clear hx0 hf0 hy0 hx1 hf1 hy1 hx2 hf2 hy2 hx3 hf3 hy3 hx4 hf4 hy4 hx5 hf5 hy5; have HB := n0_; have BB := n1_; have BZ := n2_; have SZ := n3_; have HA := n4_; have HC := n5_; have HR := n6_; have HI := n7_; have BX := n8_; clear n0_ n1_ n2_ n3_ n4_ n5_ n6_ n7_ n8_; have hx0 : WX5.cell? ⟨gX, 0, none⟩ = some (.int .i64 m) := (bc BX.out 0).trans rfl; have hf0 := bf BX.out 0; have hx1 : WX5.cell? ⟨gX, 1, none⟩ = some (.int .i64 st) := (bc BX.out 1).trans rfl; have hf1 := bf BX.out 1; have hx2 : WX5.cell? ⟨gX, 2, none⟩ = some (.slice a0_ r2.length b0_) := (bc BX.out 2).trans rfl; have hf2 := bf BX.out 2; have hx3 : WX5.cell? ⟨gX, 3, none⟩ = some (.slice a1_ r3.length b1_) := (bc BX.out 3).trans rfl; have hf3 := bf BX.out 3; have hx4 : WX5.cell? ⟨gX, 4, none⟩ = some (.slice a2_ r4.length b2_) := (bc BX.out 4).trans rfl; have hf4 := bf BX.out 4; have hx5 : WX5.cell? ⟨gX, 5, none⟩ = some (.slice a3_ r5.length b3_) := (bc BX.out 5).trans rfl; have hf5 := bf BX.out 5; have hy0 : WX5.cell? ⟨gB, 0, none⟩ = some (.int .i64 m) := (bc BB.out 0).trans rfl; have hy1 : WX5.cell? ⟨gB, 1, none⟩ = some (.int .i64 st) := (bc BB.out 1).trans rfl; have hy2 : WX5.cell? ⟨gB, 2, none⟩ = some (.slice A2 l2.length c2) := (bc BB.out 2).trans rfl; have hy3 : WX5.cell? ⟨gB, 3, none⟩ = some (.slice A3 l3.length c3) := (bc BB.out 3).trans rfl; have hy4 : WX5.cell? ⟨gB, 4, none⟩ = some (.slice A4 l4.length c4) := (bc BB.out 4).trans rfl; have hy5 : WX5.cell? ⟨gB, 5, none⟩ = some (.slice A5 l5.length c5) := (bc BB.out 5).trans rfl) | ((with_reducible refine gate_callee (f := 72) rfl ?_); refine Zi (some 12) rfl rfl Try.func72 (by kernel_rfl) rfl #[.slice A2 l2.length c2] rfl (by (try simp only [mA, mB, mC]); first | done | rfl) ?_; refine (laws_toBoolS.calls k _ _ l2 r2 _ (Kd.C_below C2.out HB.out) D2.out E2.out).mono ?_; rintro e WC0 ⟨vA, rfl, hr, hb⟩; refine ⟨_, rfl, ?_⟩; obtain ⟨N1, hN⟩ : ∃ n, n = WC0.heap.size := ⟨_, rfl⟩; have m_ : AZ (Kd.bool.R 4 WC0 w.heap.size (fun k => N0 ≤ k ∧ k < N1) vA r2) := ⟨Kd.R_lower (Kd.R_mono (Kd.R_bound hr) (fun k hk => ⟨Nat.le_trans SZ.out hk.2.1, by rw [hN]; exact hk.2.2.1⟩)) (pZ HB.out)⟩; have sh_ := Kd.R_slice m_.out; have z_ := AZ.mk (Nat.le_of_eq hN); have LE0 := AZ.mk (show N0 ≤ N1 from Nat.le_trans SZ.out (by rw [hN]; exact hb.size)); replace HB := AZ.mk (pT HB.out hb); replace BB := AZ.mk (bb_ BB.out hb); replace BZ := AZ.mk (bb_ BZ.out hb); replace BX := AZ.mk (bb_ BX.out hb); clear SZ hr hb hN; have SZ := z_; have HA := m_; clear z_ m_; clear hx0 hf0 hy0 hx1 hf1 hy1 hx2 hf2 hy2 hx3 hf3 hy3 hx4 hf4 hy4 hx5 hf5 hy5; obtain ⟨a0_, b0_, rfl⟩ := sh_; have hx0 : WC0.cell? ⟨gX, 0, none⟩ = some (.int .i64 m) := (bc BX.out 0).trans rfl; have hf0 := bf BX.out 0; have hx1 : WC0.cell? ⟨gX, 1, none⟩ = some (.int .i64 st) := (bc BX.out 1).trans rfl; have hf1 := bf BX.out 1; have hx2 : WC0.cell? ⟨gX, 2, none⟩ = some (.slice none 0 0) := (bc BX.out 2).trans rfl; have hf2 := bf BX.out 2; have hx3 : WC0.cell? ⟨gX, 3, none⟩ = some (.slice none 0 0) := (bc BX.out 3).trans rfl; have hf3 := bf BX.out 3; have hx4 : WC0.cell? ⟨gX, 4, none⟩ = some (.slice none 0 0) := (bc BX.out 4).trans rfl; have hf4 := bf BX.out 4; have hx5 : WC0.cell? ⟨gX, 5, none⟩ = some (.slice none 0 0) := (bc BX.out 5).trans rfl; have hf5 := bf BX.out 5; have hy0 : WC0.cell? ⟨gB, 0, none⟩ = some (.int .i64 m) := (bc BB.out 0).trans rfl; have hy1 : WC0.cell? ⟨gB, 1, none⟩ = some (.int .i64 st) := (bc BB.out 1).trans rfl; have hy2 : WC0.cell? ⟨gB, 2, none⟩ = some (.slice A2 l2.length c2) := (bc BB.out 2).trans rfl; have hy3 : WC0.cell? ⟨gB, 3, none⟩ = some (.slice A3 l3.length c3) := (bc BB.out 3).trans rfl; have hy4 : WC0.cell? ⟨gB, 4, none⟩ = some (.slice A4 l4.length c4) := (bc BB.out 4).trans rfl; have hy5 : WC0.cell? ⟨gB, 5, none⟩ = some (.slice A5 l5.length c5) := (bc BB.out 5).trans rfl) | ((with_reducible refine gate_callee (f := 73) rfl ?_); refine Zi (some 16) rfl rfl Try.func73 (by kernel_rfl) rfl #[.slice A3 l3.length c3] rfl (by (try simp only [mA, mB, mC]); first | done | rfl) ?_; refine (laws_toPushSS.calls k _ _ l3 r3 _ (Kd.C_below C3.out HB.out) D3.out E3.out).mono ?_; rintro e WC1 ⟨vC, rfl, hr, hb⟩; refine ⟨_, rfl, ?_⟩; obtain ⟨N2, hN⟩ : ∃ n, n = WC1.heap.size := ⟨_, rfl⟩; have m_ : AZ (Kd.S (Kd.slice 47 k47) 48 WC1 w.heap.size (fun k => N1 ≤ k ∧ k < N2) vC r3) := ⟨Kd.S_lower (Kd.S_mono (Kd.S_bound hr) (fun k hk => ⟨Nat.le_trans SZ.out hk.2.1, by rw [hN]; exact hk.2.2.1⟩)) (pZ HB.out)⟩; have sh_ := Kd.S_slice m_.out; have z_ := AZ.mk (Nat.le_of_eq hN); have LE1 := AZ.mk (show N1 ≤ N2 from Nat.le_trans SZ.out (by rw [hN]; exact hb.size)); replace HB := AZ.mk (pT HB.out hb); replace BB := AZ.mk (bb_ BB.out hb); replace BZ := AZ.mk (bb_ BZ.out hb); replace BX := AZ.mk (bb_ BX.out hb); replace HA := AZ.mk (Kd.R_grown HA.out (Yj hb none) (fun _ _ e => by cases e)); clear SZ hr hb hN; have SZ := z_; have HC := m_; clear z_ m_; clear hx0 hf0 hy0 hx1 hf1 hy1 hx2 hf2 hy2 hx3 hf3 hy3 hx4 hf4 hy4 hx5 hf5 hy5; obtain ⟨a1_, b1_, rfl⟩ := sh_; have hx0 : WC1.cell? ⟨gX, 0, none⟩ = some (.int .i64 m) := (bc BX.out 0).trans rfl; have hf0 := bf BX.out 0; have hx1 : WC1.cell? ⟨gX, 1, none⟩ = some (.int .i64 st) := (bc BX.out 1).trans rfl; have hf1 := bf BX.out 1; have hx2 : WC1.cell? ⟨gX, 2, none⟩ = some (.slice a0_ r2.length b0_) := (bc BX.out 2).trans rfl; have hf2 := bf BX.out 2; have hx3 : WC1.cell? ⟨gX, 3, none⟩ = some (.slice none 0 0) := (bc BX.out 3).trans rfl; have hf3 := bf BX.out 3; have hx4 : WC1.cell? ⟨gX, 4, none⟩ = some (.slice none 0 0) := (bc BX.out 4).trans rfl; have hf4 := bf BX.out 4; have hx5 : WC1.cell? ⟨gX, 5, none⟩ = some (.slice none 0 0) := (bc BX.out 5).trans rfl; have hf5 := bf BX.out 5; have hy0 : WC1.cell? ⟨gB, 0, none⟩ = some (.int .i64 m) := (bc BB.out 0).trans rfl; have hy1 : WC1.cell? ⟨gB, 1, none⟩ = some (.int .i64 st) := (bc BB.out 1).trans rfl; have hy2 : WC1.cell? ⟨gB, 2, none⟩ = some (.slice A2 l2.length c2) := (bc BB.out 2).trans rfl; have hy3 : WC1.cell? ⟨gB, 3, none⟩ = some (.slice A3 l3.length c3) := (bc BB.out 3).trans rfl; have hy4 : WC1.cell? ⟨gB, 4, none⟩ = some (.slice A4 l4.length c4) := (bc BB.out 4).trans rfl; have hy5 : WC1.cell? ⟨gB, 5, none⟩ = some (.slice A5 l5.length c5) := (bc BB.out 5).trans rfl) | ((with_reducible refine gate_callee (f := 74) rfl ?_); refine Zi (some 20) rfl rfl Try.func74 (by kernel_rfl) rfl #[.slice A4 l4.length c4] rfl (by (try simp only [mA, mB, mC]); first | done | rfl) ?_; refine (toInt64SSS_calls k _ _ l4 r4 _ (Kd.C_below C4.out HB.out) D4.out E4.out).mono ?_; rintro e WC2 ⟨vR, rfl, hr, hb⟩; refine ⟨_, rfl, ?_⟩; obtain ⟨N3, hN⟩ : ∃ n, n = WC2.heap.size := ⟨_, rfl⟩; have m_ : AZ (Kd.S (sliceS 49 (Kd.slice 2 (Kd.int .i64))) 25 WC2 w.heap.size (fun k => N2 ≤ k ∧ k < N3) vR r4) := ⟨Kd.S_lower (Kd.S_mono (Kd.S_bound hr) (fun k hk => ⟨Nat.le_trans SZ.out hk.2.1, by rw [hN]; exact hk.2.2.1⟩)) (pZ HB.out)⟩; have sh_ := Kd.S_slice m_.out; have z_ := AZ.mk (Nat.le_of_eq hN); have LE2 := AZ.mk (show N2 ≤ N3 from Nat.le_trans SZ.out (by rw [hN]; exact hb.size)); replace HB := AZ.mk (pT HB.out hb); replace BB := AZ.mk (bb_ BB.out hb); replace BZ := AZ.mk (bb_ BZ.out hb); replace BX := AZ.mk (bb_ BX.out hb); replace HA := AZ.mk (Kd.R_grown HA.out (Yj hb none) (fun _ _ e => by cases e)); replace HC := AZ.mk (Kd.S_grown HC.out (Yj hb none) (fun _ _ e => by cases e)); clear SZ hr hb hN; have SZ := z_; have HR := m_; clear z_ m_; clear hx0 hf0 hy0 hx1 hf1 hy1 hx2 hf2 hy2 hx3 hf3 hy3 hx4 hf4 hy4 hx5 hf5 hy5; obtain ⟨a2_, b2_, rfl⟩ := sh_; have hx0 : WC2.cell? ⟨gX, 0, none⟩ = some (.int .i64 m) := (bc BX.out 0).trans rfl; have hf0 := bf BX.out 0; have hx1 : WC2.cell? ⟨gX, 1, none⟩ = some (.int .i64 st) := (bc BX.out 1).trans rfl; have hf1 := bf BX.out 1; have hx2 : WC2.cell? ⟨gX, 2, none⟩ = some (.slice a0_ r2.length b0_) := (bc BX.out 2).trans rfl; have hf2 := bf BX.out 2; have hx3 : WC2.cell? ⟨gX, 3, none⟩ = some (.slice a1_ r3.length b1_) := (bc BX.out 3).trans rfl; have hf3 := bf BX.out 3; have hx4 : WC2.cell? ⟨gX, 4, none⟩ = some (.slice none 0 0) := (bc BX.out 4).trans rfl; have hf4 := bf BX.out 4; have hx5 : WC2.cell? ⟨gX, 5, none⟩ = some (.slice none 0 0) := (bc BX.out 5).trans rfl; have hf5 := bf BX.out 5; have hy0 : WC2.cell? ⟨gB, 0, none⟩ = some (.int .i64 m) := (bc BB.out 0).trans rfl; have hy1 : WC2.cell? ⟨gB, 1, none⟩ = some (.int .i64 st) := (bc BB.out 1).trans rfl; have hy2 : WC2.cell? ⟨gB, 2, none⟩ = some (.slice A2 l2.length c2) := (bc BB.out 2).trans rfl; have hy3 : WC2.cell? ⟨gB, 3, none⟩ = some (.slice A3 l3.length c3) := (bc BB.out 3).trans rfl; have hy4 : WC2.cell? ⟨gB, 4, none⟩ = some (.slice A4 l4.length c4) := (bc BB.out 4).trans rfl; have hy5 : WC2.cell? ⟨gB, 5, none⟩ = some (.slice A5 l5.length c5) := (bc BB.out 5).trans rfl) | ((with_reducible refine gate_callee (f := 75) rfl ?_); refine Zi (some 24) rfl rfl Try.func75 (by kernel_rfl) rfl #[.slice A5 l5.length c5] rfl (by (try simp only [mA, mB, mC]); first | done | rfl) ?_; refine (laws_toInt64SS.calls k _ _ l5 r5 _ (Kd.C_below C5.out HB.out) D5.out E5.out).mono ?_; rintro e WC3 ⟨vI, rfl, hr, hb⟩; refine ⟨_, rfl, ?_⟩; obtain ⟨N4, hN⟩ : ∃ n, n = WC3.heap.size := ⟨_, rfl⟩; have m_ : AZ (Kd.S (Kd.slice 2 (Kd.int .i64)) 49 WC3 w.heap.size (fun k => N3 ≤ k ∧ k < N4) vI r5) := ⟨Kd.S_lower (Kd.S_mono (Kd.S_bound hr) (fun k hk => ⟨Nat.le_trans SZ.out hk.2.1, by rw [hN]; exact hk.2.2.1⟩)) (pZ HB.out)⟩; have sh_ := Kd.S_slice m_.out; have z_ := AZ.mk (Nat.le_of_eq hN); have LE3 := AZ.mk (show N3 ≤ N4 from Nat.le_trans SZ.out (by rw [hN]; exact hb.size)); replace HB := AZ.mk (pT HB.out hb); replace BB := AZ.mk (bb_ BB.out hb); replace BZ := AZ.mk (bb_ BZ.out hb); replace BX := AZ.mk (bb_ BX.out hb); replace HA := AZ.mk (Kd.R_grown HA.out (Yj hb none) (fun _ _ e => by cases e)); replace HC := AZ.mk (Kd.S_grown HC.out (Yj hb none) (fun _ _ e => by cases e)); replace HR := AZ.mk (Kd.S_grown HR.out (Yj hb none) (fun _ _ e => by cases e)); clear SZ hr hb hN; have SZ := z_; have HI := m_; clear z_ m_; clear hx0 hf0 hy0 hx1 hf1 hy1 hx2 hf2 hy2 hx3 hf3 hy3 hx4 hf4 hy4 hx5 hf5 hy5; obtain ⟨a3_, b3_, rfl⟩ := sh_; have hx0 : WC3.cell? ⟨gX, 0, none⟩ = some (.int .i64 m) := (bc BX.out 0).trans rfl; have hf0 := bf BX.out 0; have hx1 : WC3.cell? ⟨gX, 1, none⟩ = some (.int .i64 st) := (bc BX.out 1).trans rfl; have hf1 := bf BX.out 1; have hx2 : WC3.cell? ⟨gX, 2, none⟩ = some (.slice a0_ r2.length b0_) := (bc BX.out 2).trans rfl; have hf2 := bf BX.out 2; have hx3 : WC3.cell? ⟨gX, 3, none⟩ = some (.slice a1_ r3.length b1_) := (bc BX.out 3).trans rfl; have hf3 := bf BX.out 3; have hx4 : WC3.cell? ⟨gX, 4, none⟩ = some (.slice a2_ r4.length b2_) := (bc BX.out 4).trans rfl; have hf4 := bf BX.out 4; have hx5 : WC3.cell? ⟨gX, 5, none⟩ = some (.slice none 0 0) := (bc BX.out 5).trans rfl; have hf5 := bf BX.out 5; have hy0 : WC3.cell? ⟨gB, 0, none⟩ = some (.int .i64 m) := (bc BB.out 0).trans rfl; have hy1 : WC3.cell? ⟨gB, 1, none⟩ = some (.int .i64 st) := (bc BB.out 1).trans rfl; have hy2 : WC3.cell? ⟨gB, 2, none⟩ = some (.slice A2 l2.length c2) := (bc BB.out 2).trans rfl; have hy3 : WC3.cell? ⟨gB, 3, none⟩ = some (.slice A3 l3.length c3) := (bc BB.out 3).trans rfl; have hy4 : WC3.cell? ⟨gB, 4, none⟩ = some (.slice A4 l4.length c4) := (bc BB.out 4).trans rfl; have hy5 : WC3.cell? ⟨gB, 5, none⟩ = some (.slice A5 l5.length c5) := (bc BB.out 5).trans rfl) | ((with_reducible refine gate_ (.load 27 (.tmp 3)) rfl ?_); refine load27 rfl 3 rfl (g := gX) rfl BX.out rfl ?_) | ((with_reducible refine gate_ (.store 27 (.tmp 2) (.tmp 26)) rfl ?_); refine store27 rfl 2 26 rfl (g := gZ) (old := cZ) (cs := cellsI m st (.slice a0_ r2.length b0_) (.slice a1_ r3.length b1_) (.slice a2_ r4.length b2_) (.slice a3_ r5.length b3_)) rfl rfl BZ.out rfl rfl (cells4_one _ _ _ _ _ _ _ _ _ _ _ _ _ _) ?_; intro w9 hbx hB hfar))
  refine bodyPost_ret (results_cell_row rfl _ _ gZ 27 (cellsI m st (.slice a0_ r2.length b0_) (.slice a1_ r3.length b1_) (.slice a2_ r4.length b2_) (.slice a3_ r5.length b3_)) (0, 0) _ rfl hbx Try.underlying27 rfl (by kernel_rfl)) rfl ?_
  exact ⟨_, _, _, _, rfl, own_far' (own_four LE1.out LE2.out HA.out HC.out HR.out HI.out) BZ.out hfar, hB _ _ HB.out GZ.out⟩
end Go.Proofs.Ytepkfigcnnfoaaa.P
namespace Go.Proofs.Ytepkfigcnnfoaaa.P
open Go.RowKit Go.Proofs.YtepkfigcnnfoaaaW.PrintWords Go.Proofs.YtepkfigcnnfoaaaW.PrintLast Go.Proofs.YtepkfigcnnfoaaaW.PrintMore
attribute [local go_sem] Zn Zp Zw Zx Zj Zk Zq Zr
def impl_within.f (a0 : Int) (a1 : Int) (a2 : Int) : Option (Bool) := if a0 ≥ a1 then (some (decide (a0 ≤ a2))) else (some false)
theorem impl_within.calls (a0 : Int) (a1 : Int) (a2 : Int) (r : Bool) (w : World) (h : impl_within.f a0 a1 a2 = some r) :
  Calls Try.prog 54 #[.int .i64 a0, .int .i64 a1, .int .i64 a2] w fun e w' => e = .returned (.bool r) ∧ Drawn0 w w' := by
 have H : (if a0 ≥ a1 then (some (decide (a0 ≤ a2))) else (some false)) = some r := h
 clear h
 by_cases c4 : a0 ≥ a1
 ·rw [if_pos c4] at H
  have c4b0 : decide (a1 ≤ a0) = true := dT c4
  clear c4
  obtain rfl := oJ H
  go_enter Try.func54, Try.ntmps54
  go_wp2
  go_ret
  exact ⟨by first | rfl | (simp; done) | (simp [*]; done), by repeat (first | exact Drawn0.refl _ | apply Drawn0.step)⟩
 rw [if_neg c4] at H
 have c4b0 : decide (a1 ≤ a0) = false := dF c4
 clear c4
 obtain rfl := oJ H
 go_enter Try.func54, Try.ntmps54
 go_wp2
 go_ret
 exact ⟨by first | rfl | (simp; done) | (simp [*]; done), by repeat (first | exact Drawn0.refl _ | apply Drawn0.step)⟩
attribute [local go_sem] Zn Zp Zw Zx Zj Zk Zq Zr
def impl_size_bool.f (l0 : List Bool) : Option (Int) := some (l0.length : Int)
theorem impl_size_bool.calls (A0 : Option Addr) (c0 : Nat) (l0 : List Bool) (r : Int) (w : World) (hr0 : Kd.C Kd.bool w A0 l0.length l0) (hc0 : l0.length ≤ c0) (h : impl_size_bool.f l0 = some r) :
  Calls Try.prog 97 #[.slice A0 l0.length c0] w fun e w' => e = .returned (.int .i64 r) ∧ Drawn0 w w' := by
 have HR0 := AZ.mk hr0
 have HC0 := AZ.mk hc0
 clear hr0 hc0
 have H : (some (l0.length : Int)) = some r := h
 clear h
 obtain rfl := oJ H
 go_enter Try.func97, Try.ntmps97
 go_wp2
 go_ret
 exact ⟨by first | rfl | (simp; done) | (simp [*]; done), by repeat (first | exact Drawn0.refl _ | apply Drawn0.step)⟩
attribute [local go_sem] Zn Zp Zw Zx Zj Zk Zq Zr
def impl_Checker_isState.f (a0_0 : Int) (a0_1 : Int) (l0_2 : List Bool) (l0_3 : List (List (S47))) (l0_4 : List (List (List Int))) (l0_5 : List (List Int)) (a1 : Int) : Option (Bool) := (impl_size_bool.f l0_2).bind fun t469 => ((impl_within.f a1 0 (wrap64 (t469 - 1))).bind fun t470 => (some t470))
theorem impl_Checker_isState.calls (a0_0 : Int) (a0_1 : Int) (A0_2 : Option Addr) (c0_2 : Nat) (l0_2 : List Bool) (A0_3 : Option Addr) (c0_3 : Nat) (l0_3 : List (List (S47))) (A0_4 : Option Addr) (c0_4 : Nat) (l0_4 : List (List (List Int))) (A0_5 : Option Addr) (c0_5 : Nat) (l0_5 : List (List Int)) (a1 : Int) (r : Bool) (w : World) (hr0_2 : Kd.C Kd.bool w A0_2 l0_2.length l0_2) (hc0_2 : l0_2.length ≤ c0_2) (hr0_3 : Kd.C (Kd.slice 47 k47) w A0_3 l0_3.length l0_3) (hc0_3 : l0_3.length ≤ c0_3) (hr0_4 : Kd.C (Kd.slice 49 (Kd.slice 2 (Kd.int .i64))) w A0_4 l0_4.length l0_4) (hc0_4 : l0_4.length ≤ c0_4) (hr0_5 : Kd.C (Kd.slice 2 (Kd.int .i64)) w A0_5 l0_5.length l0_5) (hc0_5 : l0_5.length ≤ c0_5) (h : impl_Checker_isState.f a0_0 a0_1 l0_2 l0_3 l0_4 l0_5 a1 = some r) :
  Calls Try.prog 98 #[.agg #[.int .i64 a0_0, .int .i64 a0_1, .slice A0_2 l0_2.length c0_2, .slice A0_3 l0_3.length c0_3, .slice A0_4 l0_4.length c0_4, .slice A0_5 l0_5.length c0_5], .int .i64 a1] w fun e w' => e = .returned (.bool r) ∧ Below w.heap.size w w' := by
 have hu27 := Try.underlying27
 have HR0_2 := AZ.mk hr0_2
 have HC0_2 := AZ.mk hc0_2
 clear hr0_2 hc0_2
 have HR0_3 := AZ.mk hr0_3
 have HC0_3 := AZ.mk hc0_3
 clear hr0_3 hc0_3
 have HR0_4 := AZ.mk hr0_4
 have HC0_4 := AZ.mk hc0_4
 clear hr0_4 hc0_4
 have HR0_5 := AZ.mk hr0_5
 have HC0_5 := AZ.mk hc0_5
 clear hr0_5 hc0_5
 have HB := AZ.mk (Below.refl w.heap.size w)
 have H : ((impl_size_bool.f l0_2).bind fun t469 => ((impl_within.f a1 0 (wrap64 (t469 - 1))).bind fun t470 => (some t470))) = some r := h
 clear h
 replace H := Option.bind_eq_some_iff.mp H
 obtain ⟨t469, A30, H⟩ := H
 replace H : ((impl_within.f a1 0 (wrap64 (t469 - 1))).bind fun t470 => (some t470)) = some r := H
 have A3 := AZ.mk A30
 clear A30
 replace H := Option.bind_eq_some_iff.mp H
 obtain ⟨t470, A40, H⟩ := H
 replace H : (some t470) = some r := H
 have A4 := AZ.mk A40
 clear A40
 obtain rfl := oJ H
 go_enter Try.func98, Try.ntmps98
 go_wp2_with (first | ((with_reducible refine Zc (N := 2) rfl ?_); refine Zh ?hg (N := 2) ?hd (cs := #[.int .i64 a0_0, .int .i64 a0_1, .slice A0_2 l0_2.length c0_2, .slice A0_3 l0_3.length c0_3, .slice A0_4 l0_4.length c0_4, .slice A0_5 l0_5.length c0_5]) (t := 27) ?hr ?_; (case hd => rfl); (case hg => rfl); (case hr => first | (go_simp; done) | (go_simp; rfl)); intro gb468 hg w5 hbox hb; have n0_ := AZ.mk (pT (by repeat (first | (with_reducible first | exact HB.out | apply pA | apply pN | apply pD) | exact HB.out)) hb); have n1_ := AZ.mk (hbox); have n2_ := AZ.mk ((by rw [hg]; exact (pZ (by repeat (first | (with_reducible first | exact HB.out | apply pA | apply pN | apply pD) | exact HB.out))) : w.heap.size ≤ gb468)); have n3_ := AZ.mk ((by rw [hg]; exact (pZ (by repeat (first | (with_reducible first | exact HB.out | apply pA | apply pN | apply pD) | exact HB.out))) : w.heap.size ≤ gb468)); clear HB; have HB := n0_; have BK468 := n1_; have GW468 := n2_; have GE468 := n3_; clear n0_ n1_ n2_ n3_; clear hb hbox hg; obtain ⟨hcz6_0, hcz6_1, hcz6_2, hcz6_3, hcz6_4, hcz6_5⟩ := c6 BK468.out; obtain ⟨hfz6_0, hfz6_1, hfz6_2, hfz6_3, hfz6_4, hfz6_5⟩ := f6 BK468.out) | ((with_reducible refine gate_callee (f := 97) rfl ?_); refine Zi (some 8) rfl rfl Try.func97 (by kernel_rfl) rfl #[.slice A0_2 l0_2.length c0_2] rfl (by (try simp only [mA, mB, mC]); first | done | rfl | (simp only [lD, lT]; rfl)) ?_; (with_reducible refine (impl_size_bool.calls _ _ l0_2 t469 _ ?side1 ?side2 A3.out).mono ?_); (case side1 => repeat (first | exact (Kd.C_below HR0_2.out HB.out) | (with_reducible refine Kd.C_alloc ?_ _) | (with_reducible refine Kd.C_drewN ?_ _) | (with_reducible refine Kd.C_drew ?_))); (case side2 => exact HC0_2.out); rintro e w' ⟨rfl, ⟨nd, rfl⟩⟩; refine ⟨_, rfl, ?_⟩) | ((with_reducible refine gate_callee (f := 54) rfl ?_); refine Zi (some 10) rfl rfl Try.func54 (by kernel_rfl) rfl #[.int .i64 a1, .int .i64 0, .int .i64 (wrap64 (t469 - 1))] rfl (by (try simp only [mA, mB, mC]); first | done | rfl | (simp only [lD, lT]; rfl)) ?_; (with_reducible refine (impl_within.calls a1 0 (wrap64 (t469 - 1)) t470 _ A4.out).mono ?_); rintro e w' ⟨rfl, ⟨nd, rfl⟩⟩; refine ⟨_, rfl, ?_⟩))
 go_ret
 exact ⟨by first | rfl | (simp [Ze, Zf] <;> rfl) | (simp [*, Ze, Zf] <;> rfl), by repeat (first | (with_reducible first | exact HB.out | apply pA | apply pN | apply pD | refine pS ?_ GE468.out) | exact HB.out)⟩
attribute [local go_sem] Zn Zp Zw Zx Zj Zk Zq Zr
def impl_size_Limpl_Push.f (l0 : List (List (S47))) : Option (Int) := some (l0.length : Int)
theorem impl_size_Limpl_Push.calls (A0 : Option Addr) (c0 : Nat) (l0 : List (List (S47))) (r : Int) (w : World) (hr0 : Kd.C (Kd.slice 47 k47) w A0 l0.length l0) (hc0 : l0.length ≤ c0) (h : impl_size_Limpl_Push.f l0 = some r) :
  Calls Try.prog 99 #[.slice A0 l0.length c0] w fun e w' => e = .returned (.int .i64 r) ∧ Drawn0 w w' := by
 have HR0 := AZ.mk hr0
 have HC0 := AZ.mk hc0
 clear hr0 hc0
 have H : (some (l0.length : Int)) = some r := h
 clear h
 obtain rfl := oJ H
 go_enter Try.func99, Try.ntmps99
 go_wp2
 go_ret
 exact ⟨by first | rfl | (simp; done) | (simp [*]; done), by repeat (first | exact Drawn0.refl _ | apply Drawn0.step)⟩
attribute [local go_sem] Zn Zp Zw Zx Zj Zk Zq Zr
def impl_size_LLint64.f (l0 : List (List (List Int))) : Option (Int) := some (l0.length : Int)
theorem impl_size_LLint64.calls (A0 : Option Addr) (c0 : Nat) (l0 : List (List (List Int))) (r : Int) (w : World) (hr0 : Kd.C (Kd.slice 49 (Kd.slice 2 (Kd.int .i64))) w A0 l0.length l0) (hc0 : l0.length ≤ c0) (h : impl_size_LLint64.f l0 = some r) :
  Calls Try.prog 100 #[.slice A0 l0.length c0] w fun e w' => e = .returned (.int .i64 r) ∧ Drawn0 w w' := by
 have HR0 := AZ.mk hr0
 have HC0 := AZ.mk hc0
 clear hr0 hc0
 have H : (some (l0.length : Int)) = some r := h
 clear h
 obtain rfl := oJ H
 go_enter Try.func100, Try.ntmps100
 go_wp2
 go_ret
 exact ⟨by first | rfl | (simp; done) | (simp [*]; done), by repeat (first | exact Drawn0.refl _ | apply Drawn0.step)⟩
attribute [local go_sem] Zn Zp Zw Zx Zj Zk Zq Zr
def impl_size_Lint64.f (l0 : List (List Int)) : Option (Int) := some (l0.length : Int)
theorem impl_size_Lint64.calls (A0 : Option Addr) (c0 : Nat) (l0 : List (List Int)) (r : Int) (w : World) (hr0 : Kd.C (Kd.slice 2 (Kd.int .i64)) w A0 l0.length l0) (hc0 : l0.length ≤ c0) (h : impl_size_Lint64.f l0 = some r) :
  Calls Try.prog 101 #[.slice A0 l0.length c0] w fun e w' => e = .returned (.int .i64 r) ∧ Drawn0 w w' := by
 have HR0 := AZ.mk hr0
 have HC0 := AZ.mk hc0
 clear hr0 hc0
 have H : (some (l0.length : Int)) = some r := h
 clear h
 obtain rfl := oJ H
 go_enter Try.func101, Try.ntmps101
 go_wp2
 go_ret
 exact ⟨by first | rfl | (simp; done) | (simp [*]; done), by repeat (first | exact Drawn0.refl _ | apply Drawn0.step)⟩
attribute [local go_sem] Zn Zp Zw Zx Zj Zk Zq Zr
def impl_Checker_isMark.f (a0_0 : Int) (a0_1 : Int) (l0_2 : List Bool) (l0_3 : List (List (S47))) (l0_4 : List (List (List Int))) (l0_5 : List (List Int)) (a1 : Int) : Option (Bool) := (impl_within.f a1 0 (wrap64 (a0_0 - 1))).bind fun t472 => (some t472)
theorem impl_Checker_isMark.calls (a0_0 : Int) (a0_1 : Int) (A0_2 : Option Addr) (c0_2 : Nat) (l0_2 : List Bool) (A0_3 : Option Addr) (c0_3 : Nat) (l0_3 : List (List (S47))) (A0_4 : Option Addr) (c0_4 : Nat) (l0_4 : List (List (List Int))) (A0_5 : Option Addr) (c0_5 : Nat) (l0_5 : List (List Int)) (a1 : Int) (r : Bool) (w : World) (hr0_2 : Kd.C Kd.bool w A0_2 l0_2.length l0_2) (hc0_2 : l0_2.length ≤ c0_2) (hr0_3 : Kd.C (Kd.slice 47 k47) w A0_3 l0_3.length l0_3) (hc0_3 : l0_3.length ≤ c0_3) (hr0_4 : Kd.C (Kd.slice 49 (Kd.slice 2 (Kd.int .i64))) w A0_4 l0_4.length l0_4) (hc0_4 : l0_4.length ≤ c0_4) (hr0_5 : Kd.C (Kd.slice 2 (Kd.int .i64)) w A0_5 l0_5.length l0_5) (hc0_5 : l0_5.length ≤ c0_5) (h : impl_Checker_isMark.f a0_0 a0_1 l0_2 l0_3 l0_4 l0_5 a1 = some r) :
  Calls Try.prog 106 #[.agg #[.int .i64 a0_0, .int .i64 a0_1, .slice A0_2 l0_2.length c0_2, .slice A0_3 l0_3.length c0_3, .slice A0_4 l0_4.length c0_4, .slice A0_5 l0_5.length c0_5], .int .i64 a1] w fun e w' => e = .returned (.bool r) ∧ Below w.heap.size w w' := by
 have hu27 := Try.underlying27
 have HR0_2 := AZ.mk hr0_2
 have HC0_2 := AZ.mk hc0_2
 clear hr0_2 hc0_2
 have HR0_3 := AZ.mk hr0_3
 have HC0_3 := AZ.mk hc0_3
 clear hr0_3 hc0_3
 have HR0_4 := AZ.mk hr0_4
 have HC0_4 := AZ.mk hc0_4
 clear hr0_4 hc0_4
 have HR0_5 := AZ.mk hr0_5
 have HC0_5 := AZ.mk hc0_5
 clear hr0_5 hc0_5
 have HB := AZ.mk (Below.refl w.heap.size w)
 have H : ((impl_within.f a1 0 (wrap64 (a0_0 - 1))).bind fun t472 => (some t472)) = some r := h
 clear h
 replace H := Option.bind_eq_some_iff.mp H
 obtain ⟨t472, A30, H⟩ := H
 replace H : (some t472) = some r := H
 have A3 := AZ.mk A30
 clear A30
 obtain rfl := oJ H
 go_enter Try.func106, Try.ntmps106
 go_wp2_with (first | ((with_reducible refine Zc (N := 2) rfl ?_); refine Zh ?hg (N := 2) ?hd (cs := #[.int .i64 a0_0, .int .i64 a0_1, .slice A0_2 l0_2.length c0_2, .slice A0_3 l0_3.length c0_3, .slice A0_4 l0_4.length c0_4, .slice A0_5 l0_5.length c0_5]) (t := 27) ?hr ?_; (case hd => rfl); (case hg => rfl); (case hr => first | (go_simp; done) | (go_simp; rfl)); intro gb471 hg w4 hbox hb; have n0_ := AZ.mk (pT (by repeat (first | (with_reducible first | exact HB.out | apply pA | apply pN | apply pD) | exact HB.out)) hb); have n1_ := AZ.mk (hbox); have n2_ := AZ.mk ((by rw [hg]; exact (pZ (by repeat (first | (with_reducible first | exact HB.out | apply pA | apply pN | apply pD) | exact HB.out))) : w.heap.size ≤ gb471)); have n3_ := AZ.mk ((by rw [hg]; exact (pZ (by repeat (first | (with_reducible first | exact HB.out | apply pA | apply pN | apply pD) | exact HB.out))) : w.heap.size ≤ gb471)); clear HB; have HB := n0_; have BK471 := n1_; have GW471 := n2_; have GE471 := n3_; clear n0_ n1_ n2_ n3_; clear hb hbox hg; obtain ⟨hcz5_0, hcz5_1, hcz5_2, hcz5_3, hcz5_4, hcz5_5⟩ := c6 BK471.out; obtain ⟨hfz5_0, hfz5_1, hfz5_2, hfz5_3, hfz5_4, hfz5_5⟩ := f6 BK471.out) | ((with_reducible refine gate_callee (f := 54) rfl ?_); refine Zi (some 9) rfl rfl Try.func54 (by kernel_rfl) rfl #[.int .i64 a1, .int .i64 0, .int .i64 (wrap64 (a0_0 - 1))] rfl (by (try simp only [mA, mB, mC]); first | done | rfl | (simp only [lD, lT]; rfl)) ?_; (with_reducible refine (impl_within.calls a1 0 (wrap64 (a0_0 - 1)) t472 _ A3.out).mono ?_); rintro e w' ⟨rfl, ⟨nd, rfl⟩⟩; refine ⟨_, rfl, ?_⟩))
 go_ret
 exact ⟨by first | rfl | (simp [Ze, Zf] <;> rfl) | (simp [*, Ze, Zf] <;> rfl), by repeat (first | (with_reducible first | exact HB.out | apply pA | apply pN | apply pD | refine pS ?_ GE471.out) | exact HB.out)⟩
attribute [local go_sem] Zn Zp Zw Zx Zj Zk Zq Zr
def impl_size_int64.f (l0 : List Int) : Option (Int) := some (l0.length : Int)
theorem impl_size_int64.calls (A0 : Option Addr) (c0 : Nat) (l0 : List Int) (r : Int) (w : World) (hr0 : Kd.C (Kd.int .i64) w A0 l0.length l0) (hc0 : l0.length ≤ c0) (h : impl_size_int64.f l0 = some r) :
  Calls Try.prog 103 #[.slice A0 l0.length c0] w fun e w' => e = .returned (.int .i64 r) ∧ Drawn0 w w' := by
 have HR0 := AZ.mk hr0
 have HC0 := AZ.mk hc0
 clear hr0 hc0
 have H : (some (l0.length : Int)) = some r := h
 clear h
 obtain rfl := oJ H
 go_enter Try.func103, Try.ntmps103
 go_wp2
 go_ret
 exact ⟨by first | rfl | (simp; done) | (simp [*]; done), by repeat (first | exact Drawn0.refl _ | apply Drawn0.step)⟩
attribute [local go_sem] Zn Zp Zw Zx Zj Zk Zq Zr
def impl_ValidChecker_1_1_c.f (a0 : Int) (a1_0 : Int) (a1_1 : Int) (l1_2 : List Bool) (l1_3 : List (List (S47))) (l1_4 : List (List (List Int))) (l1_5 : List (List Int)) : Option (Bool) := (impl_Checker_isState.f a1_0 a1_1 l1_2 l1_3 l1_4 l1_5 a0).bind fun t486 => (some (!t486))
theorem impl_ValidChecker_1_1_c.calls (a0 : Int) (g1_ : Nat) (a1_0 : Int) (a1_1 : Int) (A1_2 : Option Addr) (c1_2 : Nat) (l1_2 : List Bool) (A1_3 : Option Addr) (c1_3 : Nat) (l1_3 : List (List (S47))) (A1_4 : Option Addr) (c1_4 : Nat) (l1_4 : List (List (List Int))) (A1_5 : Option Addr) (c1_5 : Nat) (l1_5 : List (List Int)) (r : Bool) (w : World) (hr1_2 : Kd.C Kd.bool w A1_2 l1_2.length l1_2) (hc1_2 : l1_2.length ≤ c1_2) (hr1_3 : Kd.C (Kd.slice 47 k47) w A1_3 l1_3.length l1_3) (hc1_3 : l1_3.length ≤ c1_3) (hr1_4 : Kd.C (Kd.slice 49 (Kd.slice 2 (Kd.int .i64))) w A1_4 l1_4.length l1_4) (hc1_4 : l1_4.length ≤ c1_4) (hr1_5 : Kd.C (Kd.slice 2 (Kd.int .i64)) w A1_5 l1_5.length l1_5) (hc1_5 : l1_5.length ≤ c1_5) (hbk1_0 : w.heap[g1_]? = some (.cells #[.int .i64 a1_0, .int .i64 a1_1, .slice A1_2 l1_2.length c1_2, .slice A1_3 l1_3.length c1_3, .slice A1_4 l1_4.length c1_4, .slice A1_5 l1_5.length c1_5] 27 (0, 0))) (h : impl_ValidChecker_1_1_c.f a0 a1_0 a1_1 l1_2 l1_3 l1_4 l1_5 = some r) :
  Calls Try.prog 105 #[.int .i64 a0, .pointer (some ⟨g1_, 0, none⟩)] w fun e w' => e = .returned (.bool r) ∧ Below w.heap.size w w' := by
 have hu27 := Try.underlying27
 have HR1_2 := AZ.mk hr1_2
 have HC1_2 := AZ.mk hc1_2
 clear hr1_2 hc1_2
 have HR1_3 := AZ.mk hr1_3
 have HC1_3 := AZ.mk hc1_3
 clear hr1_3 hc1_3
 have HR1_4 := AZ.mk hr1_4
 have HC1_4 := AZ.mk hc1_4
 clear hr1_4 hc1_4
 have HR1_5 := AZ.mk hr1_5
 have HC1_5 := AZ.mk hc1_5
 clear hr1_5 hc1_5
 have BK1 := AZ.mk hbk1_0
 clear hbk1_0
 have HB := AZ.mk (Below.refl w.heap.size w)
 have H : ((impl_Checker_isState.f a1_0 a1_1 l1_2 l1_3 l1_4 l1_5 a0).bind fun t486 => (some (!t486))) = some r := h
 clear h
 replace H := Option.bind_eq_some_iff.mp H
 obtain ⟨t486, A30, H⟩ := H
 replace H : (some (!t486)) = some r := H
 have A3 := AZ.mk A30
 clear A30
 obtain rfl := oJ H
 obtain ⟨hcz4_0, hcz4_1, hcz4_2, hcz4_3, hcz4_4, hcz4_5⟩ := c6 BK1.out
 obtain ⟨hfz4_0, hfz4_1, hfz4_2, hfz4_3, hfz4_4, hfz4_5⟩ := f6 BK1.out
 go_enter Try.func105, Try.ntmps105
 go_wp2_with (first | ((with_reducible refine gate_callee (f := 98) rfl ?_); refine Zi (some 6) rfl rfl Try.func98 (by kernel_rfl) rfl #[.agg #[.int .i64 a1_0, .int .i64 a1_1, .slice A1_2 l1_2.length c1_2, .slice A1_3 l1_3.length c1_3, .slice A1_4 l1_4.length c1_4, .slice A1_5 l1_5.length c1_5], .int .i64 a0] rfl (by (try simp only [mA, mB, mC]); first | done | rfl | (simp only [lD, lT]; rfl)) ?_; (with_reducible refine (impl_Checker_isState.calls a1_0 a1_1 _ _ l1_2 _ _ l1_3 _ _ l1_4 _ _ l1_5 a0 t486 _ ?side1 ?side2 ?side3 ?side4 ?side5 ?side6 ?side7 ?side8 A3.out).mono ?_); (case side1 => repeat (first | exact HR1_2.out | (with_reducible refine Kd.C_alloc ?_ _) | (with_reducible refine Kd.C_drewN ?_ _) | (with_reducible refine Kd.C_drew ?_))); (case side2 => exact HC1_2.out); (case side3 => repeat (first | exact HR1_3.out | (with_reducible refine Kd.C_alloc ?_ _) | (with_reducible refine Kd.C_drewN ?_ _) | (with_reducible refine Kd.C_drew ?_))); (case side4 => exact HC1_3.out); (case side5 => repeat (first | exact HR1_4.out | (with_reducible refine Kd.C_alloc ?_ _) | (with_reducible refine Kd.C_drewN ?_ _) | (with_reducible refine Kd.C_drew ?_))); (case side6 => exact HC1_4.out); (case side7 => repeat (first | exact HR1_5.out | (with_reducible refine Kd.C_alloc ?_ _) | (with_reducible refine Kd.C_drewN ?_ _) | (with_reducible refine Kd.C_drew ?_))); (case side8 => exact HC1_5.out); rintro e w5 ⟨rfl, hb⟩; refine ⟨_, rfl, ?_⟩; have n0_ := AZ.mk (bb_ (g := g1_) (o := .cells #[.int .i64 a1_0, .int .i64 a1_1, .slice A1_2 l1_2.length c1_2, .slice A1_3 l1_3.length c1_3, .slice A1_4 l1_4.length c1_4, .slice A1_5 l1_5.length c1_5] 27 (0, 0)) (by (with_reducible repeat (first | refine bn_ ?_ _ | refine bd_ ?_ | refine ba_ ?_ _)); exact BK1.out) hb); have n1_ := AZ.mk (pT (by repeat (first | (with_reducible first | exact HB.out | apply pA | apply pN | apply pD | refine pS ?_ GE1.out) | exact HB.out)) hb); clear BK1; clear HB; have BK1 := n0_; have HB := n1_; clear n0_ n1_; (try clear hb); (try clear hb2); (try clear hk); (try clear hi)))
 go_ret
 exact ⟨by first | rfl | (simp [Ze, Zf] <;> rfl) | (simp [*, Ze, Zf] <;> rfl), by repeat (first | (with_reducible first | exact HB.out | apply pA | apply pN | apply pD | refine pS ?_ GE1.out) | exact HB.out)⟩
attribute [local go_sem] Zn Zp Zw Zx Zj Zk Zq Zr
def slices_IndexFunc_Lint64_int64_at_impl_ValidChecker_1_1.l0 : Nat → List Int → Int → Int → Int → Int → List Bool → List (List (S47)) → List (List (List Int)) → List (List Int) → Option (Int)
 | 0, _, _, _, _, _, _, _, _, _ => none
 | k + 1, x0, x7, x8, x56000, x56001, x56002, x56003, x56004, x56005 => if x8 < x7 then (if 0 ≤ x8 then (if x8 < (x0.length : Int) then ((impl_ValidChecker_1_1_c.f (rd x0 x8) x56000 x56001 x56002 x56003 x56004 x56005).bind fun t486 => (if t486 = true then (some x8) else (slices_IndexFunc_Lint64_int64_at_impl_ValidChecker_1_1.l0 k x0 x7 (wrap64 (x8 + 1)) x56000 x56001 x56002 x56003 x56004 x56005))) else (none)) else (none)) else (some (-1))
def slices_IndexFunc_Lint64_int64_at_impl_ValidChecker_1_1.f (k : Nat) (l0 : List Int) (a1_0 : Int) (a1_1 : Int) (l1_2 : List Bool) (l1_3 : List (List (S47))) (l1_4 : List (List (List Int))) (l1_5 : List (List Int)) : Option (Int) := slices_IndexFunc_Lint64_int64_at_impl_ValidChecker_1_1.l0 k l0 (l0.length : Int) 0 a1_0 a1_1 l1_2 l1_3 l1_4 l1_5
theorem slices_IndexFunc_Lint64_int64_at_impl_ValidChecker_1_1.calls (k : Nat) (A0 : Option Addr) (c0 : Nat) (l0 : List Int) (g1_0_ : Nat) (a1_0 : Int) (a1_1 : Int) (A1_2 : Option Addr) (c1_2 : Nat) (l1_2 : List Bool) (A1_3 : Option Addr) (c1_3 : Nat) (l1_3 : List (List (S47))) (A1_4 : Option Addr) (c1_4 : Nat) (l1_4 : List (List (List Int))) (A1_5 : Option Addr) (c1_5 : Nat) (l1_5 : List (List Int)) (r : Int) (w : World) (hr0 : Kd.C (Kd.int .i64) w A0 l0.length l0) (hc0 : l0.length ≤ c0) (hr1_2 : Kd.C Kd.bool w A1_2 l1_2.length l1_2) (hc1_2 : l1_2.length ≤ c1_2) (hr1_3 : Kd.C (Kd.slice 47 k47) w A1_3 l1_3.length l1_3) (hc1_3 : l1_3.length ≤ c1_3) (hr1_4 : Kd.C (Kd.slice 49 (Kd.slice 2 (Kd.int .i64))) w A1_4 l1_4.length l1_4) (hc1_4 : l1_4.length ≤ c1_4) (hr1_5 : Kd.C (Kd.slice 2 (Kd.int .i64)) w A1_5 l1_5.length l1_5) (hc1_5 : l1_5.length ≤ c1_5) (hbk1_0 : w.heap[g1_0_]? = some (.cells #[.int .i64 a1_0, .int .i64 a1_1, .slice A1_2 l1_2.length c1_2, .slice A1_3 l1_3.length c1_3, .slice A1_4 l1_4.length c1_4, .slice A1_5 l1_5.length c1_5] 27 (0, 0))) (h : slices_IndexFunc_Lint64_int64_at_impl_ValidChecker_1_1.f k l0 a1_0 a1_1 l1_2 l1_3 l1_4 l1_5 = some r) :
  Calls Try.prog 117 #[.slice A0 l0.length c0, .func (.func 105) #[] #[.pointer (some ⟨g1_0_, 0, none⟩)]] w fun e w' => e = .returned (.int .i64 r) ∧ Below w.heap.size w w' := by
 have HR0 := AZ.mk hr0
 have HC0 := AZ.mk hc0
 clear hr0 hc0
 have HR1_2 := AZ.mk hr1_2
 have HC1_2 := AZ.mk hc1_2
 clear hr1_2 hc1_2
 have HR1_3 := AZ.mk hr1_3
 have HC1_3 := AZ.mk hc1_3
 clear hr1_3 hc1_3
 have HR1_4 := AZ.mk hr1_4
 have HC1_4 := AZ.mk hc1_4
 clear hr1_4 hc1_4
 have HR1_5 := AZ.mk hr1_5
 have HC1_5 := AZ.mk hc1_5
 clear hr1_5 hc1_5
 have BK55 := AZ.mk hbk1_0
 clear hbk1_0
 have HB := AZ.mk (Below.refl w.heap.size w)
 have H : (slices_IndexFunc_Lint64_int64_at_impl_ValidChecker_1_1.l0 k l0 (l0.length : Int) 0 a1_0 a1_1 l1_2 l1_3 l1_4 l1_5) = some r := h
 clear h
 have H' := AZ.mk H
 clear H
 go_enter Try.func117, Try.ntmps117
 go_wp2
 go_loopg [8] k (fun kq v8 w' => ∃ (x8_1 : Int), v8 = .int .i64 x8_1 ∧ AZ (slices_IndexFunc_Lint64_int64_at_impl_ValidChecker_1_1.l0 kq l0 (l0.length : Int) x8_1 a1_0 a1_1 l1_2 l1_3 l1_4 l1_5 = some r) ∧ AZ (kq ≤ k) ∧ AZ (w'.heap[g1_0_]? = some (.cells #[.int .i64 a1_0, .int .i64 a1_1, (.slice A1_2 l1_2.length c1_2), (.slice A1_3 l1_3.length c1_3), (.slice A1_4 l1_4.length c1_4), (.slice A1_5 l1_5.length c1_5)] 27 (0, 0))) ∧ AZ (Below w.heap.size w w'))
 case atStart => exact ⟨(0), (by first | rfl | (simp; done) | (simp [*]; done)), H', ⟨Nat.le_refl _⟩, ⟨by (with_reducible repeat (first | refine bn_ ?_ _ | refine bd_ ?_ | refine ba_ ?_ _)); exact BK55.out⟩, ⟨by repeat (first | (with_reducible first | exact HB.out | apply pA | apply pN | apply pD | refine pS ?_ GE55.out) | exact HB.out)⟩⟩
 case round =>
  clear H'
  try clear c1
  try clear p2
  obtain ⟨x8_1, rfl, HA, HK1, BK55, HB⟩ := hrel
  cases gk with
  | zero => exact absurd HA.out (by simp [slices_IndexFunc_Lint64_int64_at_impl_ValidChecker_1_1.l0])
  | succ k1 =>
   have H := HA.out
   clear HA
   simp only [slices_IndexFunc_Lint64_int64_at_impl_ValidChecker_1_1.l0] at H
   by_cases c3 : x8_1 < (l0.length : Int)
   rotate_left
   ·rw [if_neg c3] at H
    have c3b0 : decide (x8_1 < (l0.length : Int)) = false := dF c3
    clear c3
    obtain rfl := oJ H
    go_wp2
    go_ret
    exact ⟨by first | rfl | (simp [Ze, Zf] <;> rfl) | (simp [*, Ze, Zf] <;> rfl), by repeat (first | (with_reducible first | exact HB.out | apply pA | apply pN | apply pD | refine pS ?_ GE55.out) | exact HB.out)⟩
   rw [if_pos c3] at H
   have c3b0 : decide (x8_1 < (l0.length : Int)) = true := dT c3
   clear c3
   by_cases c4 : 0 ≤ x8_1
   rotate_left
   ·rw [if_neg c4] at H
    exact absurd H (by simp)
   rw [if_pos c4] at H
   have c4b0 : decide (0 ≤ x8_1) = true := dT c4
   clear c4
   by_cases c5 : x8_1 < (l0.length : Int)
   rotate_left
   ·rw [if_neg c5] at H
    exact absurd H (by simp)
   rw [if_pos c5] at H
   have c5b0 : decide (x8_1 < (l0.length : Int)) = true := dT c5
   clear c5
   replace H := Option.bind_eq_some_iff.mp H
   obtain ⟨t486, A60, H⟩ := H
   replace H : (if t486 = true then (some x8_1) else (slices_IndexFunc_Lint64_int64_at_impl_ValidChecker_1_1.l0 k1 l0 (l0.length : Int) (wrap64 (x8_1 + 1)) a1_0 a1_1 l1_2 l1_3 l1_4 l1_5)) = some r := H
   have A6 := AZ.mk A60
   clear A60
   by_cases c7 : t486 = true
   ·subst c7
    have H1 : (some x8_1) = some r := by rw [if_pos rfl] at H; exact H
    clear H
    have H := H1
    clear H1
    obtain rfl := oJ H
    have p485 : 0 ≤ (x8_1 : Int) := oT (by first | (with_reducible assumption) | assumption)
    have q485 : x8_1 < (l0.length : Int) := oT (by first | (with_reducible assumption) | assumption)
    obtain ⟨ad485, e485, hx485_0⟩ := Kd.at_int HR0.out x8_1 p485 q485
    cases e485
    replace hx485_0 := (HB.out.cell (World.block_lt_of_cell? w _ hx485_0)).trans hx485_0
    replace p485 := eq_true p485
    replace q485 := eq_true q485
    go_wp2_with (first | ((with_reducible refine gate_value (t := 11) rfl ?_); refine goesVL_ (some 16) rfl rfl Try.func105 (by kernel_rfl) rfl #[.int .i64 (rd l0 x8_1)] #[.int .i64 (rd l0 x8_1), .pointer (some ⟨g1_0_, 0, none⟩)] rfl (by rfl) (by (try simp only [mA, mB, mC]); first | done | rfl | (simp only [lD, lT]; rfl)) (by rfl) ?_; (with_reducible refine (impl_ValidChecker_1_1_c.calls (rd l0 x8_1) g1_0_ a1_0 a1_1 A1_2 c1_2 l1_2 A1_3 c1_3 l1_3 A1_4 c1_4 l1_4 A1_5 c1_5 l1_5 true _ ?side1 ?side2 ?side3 ?side4 ?side5 ?side6 ?side7 ?side8 ?side9 A6.out).mono ?_); (case side1 => repeat (first | exact (Kd.C_below HR1_2.out HB.out) | (with_reducible refine Kd.C_alloc ?_ _) | (with_reducible refine Kd.C_drewN ?_ _) | (with_reducible refine Kd.C_drew ?_))); (case side2 => exact HC1_2.out); (case side3 => repeat (first | exact (Kd.C_below HR1_3.out HB.out) | (with_reducible refine Kd.C_alloc ?_ _) | (with_reducible refine Kd.C_drewN ?_ _) | (with_reducible refine Kd.C_drew ?_))); (case side4 => exact HC1_3.out); (case side5 => repeat (first | exact (Kd.C_below HR1_4.out HB.out) | (with_reducible refine Kd.C_alloc ?_ _) | (with_reducible refine Kd.C_drewN ?_ _) | (with_reducible refine Kd.C_drew ?_))); (case side6 => exact HC1_4.out); (case side7 => repeat (first | exact (Kd.C_below HR1_5.out HB.out) | (with_reducible refine Kd.C_alloc ?_ _) | (with_reducible refine Kd.C_drewN ?_ _) | (with_reducible refine Kd.C_drew ?_))); (case side8 => exact HC1_5.out); (case side9 => exact (by (with_reducible repeat (first | refine bn_ ?_ _ | refine bd_ ?_ | refine ba_ ?_ _)); exact BK55.out)); rintro e w8 ⟨rfl, hb⟩; refine ⟨_, rfl, ?_⟩; have n0_ := AZ.mk (bb_ (g := g1_0_) (o := .cells #[.int .i64 a1_0, .int .i64 a1_1, .slice A1_2 l1_2.length c1_2, .slice A1_3 l1_3.length c1_3, .slice A1_4 l1_4.length c1_4, .slice A1_5 l1_5.length c1_5] 27 (0, 0)) (by (with_reducible repeat (first | refine bn_ ?_ _ | refine bd_ ?_ | refine ba_ ?_ _)); exact BK55.out) hb); have n1_ := AZ.mk (pT (by repeat (first | (with_reducible first | exact HB.out | apply pA | apply pN | apply pD | refine pS ?_ GE55.out) | exact HB.out)) hb); clear BK55; clear HB; have BK55 := n0_; have HB := n1_; clear n0_ n1_; (try clear hb); (try clear hb2); (try clear hk); (try clear hi)))
    go_ret
    exact ⟨by first | rfl | (simp [Ze, Zf] <;> rfl) | (simp [*, Ze, Zf] <;> rfl), by repeat (first | (with_reducible first | exact HB.out | apply pA | apply pN | apply pD | refine pS ?_ GE55.out) | exact HB.out)⟩
   replace c7 := Bool.eq_false_iff.mpr c7
   subst c7
   have H1 : (slices_IndexFunc_Lint64_int64_at_impl_ValidChecker_1_1.l0 k1 l0 (l0.length : Int) (wrap64 (x8_1 + 1)) a1_0 a1_1 l1_2 l1_3 l1_4 l1_5) = some r := by rw [if_neg (show ¬ (false = true) by decide)] at H; exact H
   clear H
   have H := H1
   clear H1
   have H' := AZ.mk H
   clear H
   have p485 : 0 ≤ (x8_1 : Int) := oT (by first | (with_reducible assumption) | assumption)
   have q485 : x8_1 < (l0.length : Int) := oT (by first | (with_reducible assumption) | assumption)
   obtain ⟨ad485, e485, hx485_0⟩ := Kd.at_int HR0.out x8_1 p485 q485
   cases e485
   replace hx485_0 := (HB.out.cell (World.block_lt_of_cell? w _ hx485_0)).trans hx485_0
   replace p485 := eq_true p485
   replace q485 := eq_true q485
   go_wp2_with (first | ((with_reducible refine gate_value (t := 11) rfl ?_); refine goesVL_ (some 16) rfl rfl Try.func105 (by kernel_rfl) rfl #[.int .i64 (rd l0 x8_1)] #[.int .i64 (rd l0 x8_1), .pointer (some ⟨g1_0_, 0, none⟩)] rfl (by rfl) (by (try simp only [mA, mB, mC]); first | done | rfl | (simp only [lD, lT]; rfl)) (by rfl) ?_; (with_reducible refine (impl_ValidChecker_1_1_c.calls (rd l0 x8_1) g1_0_ a1_0 a1_1 A1_2 c1_2 l1_2 A1_3 c1_3 l1_3 A1_4 c1_4 l1_4 A1_5 c1_5 l1_5 false _ ?side1 ?side2 ?side3 ?side4 ?side5 ?side6 ?side7 ?side8 ?side9 A6.out).mono ?_); (case side1 => repeat (first | exact (Kd.C_below HR1_2.out HB.out) | (with_reducible refine Kd.C_alloc ?_ _) | (with_reducible refine Kd.C_drewN ?_ _) | (with_reducible refine Kd.C_drew ?_))); (case side2 => exact HC1_2.out); (case side3 => repeat (first | exact (Kd.C_below HR1_3.out HB.out) | (with_reducible refine Kd.C_alloc ?_ _) | (with_reducible refine Kd.C_drewN ?_ _) | (with_reducible refine Kd.C_drew ?_))); (case side4 => exact HC1_3.out); (case side5 => repeat (first | exact (Kd.C_below HR1_4.out HB.out) | (with_reducible refine Kd.C_alloc ?_ _) | (with_reducible refine Kd.C_drewN ?_ _) | (with_reducible refine Kd.C_drew ?_))); (case side6 => exact HC1_4.out); (case side7 => repeat (first | exact (Kd.C_below HR1_5.out HB.out) | (with_reducible refine Kd.C_alloc ?_ _) | (with_reducible refine Kd.C_drewN ?_ _) | (with_reducible refine Kd.C_drew ?_))); (case side8 => exact HC1_5.out); (case side9 => exact (by (with_reducible repeat (first | refine bn_ ?_ _ | refine bd_ ?_ | refine ba_ ?_ _)); exact BK55.out)); rintro e w9 ⟨rfl, hb⟩; refine ⟨_, rfl, ?_⟩; have n0_ := AZ.mk (bb_ (g := g1_0_) (o := .cells #[.int .i64 a1_0, .int .i64 a1_1, .slice A1_2 l1_2.length c1_2, .slice A1_3 l1_3.length c1_3, .slice A1_4 l1_4.length c1_4, .slice A1_5 l1_5.length c1_5] 27 (0, 0)) (by (with_reducible repeat (first | refine bn_ ?_ _ | refine bd_ ?_ | refine ba_ ?_ _)); exact BK55.out) hb); have n1_ := AZ.mk (pT (by repeat (first | (with_reducible first | exact HB.out | apply pA | apply pN | apply pD | refine pS ?_ GE55.out) | exact HB.out)) hb); clear BK55; clear HB; have BK55 := n0_; have HB := n1_; clear n0_ n1_; (try clear hb); (try clear hb2); (try clear hk); (try clear hi)))
   go_roundg k1
   case measure => have := HK1.out; omega
   case rel => exact ⟨(wrap64 (x8_1 + 1)), (by first | rfl | (simp; done) | (simp [*]; done)), H', ⟨by have := HK1.out; omega⟩, ⟨by (with_reducible repeat (first | refine bn_ ?_ _ | refine bd_ ?_ | refine ba_ ?_ _)); exact BK55.out⟩, ⟨by repeat (first | (with_reducible first | exact HB.out | apply pA | apply pN | apply pD | refine pS ?_ GE55.out) | exact HB.out)⟩⟩
attribute [local go_sem] Zn Zp Zw Zx Zj Zk Zq Zr
def slices_ContainsFunc_Lint64_int64_at_impl_ValidChecker_1_1.f (k : Nat) (l0 : List Int) (a1_0 : Int) (a1_1 : Int) (l1_2 : List Bool) (l1_3 : List (List (S47))) (l1_4 : List (List (List Int))) (l1_5 : List (List Int)) : Option (Bool) := (slices_IndexFunc_Lint64_int64_at_impl_ValidChecker_1_1.f k l0 a1_0 a1_1 l1_2 l1_3 l1_4 l1_5).bind fun t485 => (some (decide (t485 ≥ 0)))
theorem slices_ContainsFunc_Lint64_int64_at_impl_ValidChecker_1_1.calls (k : Nat) (A0 : Option Addr) (c0 : Nat) (l0 : List Int) (g1_0_ : Nat) (a1_0 : Int) (a1_1 : Int) (A1_2 : Option Addr) (c1_2 : Nat) (l1_2 : List Bool) (A1_3 : Option Addr) (c1_3 : Nat) (l1_3 : List (List (S47))) (A1_4 : Option Addr) (c1_4 : Nat) (l1_4 : List (List (List Int))) (A1_5 : Option Addr) (c1_5 : Nat) (l1_5 : List (List Int)) (r : Bool) (w : World) (hr0 : Kd.C (Kd.int .i64) w A0 l0.length l0) (hc0 : l0.length ≤ c0) (hr1_2 : Kd.C Kd.bool w A1_2 l1_2.length l1_2) (hc1_2 : l1_2.length ≤ c1_2) (hr1_3 : Kd.C (Kd.slice 47 k47) w A1_3 l1_3.length l1_3) (hc1_3 : l1_3.length ≤ c1_3) (hr1_4 : Kd.C (Kd.slice 49 (Kd.slice 2 (Kd.int .i64))) w A1_4 l1_4.length l1_4) (hc1_4 : l1_4.length ≤ c1_4) (hr1_5 : Kd.C (Kd.slice 2 (Kd.int .i64)) w A1_5 l1_5.length l1_5) (hc1_5 : l1_5.length ≤ c1_5) (hbk1_0 : w.heap[g1_0_]? = some (.cells #[.int .i64 a1_0, .int .i64 a1_1, .slice A1_2 l1_2.length c1_2, .slice A1_3 l1_3.length c1_3, .slice A1_4 l1_4.length c1_4, .slice A1_5 l1_5.length c1_5] 27 (0, 0))) (h : slices_ContainsFunc_Lint64_int64_at_impl_ValidChecker_1_1.f k l0 a1_0 a1_1 l1_2 l1_3 l1_4 l1_5 = some r) :
  Calls Try.prog 104 #[.slice A0 l0.length c0, .func (.func 105) #[] #[.pointer (some ⟨g1_0_, 0, none⟩)]] w fun e w' => e = .returned (.bool r) ∧ Below w.heap.size w w' := by
 have HR0 := AZ.mk hr0
 have HC0 := AZ.mk hc0
 clear hr0 hc0
 have HR1_2 := AZ.mk hr1_2
 have HC1_2 := AZ.mk hc1_2
 clear hr1_2 hc1_2
 have HR1_3 := AZ.mk hr1_3
 have HC1_3 := AZ.mk hc1_3
 clear hr1_3 hc1_3
 have HR1_4 := AZ.mk hr1_4
 have HC1_4 := AZ.mk hc1_4
 clear hr1_4 hc1_4
 have HR1_5 := AZ.mk hr1_5
 have HC1_5 := AZ.mk hc1_5
 clear hr1_5 hc1_5
 have BK55 := AZ.mk hbk1_0
 clear hbk1_0
 have HB := AZ.mk (Below.refl w.heap.size w)
 have H : ((slices_IndexFunc_Lint64_int64_at_impl_ValidChecker_1_1.f k l0 a1_0 a1_1 l1_2 l1_3 l1_4 l1_5).bind fun t485 => (some (decide (t485 ≥ 0)))) = some r := h
 clear h
 replace H := Option.bind_eq_some_iff.mp H
 obtain ⟨t485, A30, H⟩ := H
 replace H : (some (decide (t485 ≥ 0))) = some r := H
 have A3 := AZ.mk A30
 clear A30
 obtain rfl := oJ H
 go_enter Try.func104, Try.ntmps104
 go_wp2_with (first | ((with_reducible refine gate_callee (f := 117) rfl ?_); refine Zi (some 7) rfl rfl Try.func117 (by kernel_rfl) rfl #[.slice A0 l0.length c0, .func (.func 105) #[] #[.pointer (some ⟨g1_0_, 0, none⟩)]] rfl (by (try simp only [mA, mB, mC]); first | done | rfl | (simp only [lD, lT]; rfl)) ?_; (with_reducible refine (slices_IndexFunc_Lint64_int64_at_impl_ValidChecker_1_1.calls k _ _ l0 g1_0_ a1_0 a1_1 A1_2 c1_2 l1_2 A1_3 c1_3 l1_3 A1_4 c1_4 l1_4 A1_5 c1_5 l1_5 t485 _ ?side1 ?side2 ?side3 ?side4 ?side5 ?side6 ?side7 ?side8 ?side9 ?side10 ?side11 A3.out).mono ?_); (case side1 => repeat (first | exact HR0.out | (with_reducible refine Kd.C_alloc ?_ _) | (with_reducible refine Kd.C_drewN ?_ _) | (with_reducible refine Kd.C_drew ?_))); (case side2 => exact HC0.out); (case side3 => repeat (first | exact HR1_2.out | (with_reducible refine Kd.C_alloc ?_ _) | (with_reducible refine Kd.C_drewN ?_ _) | (with_reducible refine Kd.C_drew ?_))); (case side4 => exact HC1_2.out); (case side5 => repeat (first | exact HR1_3.out | (with_reducible refine Kd.C_alloc ?_ _) | (with_reducible refine Kd.C_drewN ?_ _) | (with_reducible refine Kd.C_drew ?_))); (case side6 => exact HC1_3.out); (case side7 => repeat (first | exact HR1_4.out | (with_reducible refine Kd.C_alloc ?_ _) | (with_reducible refine Kd.C_drewN ?_ _) | (with_reducible refine Kd.C_drew ?_))); (case side8 => exact HC1_4.out); (case side9 => repeat (first | exact HR1_5.out | (with_reducible refine Kd.C_alloc ?_ _) | (with_reducible refine Kd.C_drewN ?_ _) | (with_reducible refine Kd.C_drew ?_))); (case side10 => exact HC1_5.out); (case side11 => exact (by (with_reducible repeat (first | refine bn_ ?_ _ | refine bd_ ?_ | refine ba_ ?_ _)); exact BK55.out)); rintro e w4 ⟨rfl, hb⟩; refine ⟨_, rfl, ?_⟩; have n0_ := AZ.mk (bb_ (g := g1_0_) (o := .cells #[.int .i64 a1_0, .int .i64 a1_1, .slice A1_2 l1_2.length c1_2, .slice A1_3 l1_3.length c1_3, .slice A1_4 l1_4.length c1_4, .slice A1_5 l1_5.length c1_5] 27 (0, 0)) (by (with_reducible repeat (first | refine bn_ ?_ _ | refine bd_ ?_ | refine ba_ ?_ _)); exact BK55.out) hb); have n1_ := AZ.mk (pT (by repeat (first | (with_reducible first | exact HB.out | apply pA | apply pN | apply pD | refine pS ?_ GE55.out) | exact HB.out)) hb); clear BK55; clear HB; have BK55 := n0_; have HB := n1_; clear n0_ n1_; (try clear hb); (try clear hb2); (try clear hk); (try clear hi)))
 go_ret
 exact ⟨by first | rfl | (simp [Ze, Zf] <;> rfl) | (simp [*, Ze, Zf] <;> rfl), by repeat (first | (with_reducible first | exact HB.out | apply pA | apply pN | apply pD | refine pS ?_ GE55.out) | exact HB.out)⟩
attribute [local go_sem] Zn Zp Zw Zx Zj Zk Zq Zr
def impl_ValidChecker_1_c.f (k : Nat) (l0 : List Int) (a1 : Int) (a2_0 : Int) (a2_1 : Int) (l2_2 : List Bool) (l2_3 : List (List (S47))) (l2_4 : List (List (List Int))) (l2_5 : List (List Int)) : Option (Bool) := (impl_size_int64.f l0).bind fun t484 => (if t484 = a1 then ((slices_ContainsFunc_Lint64_int64_at_impl_ValidChecker_1_1.f k l0 a2_0 a2_1 l2_2 l2_3 l2_4 l2_5).bind fun t485 => (some (!t485))) else (some false))
theorem impl_ValidChecker_1_c.calls (k : Nat) (A0 : Option Addr) (c0 : Nat) (l0 : List Int) (a1 : Int) (g2_ : Nat) (a2_0 : Int) (a2_1 : Int) (A2_2 : Option Addr) (c2_2 : Nat) (l2_2 : List Bool) (A2_3 : Option Addr) (c2_3 : Nat) (l2_3 : List (List (S47))) (A2_4 : Option Addr) (c2_4 : Nat) (l2_4 : List (List (List Int))) (A2_5 : Option Addr) (c2_5 : Nat) (l2_5 : List (List Int)) (r : Bool) (w : World) (hr0 : Kd.C (Kd.int .i64) w A0 l0.length l0) (hc0 : l0.length ≤ c0) (hr2_2 : Kd.C Kd.bool w A2_2 l2_2.length l2_2) (hc2_2 : l2_2.length ≤ c2_2) (hr2_3 : Kd.C (Kd.slice 47 k47) w A2_3 l2_3.length l2_3) (hc2_3 : l2_3.length ≤ c2_3) (hr2_4 : Kd.C (Kd.slice 49 (Kd.slice 2 (Kd.int .i64))) w A2_4 l2_4.length l2_4) (hc2_4 : l2_4.length ≤ c2_4) (hr2_5 : Kd.C (Kd.slice 2 (Kd.int .i64)) w A2_5 l2_5.length l2_5) (hc2_5 : l2_5.length ≤ c2_5) (hbk2_0 : w.heap[g2_]? = some (.cells #[.int .i64 a2_0, .int .i64 a2_1, .slice A2_2 l2_2.length c2_2, .slice A2_3 l2_3.length c2_3, .slice A2_4 l2_4.length c2_4, .slice A2_5 l2_5.length c2_5] 27 (0, 0))) (h : impl_ValidChecker_1_c.f k l0 a1 a2_0 a2_1 l2_2 l2_3 l2_4 l2_5 = some r) :
  Calls Try.prog 102 #[.slice A0 l0.length c0, .int .i64 a1, .pointer (some ⟨g2_, 0, none⟩)] w fun e w' => e = .returned (.bool r) ∧ Below w.heap.size w w' := by
 have HR0 := AZ.mk hr0
 have HC0 := AZ.mk hc0
 clear hr0 hc0
 have HR2_2 := AZ.mk hr2_2
 have HC2_2 := AZ.mk hc2_2
 clear hr2_2 hc2_2
 have HR2_3 := AZ.mk hr2_3
 have HC2_3 := AZ.mk hc2_3
 clear hr2_3 hc2_3
 have HR2_4 := AZ.mk hr2_4
 have HC2_4 := AZ.mk hc2_4
 clear hr2_4 hc2_4
 have HR2_5 := AZ.mk hr2_5
 have HC2_5 := AZ.mk hc2_5
 clear hr2_5 hc2_5
 have BK2 := AZ.mk hbk2_0
 clear hbk2_0
 have HB := AZ.mk (Below.refl w.heap.size w)
 have H : ((impl_size_int64.f l0).bind fun t484 => (if t484 = a1 then ((slices_ContainsFunc_Lint64_int64_at_impl_ValidChecker_1_1.f k l0 a2_0 a2_1 l2_2 l2_3 l2_4 l2_5).bind fun t485 => (some (!t485))) else (some false))) = some r := h
 clear h
 replace H := Option.bind_eq_some_iff.mp H
 obtain ⟨t484, A40, H⟩ := H
 replace H : (if t484 = a1 then ((slices_ContainsFunc_Lint64_int64_at_impl_ValidChecker_1_1.f k l0 a2_0 a2_1 l2_2 l2_3 l2_4 l2_5).bind fun t485 => (some (!t485))) else (some false)) = some r := H
 have A4 := AZ.mk A40
 clear A40
 by_cases c5 : t484 = a1
 rotate_left
 ·rw [if_neg c5] at H
  have c5b0 : (t484 == a1) = false := beq_eq_false_iff_ne.mpr c5
  have c5b1 : (t484 != a1) = true := bne_iff_ne.mpr c5
  obtain rfl := oJ H
  go_enter Try.func102, Try.ntmps102
  go_wp2_with (first | ((with_reducible refine gate_callee (f := 103) rfl ?_); refine Zi (some 7) rfl rfl Try.func103 (by kernel_rfl) rfl #[.slice A0 l0.length c0] rfl (by (try simp only [mA, mB, mC]); first | done | rfl | (simp only [lD, lT]; rfl)) ?_; (with_reducible refine (impl_size_int64.calls _ _ l0 t484 _ ?side1 ?side2 A4.out).mono ?_); (case side1 => repeat (first | exact HR0.out | (with_reducible refine Kd.C_alloc ?_ _) | (with_reducible refine Kd.C_drewN ?_ _) | (with_reducible refine Kd.C_drew ?_))); (case side2 => exact HC0.out); rintro e w' ⟨rfl, ⟨nd, rfl⟩⟩; refine ⟨_, rfl, ?_⟩))
  go_ret
  exact ⟨by first | rfl | (simp [Ze, Zf] <;> rfl) | (simp [*, Ze, Zf] <;> rfl), by repeat (first | (with_reducible first | exact HB.out | apply pA | apply pN | apply pD | refine pS ?_ GE2.out) | exact HB.out)⟩
 rw [if_pos c5] at H
 have c5b0 : (t484 == a1) = true := beq_iff_eq.mpr c5
 have c5b1 : (t484 != a1) = false := bne_eq_false_iff_eq.mpr c5
 clear c5
 replace H := Option.bind_eq_some_iff.mp H
 obtain ⟨t485, A60, H⟩ := H
 replace H : (some (!t485)) = some r := H
 have A6 := AZ.mk A60
 clear A60
 obtain rfl := oJ H
 go_enter Try.func102, Try.ntmps102
 go_wp2_with (first | ((with_reducible refine gate_callee (f := 103) rfl ?_); refine Zi (some 7) rfl rfl Try.func103 (by kernel_rfl) rfl #[.slice A0 l0.length c0] rfl (by (try simp only [mA, mB, mC]); first | done | rfl | (simp only [lD, lT]; rfl)) ?_; (with_reducible refine (impl_size_int64.calls _ _ l0 t484 _ ?side1 ?side2 A4.out).mono ?_); (case side1 => repeat (first | exact HR0.out | (with_reducible refine Kd.C_alloc ?_ _) | (with_reducible refine Kd.C_drewN ?_ _) | (with_reducible refine Kd.C_drew ?_))); (case side2 => exact HC0.out); rintro e w' ⟨rfl, ⟨nd, rfl⟩⟩; refine ⟨_, rfl, ?_⟩) | (go_at_call 104; (with_reducible refine (slices_ContainsFunc_Lint64_int64_at_impl_ValidChecker_1_1.calls k _ _ l0 g2_ a2_0 a2_1 A2_2 c2_2 l2_2 A2_3 c2_3 l2_3 A2_4 c2_4 l2_4 A2_5 c2_5 l2_5 t485 _ ?side1 ?side2 ?side3 ?side4 ?side5 ?side6 ?side7 ?side8 ?side9 ?side10 ?side11 A6.out).mono ?_); (case side1 => repeat (first | exact HR0.out | (with_reducible refine Kd.C_alloc ?_ _) | (with_reducible refine Kd.C_drewN ?_ _) | (with_reducible refine Kd.C_drew ?_))); (case side2 => exact HC0.out); (case side3 => repeat (first | exact HR2_2.out | (with_reducible refine Kd.C_alloc ?_ _) | (with_reducible refine Kd.C_drewN ?_ _) | (with_reducible refine Kd.C_drew ?_))); (case side4 => exact HC2_2.out); (case side5 => repeat (first | exact HR2_3.out | (with_reducible refine Kd.C_alloc ?_ _) | (with_reducible refine Kd.C_drewN ?_ _) | (with_reducible refine Kd.C_drew ?_))); (case side6 => exact HC2_3.out); (case side7 => repeat (first | exact HR2_4.out | (with_reducible refine Kd.C_alloc ?_ _) | (with_reducible refine Kd.C_drewN ?_ _) | (with_reducible refine Kd.C_drew ?_))); (case side8 => exact HC2_4.out); (case side9 => repeat (first | exact HR2_5.out | (with_reducible refine Kd.C_alloc ?_ _) | (with_reducible refine Kd.C_drewN ?_ _) | (with_reducible refine Kd.C_drew ?_))); (case side10 => exact HC2_5.out); (case side11 => exact (by (with_reducible repeat (first | refine bn_ ?_ _ | refine bd_ ?_ | refine ba_ ?_ _)); exact BK2.out)); rintro e w7 ⟨rfl, hb⟩; have n0_ := AZ.mk (bb_ (g := g2_) (o := .cells #[.int .i64 a2_0, .int .i64 a2_1, .slice A2_2 l2_2.length c2_2, .slice A2_3 l2_3.length c2_3, .slice A2_4 l2_4.length c2_4, .slice A2_5 l2_5.length c2_5] 27 (0, 0)) (by (with_reducible repeat (first | refine bn_ ?_ _ | refine bd_ ?_ | refine ba_ ?_ _)); exact BK2.out) hb); have n1_ := AZ.mk (pT (by repeat (first | (with_reducible first | exact HB.out | apply pA | apply pN | apply pD | refine pS ?_ GE2.out) | exact HB.out)) hb); clear BK2; clear HB; have BK2 := n0_; have HB := n1_; clear n0_ n1_; (try clear hb); (try clear hb2); (try clear hk); (try clear hi)))
 go_ret
 exact ⟨by first | rfl | (simp [Ze, Zf] <;> rfl) | (simp [*, Ze, Zf] <;> rfl), by repeat (first | (with_reducible first | exact HB.out | apply pA | apply pN | apply pD | refine pS ?_ GE2.out) | exact HB.out)⟩
attribute [local go_sem] Zn Zp Zw Zx Zj Zk Zq Zr
mutual
def impl_ValidChecker.j0 : Nat → Int → Bool → Int → Int → List Bool → List (List (S47)) → List (List (List Int)) → List (List Int) → Option (Bool)
 | 0, _, _, _, _, _, _, _, _ => none
 | k + 1, x3, x47, x474000, x474001, x474002, x474003, x474004, x474005 => if x47 = true then (some false) else (impl_ValidChecker.l0 k x3 0 x474000 x474001 x474002 x474003 x474004 x474005)
def impl_ValidChecker.l0 : Nat → Int → Int → Int → Int → List Bool → List (List (S47)) → List (List (List Int)) → List (List Int) → Option (Bool)
 | 0, _, _, _, _, _, _, _, _ => none
 | k + 1, x49, x50, x474000, x474001, x474002, x474003, x474004, x474005 => if x50 < x49 then (if 0 ≤ x50 then (if x50 < (x474003.length : Int) then (if ((Zd x474003 x50).length : Int) = 2 then (if x50 < (x474004.length : Int) then (if ((rd_L5 x474004 x50).length : Int) = 2 then (if x50 < (x474005.length : Int) then ((impl_ValidChecker_1_c.f k (rd_L4 x474005 x50) 2 x474000 x474001 x474002 x474003 x474004 x474005).bind fun t484 => (impl_ValidChecker.j2 k x50 x49 x50 (!t484) x474000 x474001 x474002 x474003 x474004 x474005)) else (none)) else (impl_ValidChecker.j2 k x50 x49 x50 true x474000 x474001 x474002 x474003 x474004 x474005)) else (none)) else (impl_ValidChecker.j2 k x50 x49 x50 true x474000 x474001 x474002 x474003 x474004 x474005)) else (none)) else (none)) else (some true)
def impl_ValidChecker.j2 : Nat → Int → Int → Int → Bool → Int → Int → List Bool → List (List (S47)) → List (List (List Int)) → List (List Int) → Option (Bool)
 | 0, _, _, _, _, _, _, _, _, _, _ => none
 | k + 1, x5, x49, x50, x78, x474000, x474001, x474002, x474003, x474004, x474005 => if x78 = true then (some false) else (impl_ValidChecker.l1 k x5 x49 x50 0 x474000 x474001 x474002 x474003 x474004 x474005)
def impl_ValidChecker.l1 : Nat → Int → Int → Int → Int → Int → Int → List Bool → List (List (S47)) → List (List (List Int)) → List (List Int) → Option (Bool)
 | 0, _, _, _, _, _, _, _, _, _, _ => none
 | k + 1, x5, x49, x50, x79, x474000, x474001, x474002, x474003, x474004, x474005 => if x79 < 2 then (if 0 ≤ x5 then (if x5 < (x474003.length : Int) then (if 0 ≤ x79 then (if x79 < ((Zd x474003 x5).length : Int) then ((impl_Checker_isState.f x474000 x474001 x474002 x474003 x474004 x474005 ((Zb (Zd x474003 x5) x79).f0)).bind fun t488 => (if t488 = true then ((impl_Checker_isMark.f x474000 x474001 x474002 x474003 x474004 x474005 ((Zb (Zd x474003 x5) x79).f1)).bind fun t489 => (if t489 = true then (if x5 < (x474004.length : Int) then (if x79 < ((rd_L5 x474004 x5).length : Int) then ((impl_ValidChecker_1_c.f k (rd_L4 (rd_L5 x474004 x5) x79) (wrap64 (x474000 + 1)) x474000 x474001 x474002 x474003 x474004 x474005).bind fun t492 => (if t492 = true then (impl_ValidChecker.l1 k x5 x49 x50 (wrap64 (x79 + 1)) x474000 x474001 x474002 x474003 x474004 x474005) else (some false))) else (none)) else (none)) else (some false))) else (some false))) else (none)) else (none)) else (none)) else (none)) else (impl_ValidChecker.l0 k x49 (wrap64 (x50 + 1)) x474000 x474001 x474002 x474003 x474004 x474005)
end
def impl_ValidChecker.f (k : Nat) (a0_0 : Int) (a0_1 : Int) (l0_2 : List Bool) (l0_3 : List (List (S47))) (l0_4 : List (List (List Int))) (l0_5 : List (List Int)) : Option (Bool) := (impl_size_bool.f l0_2).bind fun t474 => ((impl_within.f t474 1 40).bind fun t475 => (if t475 = true then ((impl_within.f a0_0 1 80).bind fun t476 => (if t476 = true then ((impl_Checker_isState.f a0_0 a0_1 l0_2 l0_3 l0_4 l0_5 a0_1).bind fun t477 => (if t477 = true then ((impl_size_Limpl_Push.f l0_3).bind fun t478 => (if t478 = t474 then ((impl_size_LLint64.f l0_4).bind fun t479 => (if t479 = t474 then ((impl_size_Lint64.f l0_5).bind fun t480 => (impl_ValidChecker.j0 k t474 (t480 != t474) a0_0 a0_1 l0_2 l0_3 l0_4 l0_5)) else (impl_ValidChecker.j0 k t474 true a0_0 a0_1 l0_2 l0_3 l0_4 l0_5))) else (impl_ValidChecker.j0 k t474 true a0_0 a0_1 l0_2 l0_3 l0_4 l0_5))) else (impl_ValidChecker.j0 k t474 true a0_0 a0_1 l0_2 l0_3 l0_4 l0_5))) else (impl_ValidChecker.j0 k t474 true a0_0 a0_1 l0_2 l0_3 l0_4 l0_5))) else (impl_ValidChecker.j0 k t474 true a0_0 a0_1 l0_2 l0_3 l0_4 l0_5)))
def impl_ValidChecker.T14 : Bool × List (List Nat × List Nat) := (true, [([], []), ([], []), ([1], [1]), ([0, 2], [0, 2]), ([3], [3]), ([4, 3], [4]), ([5], [5]), ([5], [5]), ([7, 5], [5, 7]), ([6, 8, 5, 5], [5, 6, 8]), ([9, 5], [5, 9]), ([5, 10], [5, 10]), ([11, 9], [11]), ([12], [12]), ([12], [12]), ([14, 12], [12, 14]), ([12], [12]), ([15, 16, 12], [12, 15, 16]), ([17, 12], [12, 17]), ([12], [12]), ([18, 19, 12], [12, 18, 19]), ([20, 12], [12, 20]), ([12], [12]), ([22, 12], [12, 22]), ([23, 12], [12, 23]), ([13, 21, 24, 12, 12], [12, 13, 21, 24]), ([25, 12], [12, 25]), ([12, 26], [12, 26])])
def impl_ValidChecker.B14 : List Nat := [0, 0, 2, 7, 15, 31, 63, 63, 191, 511, 1023, 2047, 4095, 8191, 8191, 24575, 8191, 122879, 253951, 8191, 1040383, 2088959, 8191, 4202495, 12591103, 33554431, 67108863, 134217727]
theorem impl_ValidChecker.tab14 : rtab .any (opsOf Try.f76 14) = impl_ValidChecker.T14 := by kernel_rfl
theorem impl_ValidChecker.bits14 : waitsOk impl_ValidChecker.T14.2 impl_ValidChecker.B14 = true := by kernel_rfl
def impl_ValidChecker.cz0 : List Nat := [1, 400, 402]
def impl_ValidChecker.cz1 : List Nat := [4, 5, 7, 406, 408]
def impl_ValidChecker.cz2 : List Nat := [10, 11, 12, 13, 14, 16, 19, 22, 415, 17, 418, 20, 421, 423, 24]
def impl_ValidChecker.cz3 : List Nat := [26, 27]
def impl_ValidChecker.cz4 : List Nat := [10, 11, 12, 213, 214, 215, 216, 217, 218, 219, 220, 221, 222, 223, 224, 225, 226, 27]
def impl_ValidChecker.cz5 : List Nat := [4, 5, 206, 207, 208, 209, 210, 11, 12, 213, 214, 215, 216, 217, 218, 219, 220, 221, 222, 223, 224, 225, 226, 27]
theorem impl_ValidChecker.calls (k : Nat) (a0_0 : Int) (a0_1 : Int) (A0_2 : Option Addr) (c0_2 : Nat) (l0_2 : List Bool) (A0_3 : Option Addr) (c0_3 : Nat) (l0_3 : List (List (S47))) (A0_4 : Option Addr) (c0_4 : Nat) (l0_4 : List (List (List Int))) (A0_5 : Option Addr) (c0_5 : Nat) (l0_5 : List (List Int)) (r : Bool) (w : World) (hr0_2 : Kd.C Kd.bool w A0_2 l0_2.length l0_2) (hc0_2 : l0_2.length ≤ c0_2) (hr0_3 : Kd.C (Kd.slice 47 k47) w A0_3 l0_3.length l0_3) (hc0_3 : l0_3.length ≤ c0_3) (hr0_4 : Kd.C (Kd.slice 49 (Kd.slice 2 (Kd.int .i64))) w A0_4 l0_4.length l0_4) (hc0_4 : l0_4.length ≤ c0_4) (hr0_5 : Kd.C (Kd.slice 2 (Kd.int .i64)) w A0_5 l0_5.length l0_5) (hc0_5 : l0_5.length ≤ c0_5) (h : impl_ValidChecker.f k a0_0 a0_1 l0_2 l0_3 l0_4 l0_5 = some r) :
  Calls Try.prog 76 #[.agg #[.int .i64 a0_0, .int .i64 a0_1, .slice A0_2 l0_2.length c0_2, .slice A0_3 l0_3.length c0_3, .slice A0_4 l0_4.length c0_4, .slice A0_5 l0_5.length c0_5]] w fun e w' => e = .returned (.bool r) ∧ Below w.heap.size w w' := by
 have hu27 := Try.underlying27
 have hu47 := Try.underlying47
 have HR0_2 := AZ.mk hr0_2
 have HC0_2 := AZ.mk hc0_2
 clear hr0_2 hc0_2
 have HR0_3 := AZ.mk hr0_3
 have HC0_3 := AZ.mk hc0_3
 clear hr0_3 hc0_3
 have HR0_4 := AZ.mk hr0_4
 have HC0_4 := AZ.mk hc0_4
 clear hr0_4 hc0_4
 have HR0_5 := AZ.mk hr0_5
 have HC0_5 := AZ.mk hc0_5
 clear hr0_5 hc0_5
 have HB := AZ.mk (Below.refl w.heap.size w)
 have H : ((impl_size_bool.f l0_2).bind fun t474 => ((impl_within.f t474 1 40).bind fun t475 => (if t475 = true then ((impl_within.f a0_0 1 80).bind fun t476 => (if t476 = true then ((impl_Checker_isState.f a0_0 a0_1 l0_2 l0_3 l0_4 l0_5 a0_1).bind fun t477 => (if t477 = true then ((impl_size_Limpl_Push.f l0_3).bind fun t478 => (if t478 = t474 then ((impl_size_LLint64.f l0_4).bind fun t479 => (if t479 = t474 then ((impl_size_Lint64.f l0_5).bind fun t480 => (impl_ValidChecker.j0 k t474 (t480 != t474) a0_0 a0_1 l0_2 l0_3 l0_4 l0_5)) else (impl_ValidChecker.j0 k t474 true a0_0 a0_1 l0_2 l0_3 l0_4 l0_5))) else (impl_ValidChecker.j0 k t474 true a0_0 a0_1 l0_2 l0_3 l0_4 l0_5))) else (impl_ValidChecker.j0 k t474 true a0_0 a0_1 l0_2 l0_3 l0_4 l0_5))) else (impl_ValidChecker.j0 k t474 true a0_0 a0_1 l0_2 l0_3 l0_4 l0_5))) else (impl_ValidChecker.j0 k t474 true a0_0 a0_1 l0_2 l0_3 l0_4 l0_5)))) = some r := h
 clear h
 replace H := Option.bind_eq_some_iff.mp H
 obtain ⟨t474, A20, H⟩ := H
 replace H : ((impl_within.f t474 1 40).bind fun t475 => (if t475 = true then ((impl_within.f a0_0 1 80).bind fun t476 => (if t476 = true then ((impl_Checker_isState.f a0_0 a0_1 l0_2 l0_3 l0_4 l0_5 a0_1).bind fun t477 => (if t477 = true then ((impl_size_Limpl_Push.f l0_3).bind fun t478 => (if t478 = t474 then ((impl_size_LLint64.f l0_4).bind fun t479 => (if t479 = t474 then ((impl_size_Lint64.f l0_5).bind fun t480 => (impl_ValidChecker.j0 k t474 (t480 != t474) a0_0 a0_1 l0_2 l0_3 l0_4 l0_5)) else (impl_ValidChecker.j0 k t474 true a0_0 a0_1 l0_2 l0_3 l0_4 l0_5))) else (impl_ValidChecker.j0 k t474 true a0_0 a0_1 l0_2 l0_3 l0_4 l0_5))) else (impl_ValidChecker.j0 k t474 true a0_0 a0_1 l0_2 l0_3 l0_4 l0_5))) else (impl_ValidChecker.j0 k t474 true a0_0 a0_1 l0_2 l0_3 l0_4 l0_5))) else (impl_ValidChecker.j0 k t474 true a0_0 a0_1 l0_2 l0_3 l0_4 l0_5))) = some r := H
 have A2 := AZ.mk A20
 clear A20
 have HC3 := AZ.mk H
 clear H
 go_enter Try.func76, Try.ntmps76
 go_upto_region 2 with (first | ((with_reducible refine Zc (N := 1) rfl ?_); (try (refine gate_guard (by rfl) ?_; dsimp only)); refine Zh ?hg (N := 1) ?hd (cs := #[.int .i64 a0_0, .int .i64 a0_1, .slice A0_2 l0_2.length c0_2, .slice A0_3 l0_3.length c0_3, .slice A0_4 l0_4.length c0_4, .slice A0_5 l0_5.length c0_5]) (t := 27) ?hr ?_; (case hd => rfl); (case hg => rfl); (case hr => first | (go_simp; done) | (go_simp; rfl)); intro gb473 hg w4 hbox hb; have n0_ := AZ.mk (pT (by repeat (first | (with_reducible first | exact HB.out | apply pA | apply pN | apply pD) | exact HB.out)) hb); have n1_ := AZ.mk (hbox); have n2_ := AZ.mk ((by rw [hg]; exact (pZ (by repeat (first | (with_reducible first | exact HB.out | apply pA | apply pN | apply pD) | exact HB.out))) : w.heap.size ≤ gb473)); have n3_ := AZ.mk ((by rw [hg]; exact (pZ (by repeat (first | (with_reducible first | exact HB.out | apply pA | apply pN | apply pD) | exact HB.out))) : w.heap.size ≤ gb473)); clear HB; have HB := n0_; have BK473 := n1_; have GW473 := n2_; have GE473 := n3_; clear n0_ n1_ n2_ n3_; clear hb hbox hg; obtain ⟨hcz5_0, hcz5_1, hcz5_2, hcz5_3, hcz5_4, hcz5_5⟩ := c6 BK473.out; obtain ⟨hfz5_0, hfz5_1, hfz5_2, hfz5_3, hfz5_4, hfz5_5⟩ := f6 BK473.out) | ((with_reducible refine gate_callee (f := 97) rfl ?_); refine Zi (some 10) rfl rfl Try.func97 (by kernel_rfl) rfl #[.slice A0_2 l0_2.length c0_2] rfl (by (try simp only [mA, mB, mC]); first | done | rfl | (simp only [lD, lT]; rfl)) ?_; (with_reducible refine (impl_size_bool.calls _ _ l0_2 t474 _ ?side1 ?side2 A2.out).mono ?_); (case side1 => repeat (first | exact (Kd.C_below HR0_2.out HB.out) | (with_reducible refine Kd.C_alloc ?_ _) | (with_reducible refine Kd.C_drewN ?_ _) | (with_reducible refine Kd.C_drew ?_))); (case side2 => exact HC0_2.out); rintro e w' ⟨rfl, ⟨nd, rfl⟩⟩; refine ⟨_, rfl, ?_⟩))
 (try simp only [Act.put, sA, sB, sC])
 go_cut [47] (fun v47 wc => ∃ (kq : Nat) (x47_2 : Bool), v47 = .bool x47_2 ∧ AZ (impl_ValidChecker.j0 kq t474 x47_2 a0_0 a0_1 l0_2 l0_3 l0_4 l0_5 = some r) ∧ AZ (kq ≤ k) ∧ AZ (wc.heap[gb473]? = some (.cells #[.int .i64 a0_0, .int .i64 a0_1, (.slice A0_2 l0_2.length c0_2), (.slice A0_3 l0_3.length c0_3), (.slice A0_4 l0_4.length c0_4), (.slice A0_5 l0_5.length c0_5)] 27 (0, 0))) ∧ AZ (Below w.heap.size w wc))
 case first =>
  have H := HC3.out
  clear HC3
  replace H := Option.bind_eq_some_iff.mp H
  obtain ⟨t475, A60, H⟩ := H
  replace H : (if t475 = true then ((impl_within.f a0_0 1 80).bind fun t476 => (if t476 = true then ((impl_Checker_isState.f a0_0 a0_1 l0_2 l0_3 l0_4 l0_5 a0_1).bind fun t477 => (if t477 = true then ((impl_size_Limpl_Push.f l0_3).bind fun t478 => (if t478 = t474 then ((impl_size_LLint64.f l0_4).bind fun t479 => (if t479 = t474 then ((impl_size_Lint64.f l0_5).bind fun t480 => (impl_ValidChecker.j0 k t474 (t480 != t474) a0_0 a0_1 l0_2 l0_3 l0_4 l0_5)) else (impl_ValidChecker.j0 k t474 true a0_0 a0_1 l0_2 l0_3 l0_4 l0_5))) else (impl_ValidChecker.j0 k t474 true a0_0 a0_1 l0_2 l0_3 l0_4 l0_5))) else (impl_ValidChecker.j0 k t474 true a0_0 a0_1 l0_2 l0_3 l0_4 l0_5))) else (impl_ValidChecker.j0 k t474 true a0_0 a0_1 l0_2 l0_3 l0_4 l0_5))) else (impl_ValidChecker.j0 k t474 true a0_0 a0_1 l0_2 l0_3 l0_4 l0_5)) = some r := H
  have A6 := AZ.mk A60
  clear A60
  by_cases c7 : t475 = true
  rotate_left
  ·replace c7 := Bool.eq_false_iff.mpr c7
   subst c7
   have H1 : (impl_ValidChecker.j0 k t474 true a0_0 a0_1 l0_2 l0_3 l0_4 l0_5) = some r := by rw [if_neg (show ¬ (false = true) by decide)] at H; exact H
   clear H
   have H := H1
   clear H1
   have H' := AZ.mk H
   clear H
   go_wp2_with (first | ((with_reducible refine gate_callee (f := 54) rfl ?_); refine Zi (some 12) rfl rfl Try.func54 (by kernel_rfl) rfl #[.int .i64 t474, .int .i64 1, .int .i64 40] rfl (by (try simp only [mA, mB, mC]); first | done | rfl | (simp only [lD, lT]; rfl)) ?_; (with_reducible refine (impl_within.calls t474 1 40 false _ A6.out).mono ?_); rintro e w' ⟨rfl, ⟨nd, rfl⟩⟩; refine ⟨_, rfl, ?_⟩))
   go_meet
   case rel => exact ⟨_, (true), (by first | rfl | (simp; done) | (simp [*]; done)), H', ⟨by first | omega | exact Nat.le_refl _⟩, ⟨by (with_reducible repeat (first | refine bn_ ?_ _ | refine bd_ ?_ | refine ba_ ?_ _)); exact BK473.out⟩, ⟨by repeat (first | (with_reducible first | exact HB.out | apply pA | apply pN | apply pD | refine pS ?_ GE473.out) | exact HB.out)⟩⟩
  subst c7
  have H1 : ((impl_within.f a0_0 1 80).bind fun t476 => (if t476 = true then ((impl_Checker_isState.f a0_0 a0_1 l0_2 l0_3 l0_4 l0_5 a0_1).bind fun t477 => (if t477 = true then ((impl_size_Limpl_Push.f l0_3).bind fun t478 => (if t478 = t474 then ((impl_size_LLint64.f l0_4).bind fun t479 => (if t479 = t474 then ((impl_size_Lint64.f l0_5).bind fun t480 => (impl_ValidChecker.j0 k t474 (t480 != t474) a0_0 a0_1 l0_2 l0_3 l0_4 l0_5)) else (impl_ValidChecker.j0 k t474 true a0_0 a0_1 l0_2 l0_3 l0_4 l0_5))) else (impl_ValidChecker.j0 k t474 true a0_0 a0_1 l0_2 l0_3 l0_4 l0_5))) else (impl_ValidChecker.j0 k t474 true a0_0 a0_1 l0_2 l0_3 l0_4 l0_5))) else (impl_ValidChecker.j0 k t474 true a0_0 a0_1 l0_2 l0_3 l0_4 l0_5))) = some r := by rw [if_pos rfl] at H; exact H
  clear H
  have H := H1
  clear H1
  replace H := Option.bind_eq_some_iff.mp H
  obtain ⟨t476, A80, H⟩ := H
  replace H : (if t476 = true then ((impl_Checker_isState.f a0_0 a0_1 l0_2 l0_3 l0_4 l0_5 a0_1).bind fun t477 => (if t477 = true then ((impl_size_Limpl_Push.f l0_3).bind fun t478 => (if t478 = t474 then ((impl_size_LLint64.f l0_4).bind fun t479 => (if t479 = t474 then ((impl_size_Lint64.f l0_5).bind fun t480 => (impl_ValidChecker.j0 k t474 (t480 != t474) a0_0 a0_1 l0_2 l0_3 l0_4 l0_5)) else (impl_ValidChecker.j0 k t474 true a0_0 a0_1 l0_2 l0_3 l0_4 l0_5))) else (impl_ValidChecker.j0 k t474 true a0_0 a0_1 l0_2 l0_3 l0_4 l0_5))) else (impl_ValidChecker.j0 k t474 true a0_0 a0_1 l0_2 l0_3 l0_4 l0_5))) else (impl_ValidChecker.j0 k t474 true a0_0 a0_1 l0_2 l0_3 l0_4 l0_5)) = some r := H
  have A8 := AZ.mk A80
  clear A80
  by_cases c9 : t476 = true
  rotate_left
  ·replace c9 := Bool.eq_false_iff.mpr c9
   subst c9
   have H1 : (impl_ValidChecker.j0 k t474 true a0_0 a0_1 l0_2 l0_3 l0_4 l0_5) = some r := by rw [if_neg (show ¬ (false = true) by decide)] at H; exact H
   clear H
   have H := H1
   clear H1
   have H' := AZ.mk H
   clear H
   go_wp2_with (first | ((with_reducible refine gate_callee (f := 54) rfl ?_); refine Zi (some 12) rfl rfl Try.func54 (by kernel_rfl) rfl #[.int .i64 t474, .int .i64 1, .int .i64 40] rfl (by (try simp only [mA, mB, mC]); first | done | rfl | (simp only [lD, lT]; rfl)) ?_; (with_reducible refine (impl_within.calls t474 1 40 true _ A6.out).mono ?_); rintro e w' ⟨rfl, ⟨nd, rfl⟩⟩; refine ⟨_, rfl, ?_⟩; obtain ⟨hcz28_0, hcz28_1, hcz28_2, hcz28_3, hcz28_4, hcz28_5⟩ := c6 BK473.out; obtain ⟨hfz28_0, hfz28_1, hfz28_2, hfz28_3, hfz28_4, hfz28_5⟩ := f6 BK473.out) | (go_at_call 54; (with_reducible refine (impl_within.calls a0_0 1 80 false _ A8.out).mono ?_); rintro e w' ⟨rfl, ⟨nd, rfl⟩⟩))
   go_meet
   case rel => exact ⟨_, (true), (by first | rfl | (simp; done) | (simp [*]; done)), H', ⟨by first | omega | exact Nat.le_refl _⟩, ⟨by (with_reducible repeat (first | refine bn_ ?_ _ | refine bd_ ?_ | refine ba_ ?_ _)); exact BK473.out⟩, ⟨by repeat (first | (with_reducible first | exact HB.out | apply pA | apply pN | apply pD | refine pS ?_ GE473.out) | exact HB.out)⟩⟩
  subst c9
  have H1 : ((impl_Checker_isState.f a0_0 a0_1 l0_2 l0_3 l0_4 l0_5 a0_1).bind fun t477 => (if t477 = true then ((impl_size_Limpl_Push.f l0_3).bind fun t478 => (if t478 = t474 then ((impl_size_LLint64.f l0_4).bind fun t479 => (if t479 = t474 then ((impl_size_Lint64.f l0_5).bind fun t480 => (impl_ValidChecker.j0 k t474 (t480 != t474) a0_0 a0_1 l0_2 l0_3 l0_4 l0_5)) else (impl_ValidChecker.j0 k t474 true a0_0 a0_1 l0_2 l0_3 l0_4 l0_5))) else (impl_ValidChecker.j0 k t474 true a0_0 a0_1 l0_2 l0_3 l0_4 l0_5))) else (impl_ValidChecker.j0 k t474 true a0_0 a0_1 l0_2 l0_3 l0_4 l0_5))) = some r := by rw [if_pos rfl] at H; exact H
  clear H
  have H := H1
  clear H1
  replace H := Option.bind_eq_some_iff.mp H
  obtain ⟨t477, A100, H⟩ := H
  replace H : (if t477 = true then ((impl_size_Limpl_Push.f l0_3).bind fun t478 => (if t478 = t474 then ((impl_size_LLint64.f l0_4).bind fun t479 => (if t479 = t474 then ((impl_size_Lint64.f l0_5).bind fun t480 => (impl_ValidChecker.j0 k t474 (t480 != t474) a0_0 a0_1 l0_2 l0_3 l0_4 l0_5)) else (impl_ValidChecker.j0 k t474 true a0_0 a0_1 l0_2 l0_3 l0_4 l0_5))) else (impl_ValidChecker.j0 k t474 true a0_0 a0_1 l0_2 l0_3 l0_4 l0_5))) else (impl_ValidChecker.j0 k t474 true a0_0 a0_1 l0_2 l0_3 l0_4 l0_5)) = some r := H
  have A10 := AZ.mk A100
  clear A100
  by_cases c11 : t477 = true
  rotate_left
  ·replace c11 := Bool.eq_false_iff.mpr c11
   subst c11
   have H1 : (impl_ValidChecker.j0 k t474 true a0_0 a0_1 l0_2 l0_3 l0_4 l0_5) = some r := by rw [if_neg (show ¬ (false = true) by decide)] at H; exact H
   clear H
   have H := H1
   clear H1
   have H' := AZ.mk H
   clear H
   go_wp2_with (first | ((with_reducible refine gate_callee (f := 54) rfl ?_); refine Zi (some 12) rfl rfl Try.func54 (by kernel_rfl) rfl #[.int .i64 t474, .int .i64 1, .int .i64 40] rfl (by (try simp only [mA, mB, mC]); first | done | rfl | (simp only [lD, lT]; rfl)) ?_; (with_reducible refine (impl_within.calls t474 1 40 true _ A6.out).mono ?_); rintro e w' ⟨rfl, ⟨nd, rfl⟩⟩; refine ⟨_, rfl, ?_⟩; obtain ⟨hcz26_0, hcz26_1, hcz26_2, hcz26_3, hcz26_4, hcz26_5⟩ := c6 BK473.out; obtain ⟨hfz26_0, hfz26_1, hfz26_2, hfz26_3, hfz26_4, hfz26_5⟩ := f6 BK473.out) | (go_at_call 54; (with_reducible refine (impl_within.calls a0_0 1 80 true _ A8.out).mono ?_); rintro e w' ⟨rfl, ⟨nd, rfl⟩⟩) | (go_at_call 98; (with_reducible refine (impl_Checker_isState.calls a0_0 a0_1 _ _ l0_2 _ _ l0_3 _ _ l0_4 _ _ l0_5 a0_1 false _ ?side1 ?side2 ?side3 ?side4 ?side5 ?side6 ?side7 ?side8 A10.out).mono ?_); (case side1 => repeat (first | exact (Kd.C_below HR0_2.out (by repeat (first | (with_reducible first | exact HB.out | apply pA | apply pN | apply pD | refine pS ?_ GE473.out) | exact HB.out))) | (with_reducible refine Kd.C_alloc ?_ _) | (with_reducible refine Kd.C_drewN ?_ _) | (with_reducible refine Kd.C_drew ?_))); (case side2 => exact HC0_2.out); (case side3 => repeat (first | exact (Kd.C_below HR0_3.out (by repeat (first | (with_reducible first | exact HB.out | apply pA | apply pN | apply pD | refine pS ?_ GE473.out) | exact HB.out))) | (with_reducible refine Kd.C_alloc ?_ _) | (with_reducible refine Kd.C_drewN ?_ _) | (with_reducible refine Kd.C_drew ?_))); (case side4 => exact HC0_3.out); (case side5 => repeat (first | exact (Kd.C_below HR0_4.out (by repeat (first | (with_reducible first | exact HB.out | apply pA | apply pN | apply pD | refine pS ?_ GE473.out) | exact HB.out))) | (with_reducible refine Kd.C_alloc ?_ _) | (with_reducible refine Kd.C_drewN ?_ _) | (with_reducible refine Kd.C_drew ?_))); (case side6 => exact HC0_4.out); (case side7 => repeat (first | exact (Kd.C_below HR0_5.out (by repeat (first | (with_reducible first | exact HB.out | apply pA | apply pN | apply pD | refine pS ?_ GE473.out) | exact HB.out))) | (with_reducible refine Kd.C_alloc ?_ _) | (with_reducible refine Kd.C_drewN ?_ _) | (with_reducible refine Kd.C_drew ?_))); (case side8 => exact HC0_5.out); rintro e w27 ⟨rfl, hb⟩; have n0_ := AZ.mk (bb_ (g := gb473) (o := .cells #[.int .i64 a0_0, .int .i64 a0_1, .slice A0_2 l0_2.length c0_2, .slice A0_3 l0_3.length c0_3, .slice A0_4 l0_4.length c0_4, .slice A0_5 l0_5.length c0_5] 27 (0, 0)) (by (with_reducible repeat (first | refine bn_ ?_ _ | refine bd_ ?_ | refine ba_ ?_ _)); exact BK473.out) hb); have n1_ := AZ.mk (pT (by repeat (first | (with_reducible first | exact HB.out | apply pA | apply pN | apply pD | refine pS ?_ GE473.out) | exact HB.out)) hb); clear BK473; clear HB; have BK473 := n0_; have HB := n1_; clear n0_ n1_; (try clear hb); (try clear hb2); (try clear hk); (try clear hi)))
   go_meet
   case rel => exact ⟨_, (true), (by first | rfl | (simp; done) | (simp [*]; done)), H', ⟨by first | omega | exact Nat.le_refl _⟩, ⟨by (with_reducible repeat (first | refine bn_ ?_ _ | refine bd_ ?_ | refine ba_ ?_ _)); exact BK473.out⟩, ⟨by repeat (first | (with_reducible first | exact HB.out | apply pA | apply pN | apply pD | refine pS ?_ GE473.out) | exact HB.out)⟩⟩
  subst c11
  have H1 : ((impl_size_Limpl_Push.f l0_3).bind fun t478 => (if t478 = t474 then ((impl_size_LLint64.f l0_4).bind fun t479 => (if t479 = t474 then ((impl_size_Lint64.f l0_5).bind fun t480 => (impl_ValidChecker.j0 k t474 (t480 != t474) a0_0 a0_1 l0_2 l0_3 l0_4 l0_5)) else (impl_ValidChecker.j0 k t474 true a0_0 a0_1 l0_2 l0_3 l0_4 l0_5))) else (impl_ValidChecker.j0 k t474 true a0_0 a0_1 l0_2 l0_3 l0_4 l0_5))) = some r := by rw [if_pos rfl] at H; exact H
  clear H
  have H := H1
  clear H1
  replace H := Option.bind_eq_some_iff.mp H
  obtain ⟨t478, A120, H⟩ := H
  replace H : (if t478 = t474 then ((impl_size_LLint64.f l0_4).bind fun t479 => (if t479 = t474 then ((impl_size_Lint64.f l0_5).bind fun t480 => (impl_ValidChecker.j0 k t474 (t480 != t474) a0_0 a0_1 l0_2 l0_3 l0_4 l0_5)) else (impl_ValidChecker.j0 k t474 true a0_0 a0_1 l0_2 l0_3 l0_4 l0_5))) else (impl_ValidChecker.j0 k t474 true a0_0 a0_1 l0_2 l0_3 l0_4 l0_5)) = some r := H
  have A12 := AZ.mk A120
  clear A120
  by_cases c13 : t478 = t474
  rotate_left
  ·rw [if_neg c13] at H
   have c13b0 : (t478 == t474) = false := beq_eq_false_iff_ne.mpr c13
   have c13b1 : (t478 != t474) = true := bne_iff_ne.mpr c13
   (first | rw [c13b0] | rw [c13b1] | (simp only [i64_w, i32_w]; rw [c13b0]) | skip)
   have H' := AZ.mk H
   clear H
   go_wp2_with (first | ((with_reducible refine gate_callee (f := 54) rfl ?_); refine Zi (some 12) rfl rfl Try.func54 (by kernel_rfl) rfl #[.int .i64 t474, .int .i64 1, .int .i64 40] rfl (by (try simp only [mA, mB, mC]); first | done | rfl | (simp only [lD, lT]; rfl)) ?_; (with_reducible refine (impl_within.calls t474 1 40 true _ A6.out).mono ?_); rintro e w' ⟨rfl, ⟨nd, rfl⟩⟩; refine ⟨_, rfl, ?_⟩; obtain ⟨hcz23_0, hcz23_1, hcz23_2, hcz23_3, hcz23_4, hcz23_5⟩ := c6 BK473.out; obtain ⟨hfz23_0, hfz23_1, hfz23_2, hfz23_3, hfz23_4, hfz23_5⟩ := f6 BK473.out) | (go_at_call 54; (with_reducible refine (impl_within.calls a0_0 1 80 true _ A8.out).mono ?_); rintro e w' ⟨rfl, ⟨nd, rfl⟩⟩) | (go_at_call 98; (with_reducible refine (impl_Checker_isState.calls a0_0 a0_1 _ _ l0_2 _ _ l0_3 _ _ l0_4 _ _ l0_5 a0_1 true _ ?side1 ?side2 ?side3 ?side4 ?side5 ?side6 ?side7 ?side8 A10.out).mono ?_); (case side1 => repeat (first | exact (Kd.C_below HR0_2.out (by repeat (first | (with_reducible first | exact HB.out | apply pA | apply pN | apply pD | refine pS ?_ GE473.out) | exact HB.out))) | (with_reducible refine Kd.C_alloc ?_ _) | (with_reducible refine Kd.C_drewN ?_ _) | (with_reducible refine Kd.C_drew ?_))); (case side2 => exact HC0_2.out); (case side3 => repeat (first | exact (Kd.C_below HR0_3.out (by repeat (first | (with_reducible first | exact HB.out | apply pA | apply pN | apply pD | refine pS ?_ GE473.out) | exact HB.out))) | (with_reducible refine Kd.C_alloc ?_ _) | (with_reducible refine Kd.C_drewN ?_ _) | (with_reducible refine Kd.C_drew ?_))); (case side4 => exact HC0_3.out); (case side5 => repeat (first | exact (Kd.C_below HR0_4.out (by repeat (first | (with_reducible first | exact HB.out | apply pA | apply pN | apply pD | refine pS ?_ GE473.out) | exact HB.out))) | (with_reducible refine Kd.C_alloc ?_ _) | (with_reducible refine Kd.C_drewN ?_ _) | (with_reducible refine Kd.C_drew ?_))); (case side6 => exact HC0_4.out); (case side7 => repeat (first | exact (Kd.C_below HR0_5.out (by repeat (first | (with_reducible first | exact HB.out | apply pA | apply pN | apply pD | refine pS ?_ GE473.out) | exact HB.out))) | (with_reducible refine Kd.C_alloc ?_ _) | (with_reducible refine Kd.C_drewN ?_ _) | (with_reducible refine Kd.C_drew ?_))); (case side8 => exact HC0_5.out); rintro e w24 ⟨rfl, hb⟩; have n0_ := AZ.mk (bb_ (g := gb473) (o := .cells #[.int .i64 a0_0, .int .i64 a0_1, .slice A0_2 l0_2.length c0_2, .slice A0_3 l0_3.length c0_3, .slice A0_4 l0_4.length c0_4, .slice A0_5 l0_5.length c0_5] 27 (0, 0)) (by (with_reducible repeat (first | refine bn_ ?_ _ | refine bd_ ?_ | refine ba_ ?_ _)); exact BK473.out) hb); have n1_ := AZ.mk (pT (by repeat (first | (with_reducible first | exact HB.out | apply pA | apply pN | apply pD | refine pS ?_ GE473.out) | exact HB.out)) hb); clear BK473; clear HB; have BK473 := n0_; have HB := n1_; clear n0_ n1_; (try clear hb); (try clear hb2); (try clear hk); (try clear hi); obtain ⟨hcz25_0, hcz25_1, hcz25_2, hcz25_3, hcz25_4, hcz25_5⟩ := c6 BK473.out; obtain ⟨hfz25_0, hfz25_1, hfz25_2, hfz25_3, hfz25_4, hfz25_5⟩ := f6 BK473.out) | (go_at_call 99; (with_reducible refine (impl_size_Limpl_Push.calls _ _ l0_3 t478 _ ?side1 ?side2 A12.out).mono ?_); (case side1 => repeat (first | exact (Kd.C_below HR0_3.out HB.out) | (with_reducible refine Kd.C_alloc ?_ _) | (with_reducible refine Kd.C_drewN ?_ _) | (with_reducible refine Kd.C_drew ?_))); (case side2 => exact HC0_3.out); rintro e w' ⟨rfl, ⟨nd, rfl⟩⟩))
   go_meet
   case rel => exact ⟨_, (true), (by first | rfl | (simp; done) | (simp [*]; done)), H', ⟨by first | omega | exact Nat.le_refl _⟩, ⟨by (with_reducible repeat (first | refine bn_ ?_ _ | refine bd_ ?_ | refine ba_ ?_ _)); exact BK473.out⟩, ⟨by repeat (first | (with_reducible first | exact HB.out | apply pA | apply pN | apply pD | refine pS ?_ GE473.out) | exact HB.out)⟩⟩
  rw [if_pos c13] at H
  have c13b0 : (t478 == t474) = true := beq_iff_eq.mpr c13
  have c13b1 : (t478 != t474) = false := bne_eq_false_iff_eq.mpr c13
  clear c13
  (first | rw [c13b0] | rw [c13b1] | (simp only [i64_w, i32_w]; rw [c13b0]) | skip)
  replace H := Option.bind_eq_some_iff.mp H
  obtain ⟨t479, A140, H⟩ := H
  replace H : (if t479 = t474 then ((impl_size_Lint64.f l0_5).bind fun t480 => (impl_ValidChecker.j0 k t474 (t480 != t474) a0_0 a0_1 l0_2 l0_3 l0_4 l0_5)) else (impl_ValidChecker.j0 k t474 true a0_0 a0_1 l0_2 l0_3 l0_4 l0_5)) = some r := H
  have A14 := AZ.mk A140
  clear A140
  by_cases c15 : t479 = t474
  rotate_left
  ·rw [if_neg c15] at H
   have c15b0 : (t479 == t474) = false := beq_eq_false_iff_ne.mpr c15
   have c15b1 : (t479 != t474) = true := bne_iff_ne.mpr c15
   have H' := AZ.mk H
   clear H
   go_wp2_with (first | ((with_reducible refine gate_callee (f := 54) rfl ?_); refine Zi (some 12) rfl rfl Try.func54 (by kernel_rfl) rfl #[.int .i64 t474, .int .i64 1, .int .i64 40] rfl (by (try simp only [mA, mB, mC]); first | done | rfl | (simp only [lD, lT]; rfl)) ?_; (with_reducible refine (impl_within.calls t474 1 40 true _ A6.out).mono ?_); rintro e w' ⟨rfl, ⟨nd, rfl⟩⟩; refine ⟨_, rfl, ?_⟩; obtain ⟨hcz20_0, hcz20_1, hcz20_2, hcz20_3, hcz20_4, hcz20_5⟩ := c6 BK473.out; obtain ⟨hfz20_0, hfz20_1, hfz20_2, hfz20_3, hfz20_4, hfz20_5⟩ := f6 BK473.out) | (go_at_call 54; (with_reducible refine (impl_within.calls a0_0 1 80 true _ A8.out).mono ?_); rintro e w' ⟨rfl, ⟨nd, rfl⟩⟩) | (go_at_call 98; (with_reducible refine (impl_Checker_isState.calls a0_0 a0_1 _ _ l0_2 _ _ l0_3 _ _ l0_4 _ _ l0_5 a0_1 true _ ?side1 ?side2 ?side3 ?side4 ?side5 ?side6 ?side7 ?side8 A10.out).mono ?_); (case side1 => repeat (first | exact (Kd.C_below HR0_2.out (by repeat (first | (with_reducible first | exact HB.out | apply pA | apply pN | apply pD | refine pS ?_ GE473.out) | exact HB.out))) | (with_reducible refine Kd.C_alloc ?_ _) | (with_reducible refine Kd.C_drewN ?_ _) | (with_reducible refine Kd.C_drew ?_))); (case side2 => exact HC0_2.out); (case side3 => repeat (first | exact (Kd.C_below HR0_3.out (by repeat (first | (with_reducible first | exact HB.out | apply pA | apply pN | apply pD | refine pS ?_ GE473.out) | exact HB.out))) | (with_reducible refine Kd.C_alloc ?_ _) | (with_reducible refine Kd.C_drewN ?_ _) | (with_reducible refine Kd.C_drew ?_))); (case side4 => exact HC0_3.out); (case side5 => repeat (first | exact (Kd.C_below HR0_4.out (by repeat (first | (with_reducible first | exact HB.out | apply pA | apply pN | apply pD | refine pS ?_ GE473.out) | exact HB.out))) | (with_reducible refine Kd.C_alloc ?_ _) | (with_reducible refine Kd.C_drewN ?_ _) | (with_reducible refine Kd.C_drew ?_))); (case side6 => exact HC0_4.out); (case side7 => repeat (first | exact (Kd.C_below HR0_5.out (by repeat (first | (with_reducible first | exact HB.out | apply pA | apply pN | apply pD | refine pS ?_ GE473.out) | exact HB.out))) | (with_reducible refine Kd.C_alloc ?_ _) | (with_reducible refine Kd.C_drewN ?_ _) | (with_reducible refine Kd.C_drew ?_))); (case side8 => exact HC0_5.out); rintro e w21 ⟨rfl, hb⟩; have n0_ := AZ.mk (bb_ (g := gb473) (o := .cells #[.int .i64 a0_0, .int .i64 a0_1, .slice A0_2 l0_2.length c0_2, .slice A0_3 l0_3.length c0_3, .slice A0_4 l0_4.length c0_4, .slice A0_5 l0_5.length c0_5] 27 (0, 0)) (by (with_reducible repeat (first | refine bn_ ?_ _ | refine bd_ ?_ | refine ba_ ?_ _)); exact BK473.out) hb); have n1_ := AZ.mk (pT (by repeat (first | (with_reducible first | exact HB.out | apply pA | apply pN | apply pD | refine pS ?_ GE473.out) | exact HB.out)) hb); clear BK473; clear HB; have BK473 := n0_; have HB := n1_; clear n0_ n1_; (try clear hb); (try clear hb2); (try clear hk); (try clear hi); obtain ⟨hcz22_0, hcz22_1, hcz22_2, hcz22_3, hcz22_4, hcz22_5⟩ := c6 BK473.out; obtain ⟨hfz22_0, hfz22_1, hfz22_2, hfz22_3, hfz22_4, hfz22_5⟩ := f6 BK473.out) | (go_at_call 99; (with_reducible refine (impl_size_Limpl_Push.calls _ _ l0_3 t478 _ ?side1 ?side2 A12.out).mono ?_); (case side1 => repeat (first | exact (Kd.C_below HR0_3.out HB.out) | (with_reducible refine Kd.C_alloc ?_ _) | (with_reducible refine Kd.C_drewN ?_ _) | (with_reducible refine Kd.C_drew ?_))); (case side2 => exact HC0_3.out); rintro e w' ⟨rfl, ⟨nd, rfl⟩⟩) | (go_at_call 100; (with_reducible refine (impl_size_LLint64.calls _ _ l0_4 t479 _ ?side1 ?side2 A14.out).mono ?_); (case side1 => repeat (first | exact (Kd.C_below HR0_4.out (by repeat (first | (with_reducible first | exact HB.out | apply pA | apply pN | apply pD | refine pS ?_ GE473.out) | exact HB.out))) | (with_reducible refine Kd.C_alloc ?_ _) | (with_reducible refine Kd.C_drewN ?_ _) | (with_reducible refine Kd.C_drew ?_))); (case side2 => exact HC0_4.out); rintro e w' ⟨rfl, ⟨nd, rfl⟩⟩))
   go_meet
   case rel => exact ⟨_, (true), (by first | rfl | (simp; done) | (simp [*]; done)), H', ⟨by first | omega | exact Nat.le_refl _⟩, ⟨by (with_reducible repeat (first | refine bn_ ?_ _ | refine bd_ ?_ | refine ba_ ?_ _)); exact BK473.out⟩, ⟨by repeat (first | (with_reducible first | exact HB.out | apply pA | apply pN | apply pD | refine pS ?_ GE473.out) | exact HB.out)⟩⟩
  rw [if_pos c15] at H
  have c15b0 : (t479 == t474) = true := beq_iff_eq.mpr c15
  have c15b1 : (t479 != t474) = false := bne_eq_false_iff_eq.mpr c15
  clear c15
  replace H := Option.bind_eq_some_iff.mp H
  obtain ⟨t480, A160, H⟩ := H
  replace H : (impl_ValidChecker.j0 k t474 (t480 != t474) a0_0 a0_1 l0_2 l0_3 l0_4 l0_5) = some r := H
  have A16 := AZ.mk A160
  clear A160
  have H' := AZ.mk H
  clear H
  go_wp2_with (first | ((with_reducible refine gate_callee (f := 54) rfl ?_); refine Zi (some 12) rfl rfl Try.func54 (by kernel_rfl) rfl #[.int .i64 t474, .int .i64 1, .int .i64 40] rfl (by (try simp only [mA, mB, mC]); first | done | rfl | (simp only [lD, lT]; rfl)) ?_; (with_reducible refine (impl_within.calls t474 1 40 true _ A6.out).mono ?_); rintro e w' ⟨rfl, ⟨nd, rfl⟩⟩; refine ⟨_, rfl, ?_⟩; obtain ⟨hcz17_0, hcz17_1, hcz17_2, hcz17_3, hcz17_4, hcz17_5⟩ := c6 BK473.out; obtain ⟨hfz17_0, hfz17_1, hfz17_2, hfz17_3, hfz17_4, hfz17_5⟩ := f6 BK473.out) | (go_at_call 54; (with_reducible refine (impl_within.calls a0_0 1 80 true _ A8.out).mono ?_); rintro e w' ⟨rfl, ⟨nd, rfl⟩⟩) | (go_at_call 98; (with_reducible refine (impl_Checker_isState.calls a0_0 a0_1 _ _ l0_2 _ _ l0_3 _ _ l0_4 _ _ l0_5 a0_1 true _ ?side1 ?side2 ?side3 ?side4 ?side5 ?side6 ?side7 ?side8 A10.out).mono ?_); (case side1 => repeat (first | exact (Kd.C_below HR0_2.out (by repeat (first | (with_reducible first | exact HB.out | apply pA | apply pN | apply pD | refine pS ?_ GE473.out) | exact HB.out))) | (with_reducible refine Kd.C_alloc ?_ _) | (with_reducible refine Kd.C_drewN ?_ _) | (with_reducible refine Kd.C_drew ?_))); (case side2 => exact HC0_2.out); (case side3 => repeat (first | exact (Kd.C_below HR0_3.out (by repeat (first | (with_reducible first | exact HB.out | apply pA | apply pN | apply pD | refine pS ?_ GE473.out) | exact HB.out))) | (with_reducible refine Kd.C_alloc ?_ _) | (with_reducible refine Kd.C_drewN ?_ _) | (with_reducible refine Kd.C_drew ?_))); (case side4 => exact HC0_3.out); (case side5 => repeat (first | exact (Kd.C_below HR0_4.out (by repeat (first | (with_reducible first | exact HB.out | apply pA | apply pN | apply pD | refine pS ?_ GE473.out) | exact HB.out))) | (with_reducible refine Kd.C_alloc ?_ _) | (with_reducible refine Kd.C_drewN ?_ _) | (with_reducible refine Kd.C_drew ?_))); (case side6 => exact HC0_4.out); (case side7 => repeat (first | exact (Kd.C_below HR0_5.out (by repeat (first | (with_reducible first | exact HB.out | apply pA | apply pN | apply pD | refine pS ?_ GE473.out) | exact HB.out))) | (with_reducible refine Kd.C_alloc ?_ _) | (with_reducible refine Kd.C_drewN ?_ _) | (with_reducible refine Kd.C_drew ?_))); (case side8 => exact HC0_5.out); rintro e w18 ⟨rfl, hb⟩; have n0_ := AZ.mk (bb_ (g := gb473) (o := .cells #[.int .i64 a0_0, .int .i64 a0_1, .slice A0_2 l0_2.length c0_2, .slice A0_3 l0_3.length c0_3, .slice A0_4 l0_4.length c0_4, .slice A0_5 l0_5.length c0_5] 27 (0, 0)) (by (with_reducible repeat (first | refine bn_ ?_ _ | refine bd_ ?_ | refine ba_ ?_ _)); exact BK473.out) hb); have n1_ := AZ.mk (pT (by repeat (first | (with_reducible first | exact HB.out | apply pA | apply pN | apply pD | refine pS ?_ GE473.out) | exact HB.out)) hb); clear BK473; clear HB; have BK473 := n0_; have HB := n1_; clear n0_ n1_; (try clear hb); (try clear hb2); (try clear hk); (try clear hi); obtain ⟨hcz19_0, hcz19_1, hcz19_2, hcz19_3, hcz19_4, hcz19_5⟩ := c6 BK473.out; obtain ⟨hfz19_0, hfz19_1, hfz19_2, hfz19_3, hfz19_4, hfz19_5⟩ := f6 BK473.out) | (go_at_call 99; (with_reducible refine (impl_size_Limpl_Push.calls _ _ l0_3 t478 _ ?side1 ?side2 A12.out).mono ?_); (case side1 => repeat (first | exact (Kd.C_below HR0_3.out HB.out) | (with_reducible refine Kd.C_alloc ?_ _) | (with_reducible refine Kd.C_drewN ?_ _) | (with_reducible refine Kd.C_drew ?_))); (case side2 => exact HC0_3.out); rintro e w' ⟨rfl, ⟨nd, rfl⟩⟩) | (go_at_call 100; (with_reducible refine (impl_size_LLint64.calls _ _ l0_4 t479 _ ?side1 ?side2 A14.out).mono ?_); (case side1 => repeat (first | exact (Kd.C_below HR0_4.out (by repeat (first | (with_reducible first | exact HB.out | apply pA | apply pN | apply pD | refine pS ?_ GE473.out) | exact HB.out))) | (with_reducible refine Kd.C_alloc ?_ _) | (with_reducible refine Kd.C_drewN ?_ _) | (with_reducible refine Kd.C_drew ?_))); (case side2 => exact HC0_4.out); rintro e w' ⟨rfl, ⟨nd, rfl⟩⟩) | (go_at_call 101; (with_reducible refine (impl_size_Lint64.calls _ _ l0_5 t480 _ ?side1 ?side2 A16.out).mono ?_); (case side1 => repeat (first | exact (Kd.C_below HR0_5.out (by repeat (first | (with_reducible first | exact HB.out | apply pA | apply pN | apply pD | refine pS ?_ GE473.out) | exact HB.out))) | (with_reducible refine Kd.C_alloc ?_ _) | (with_reducible refine Kd.C_drewN ?_ _) | (with_reducible refine Kd.C_drew ?_))); (case side2 => exact HC0_5.out); rintro e w' ⟨rfl, ⟨nd, rfl⟩⟩))
  go_meet
  case rel => exact ⟨_, ((t480 != t474)), (by first | rfl | (simp; done) | (simp [*]; done)), H', ⟨by first | omega | exact Nat.le_refl _⟩, ⟨by (with_reducible repeat (first | refine bn_ ?_ _ | refine bd_ ?_ | refine ba_ ?_ _)); exact BK473.out⟩, ⟨by repeat (first | (with_reducible first | exact HB.out | apply pA | apply pN | apply pD | refine pS ?_ GE473.out) | exact HB.out)⟩⟩
 case rest =>
  clear HC3
  obtain ⟨kq, x47_2, rfl, HA, HJ2, BK473, HB⟩ := hcut
  cases kq with
  | zero => exact absurd HA.out (by simp [impl_ValidChecker.j0])
  | succ kj2 =>
   have H := HA.out
   clear HA
   simp only [impl_ValidChecker.j0] at H
   by_cases c29 : x47_2 = true
   ·subst c29
    have H1 : (some false) = some r := by rw [if_pos rfl] at H; exact H
    clear H
    have H := H1
    clear H1
    obtain rfl := oJ H
    go_wp2
    go_ret
    exact ⟨by first | rfl | (simp [Ze, Zf] <;> rfl) | (simp [*, Ze, Zf] <;> rfl), by repeat (first | (with_reducible first | exact HB.out | apply pA | apply pN | apply pD | refine pS ?_ GE473.out) | exact HB.out)⟩
   replace c29 := Bool.eq_false_iff.mpr c29
   subst c29
   have H1 : (impl_ValidChecker.l0 kj2 t474 0 a0_0 a0_1 l0_2 l0_3 l0_4 l0_5) = some r := by rw [if_neg (show ¬ (false = true) by decide)] at H; exact H
   clear H
   have H := H1
   clear H1
   have H' := AZ.mk H
   clear H
   go_wp2
   go_loopg [50] kj2 (fun kq v50 w' => ∃ (x50_2 : Int), v50 = .int .i64 x50_2 ∧ AZ (impl_ValidChecker.l0 kq t474 x50_2 a0_0 a0_1 l0_2 l0_3 l0_4 l0_5 = some r) ∧ AZ (kq ≤ kj2) ∧ AZ (w'.heap[gb473]? = some (.cells #[.int .i64 a0_0, .int .i64 a0_1, (.slice A0_2 l0_2.length c0_2), (.slice A0_3 l0_3.length c0_3), (.slice A0_4 l0_4.length c0_4), (.slice A0_5 l0_5.length c0_5)] 27 (0, 0))) ∧ AZ (Below w.heap.size w w'))
   case atStart => exact ⟨(0), (by first | rfl | (simp; done) | (simp [*]; done)), H', ⟨Nat.le_refl _⟩, ⟨by (with_reducible repeat (first | refine bn_ ?_ _ | refine bd_ ?_ | refine ba_ ?_ _)); exact BK473.out⟩, ⟨by repeat (first | (with_reducible first | exact HB.out | apply pA | apply pN | apply pD | refine pS ?_ GE473.out) | exact HB.out)⟩⟩
   case round =>
    clear H'
    obtain ⟨x50_2, rfl, HA, HK2, BK473, HB⟩ := hrel
    cases gk with
    | zero => exact absurd HA.out (by simp [impl_ValidChecker.l0])
    | succ k2 =>
     have H := HA.out
     clear HA
     simp only [impl_ValidChecker.l0] at H
     by_cases c30 : x50_2 < t474
     rotate_left
     ·rw [if_neg c30] at H
      have c30b0 : decide (x50_2 < t474) = false := dF c30
      clear c30
      obtain rfl := oJ H
      go_wp2
      go_ret
      exact ⟨by first | rfl | (simp [Ze, Zf] <;> rfl) | (simp [*, Ze, Zf] <;> rfl), by repeat (first | (with_reducible first | exact HB.out | apply pA | apply pN | apply pD | refine pS ?_ GE473.out) | exact HB.out)⟩
     rw [if_pos c30] at H
     have c30b0 : decide (x50_2 < t474) = true := dT c30
     clear c30
     have HC31 := AZ.mk H
     clear H
     go_upto_region 8 with (fail)
     go_cut [78] (fun v78 wc => ∃ (kq : Nat) (x78_30 : Bool), v78 = .bool x78_30 ∧ AZ (impl_ValidChecker.j2 kq x50_2 t474 x50_2 x78_30 a0_0 a0_1 l0_2 l0_3 l0_4 l0_5 = some r) ∧ AZ (kq ≤ k2) ∧ AZ (wc.heap[gb473]? = some (.cells #[.int .i64 a0_0, .int .i64 a0_1, (.slice A0_2 l0_2.length c0_2), (.slice A0_3 l0_3.length c0_3), (.slice A0_4 l0_4.length c0_4), (.slice A0_5 l0_5.length c0_5)] 27 (0, 0))) ∧ AZ (Below w.heap.size w wc))
     case first =>
      have H := HC31.out
      clear HC31
      by_cases c32 : 0 ≤ x50_2
      rotate_left
      ·rw [if_neg c32] at H
       exact absurd H (by simp)
      rw [if_pos c32] at H
      have c32b0 : decide (0 ≤ x50_2) = true := dT c32
      clear c32
      (first | rw [c32b0] | rw [c32b1] | (simp only [i64_w, i32_w]; rw [c32b0]) | skip)
      by_cases c33 : x50_2 < (l0_3.length : Int)
      rotate_left
      ·rw [if_neg c33] at H
       exact absurd H (by simp)
      rw [if_pos c33] at H
      have c33b0 : decide (x50_2 < (l0_3.length : Int)) = true := dT c33
      clear c33
      by_cases c34 : ((Zd l0_3 x50_2).length : Int) = 2
      rotate_left
      ·rw [if_neg c34] at H
       have c34b0 : (((Zd l0_3 x50_2).length : Int) == 2) = false := beq_eq_false_iff_ne.mpr c34
       have c34b1 : (((Zd l0_3 x50_2).length : Int) != 2) = true := bne_iff_ne.mpr c34
       have H' := AZ.mk H
       clear H
       obtain ⟨hcz42_0, hcz42_1, hcz42_2, hcz42_3, hcz42_4, hcz42_5⟩ := c6 BK473.out
       obtain ⟨hfz42_0, hfz42_1, hfz42_2, hfz42_3, hfz42_4, hfz42_5⟩ := f6 BK473.out
       have p481 : 0 ≤ (x50_2 : Int) := oT (by first | (with_reducible assumption) | assumption)
       have q481 : x50_2 < (l0_3.length : Int) := oT (by first | (with_reducible assumption) | assumption)
       obtain ⟨ad481, A481_0, c481_0, e481, hx481_0, hl481_0, hi481_0⟩ := at_L3 HR0_3.out x50_2 p481 q481
       cases e481
       replace hx481_0 := (HB.out.cell (World.block_lt_of_cell? w _ hx481_0)).trans hx481_0
       have HR481_0 := AZ.mk hi481_0
       have HC481_0 := AZ.mk hl481_0
       clear hi481_0 hl481_0
       replace p481 := eq_true p481
       replace q481 := eq_true q481
       go_wp2
       go_meet
       case rel => exact ⟨_, (true), (by first | rfl | (simp; done) | (simp [*]; done)), H', ⟨by have := HJ2.out; have := HK2.out; first | omega | exact Nat.le_refl _⟩, ⟨by (with_reducible repeat (first | refine bn_ ?_ _ | refine bd_ ?_ | refine ba_ ?_ _)); exact BK473.out⟩, ⟨by repeat (first | (with_reducible first | exact HB.out | apply pA | apply pN | apply pD | refine pS ?_ GE473.out) | exact HB.out)⟩⟩
      rw [if_pos c34] at H
      have c34b0 : (((Zd l0_3 x50_2).length : Int) == 2) = true := beq_iff_eq.mpr c34
      have c34b1 : (((Zd l0_3 x50_2).length : Int) != 2) = false := bne_eq_false_iff_eq.mpr c34
      clear c34
      by_cases c35 : x50_2 < (l0_4.length : Int)
      rotate_left
      ·rw [if_neg c35] at H
       exact absurd H (by simp)
      rw [if_pos c35] at H
      have c35b0 : decide (x50_2 < (l0_4.length : Int)) = true := dT c35
      clear c35
      by_cases c36 : ((rd_L5 l0_4 x50_2).length : Int) = 2
      rotate_left
      ·rw [if_neg c36] at H
       have c36b0 : (((rd_L5 l0_4 x50_2).length : Int) == 2) = false := beq_eq_false_iff_ne.mpr c36
       have c36b1 : (((rd_L5 l0_4 x50_2).length : Int) != 2) = true := bne_iff_ne.mpr c36
       have H' := AZ.mk H
       clear H
       obtain ⟨hcz41_0, hcz41_1, hcz41_2, hcz41_3, hcz41_4, hcz41_5⟩ := c6 BK473.out
       obtain ⟨hfz41_0, hfz41_1, hfz41_2, hfz41_3, hfz41_4, hfz41_5⟩ := f6 BK473.out
       have p481 : 0 ≤ (x50_2 : Int) := oT (by first | (with_reducible assumption) | assumption)
       have q481 : x50_2 < (l0_3.length : Int) := oT (by first | (with_reducible assumption) | assumption)
       obtain ⟨ad481, A481_0, c481_0, e481, hx481_0, hl481_0, hi481_0⟩ := at_L3 HR0_3.out x50_2 p481 q481
       cases e481
       replace hx481_0 := (HB.out.cell (World.block_lt_of_cell? w _ hx481_0)).trans hx481_0
       have HR481_0 := AZ.mk hi481_0
       have HC481_0 := AZ.mk hl481_0
       clear hi481_0 hl481_0
       replace p481 := eq_true p481
       replace q481 := eq_true q481
       have p482 : 0 ≤ (x50_2 : Int) := oT (by first | (with_reducible assumption) | assumption)
       have q482 : x50_2 < (l0_4.length : Int) := oT (by first | (with_reducible assumption) | assumption)
       obtain ⟨ad482, A482_0, c482_0, e482, hx482_0, hl482_0, hi482_0⟩ := at_L5 HR0_4.out x50_2 p482 q482
       cases e482
       replace hx482_0 := (HB.out.cell (World.block_lt_of_cell? w _ hx482_0)).trans hx482_0
       have HR482_0 := AZ.mk hi482_0
       have HC482_0 := AZ.mk hl482_0
       clear hi482_0 hl482_0
       replace p482 := eq_true p482
       replace q482 := eq_true q482
       go_wp2
       go_meet
       case rel => exact ⟨_, (true), (by first | rfl | (simp; done) | (simp [*]; done)), H', ⟨by have := HJ2.out; have := HK2.out; first | omega | exact Nat.le_refl _⟩, ⟨by (with_reducible repeat (first | refine bn_ ?_ _ | refine bd_ ?_ | refine ba_ ?_ _)); exact BK473.out⟩, ⟨by repeat (first | (with_reducible first | exact HB.out | apply pA | apply pN | apply pD | refine pS ?_ GE473.out) | exact HB.out)⟩⟩
      rw [if_pos c36] at H
      have c36b0 : (((rd_L5 l0_4 x50_2).length : Int) == 2) = true := beq_iff_eq.mpr c36
      have c36b1 : (((rd_L5 l0_4 x50_2).length : Int) != 2) = false := bne_eq_false_iff_eq.mpr c36
      clear c36
      by_cases c37 : x50_2 < (l0_5.length : Int)
      rotate_left
      ·rw [if_neg c37] at H
       exact absurd H (by simp)
      rw [if_pos c37] at H
      have c37b0 : decide (x50_2 < (l0_5.length : Int)) = true := dT c37
      clear c37
      replace H := Option.bind_eq_some_iff.mp H
      obtain ⟨t484, A380, H⟩ := H
      replace H : (impl_ValidChecker.j2 k2 x50_2 t474 x50_2 (!t484) a0_0 a0_1 l0_2 l0_3 l0_4 l0_5) = some r := H
      have A38 := AZ.mk A380
      clear A380
      have H' := AZ.mk H
      clear H
      obtain ⟨hcz39_0, hcz39_1, hcz39_2, hcz39_3, hcz39_4, hcz39_5⟩ := c6 BK473.out
      obtain ⟨hfz39_0, hfz39_1, hfz39_2, hfz39_3, hfz39_4, hfz39_5⟩ := f6 BK473.out
      have p481 : 0 ≤ (x50_2 : Int) := oT (by first | (with_reducible assumption) | assumption)
      have q481 : x50_2 < (l0_3.length : Int) := oT (by first | (with_reducible assumption) | assumption)
      obtain ⟨ad481, A481_0, c481_0, e481, hx481_0, hl481_0, hi481_0⟩ := at_L3 HR0_3.out x50_2 p481 q481
      cases e481
      replace hx481_0 := (HB.out.cell (World.block_lt_of_cell? w _ hx481_0)).trans hx481_0
      have HR481_0 := AZ.mk hi481_0
      have HC481_0 := AZ.mk hl481_0
      clear hi481_0 hl481_0
      replace p481 := eq_true p481
      replace q481 := eq_true q481
      have p482 : 0 ≤ (x50_2 : Int) := oT (by first | (with_reducible assumption) | assumption)
      have q482 : x50_2 < (l0_4.length : Int) := oT (by first | (with_reducible assumption) | assumption)
      obtain ⟨ad482, A482_0, c482_0, e482, hx482_0, hl482_0, hi482_0⟩ := at_L5 HR0_4.out x50_2 p482 q482
      cases e482
      replace hx482_0 := (HB.out.cell (World.block_lt_of_cell? w _ hx482_0)).trans hx482_0
      have HR482_0 := AZ.mk hi482_0
      have HC482_0 := AZ.mk hl482_0
      clear hi482_0 hl482_0
      replace p482 := eq_true p482
      replace q482 := eq_true q482
      have p483 : 0 ≤ (x50_2 : Int) := oT (by first | (with_reducible assumption) | assumption)
      have q483 : x50_2 < (l0_5.length : Int) := oT (by first | (with_reducible assumption) | assumption)
      obtain ⟨ad483, A483_0, c483_0, e483, hx483_0, hl483_0, hi483_0⟩ := at_L4 HR0_5.out x50_2 p483 q483
      cases e483
      replace hx483_0 := (HB.out.cell (World.block_lt_of_cell? w _ hx483_0)).trans hx483_0
      have HR483_0 := AZ.mk hi483_0
      have HC483_0 := AZ.mk hl483_0
      clear hi483_0 hl483_0
      replace p483 := eq_true p483
      replace q483 := eq_true q483
      go_wp2_with (first | (go_at_call 102; (with_reducible refine (impl_ValidChecker_1_c.calls k2 _ _ (rd_L4 l0_5 x50_2) 2 gb473 a0_0 a0_1 A0_2 c0_2 l0_2 (some ad481) c0_3 l0_3 (some ad482) c0_4 l0_4 (some ad483) c0_5 l0_5 t484 _ ?side1 ?side2 ?side3 ?side4 ?side5 ?side6 ?side7 ?side8 ?side9 ?side10 ?side11 A38.out).mono ?_); (case side1 => repeat (first | exact (Kd.C_below HR483_0.out HB.out) | (with_reducible refine Kd.C_alloc ?_ _) | (with_reducible refine Kd.C_drewN ?_ _) | (with_reducible refine Kd.C_drew ?_))); (case side2 => exact HC483_0.out); (case side3 => repeat (first | exact (Kd.C_below HR0_2.out HB.out) | (with_reducible refine Kd.C_alloc ?_ _) | (with_reducible refine Kd.C_drewN ?_ _) | (with_reducible refine Kd.C_drew ?_))); (case side4 => exact HC0_2.out); (case side5 => repeat (first | exact (Kd.C_below HR0_3.out HB.out) | (with_reducible refine Kd.C_alloc ?_ _) | (with_reducible refine Kd.C_drewN ?_ _) | (with_reducible refine Kd.C_drew ?_))); (case side6 => exact HC0_3.out); (case side7 => repeat (first | exact (Kd.C_below HR0_4.out HB.out) | (with_reducible refine Kd.C_alloc ?_ _) | (with_reducible refine Kd.C_drewN ?_ _) | (with_reducible refine Kd.C_drew ?_))); (case side8 => exact HC0_4.out); (case side9 => repeat (first | exact (Kd.C_below HR0_5.out HB.out) | (with_reducible refine Kd.C_alloc ?_ _) | (with_reducible refine Kd.C_drewN ?_ _) | (with_reducible refine Kd.C_drew ?_))); (case side10 => exact HC0_5.out); (case side11 => exact (by (with_reducible repeat (first | refine bn_ ?_ _ | refine bd_ ?_ | refine ba_ ?_ _)); exact BK473.out)); rintro e w40 ⟨rfl, hb⟩; have n0_ := AZ.mk (bb_ (g := gb473) (o := .cells #[.int .i64 a0_0, .int .i64 a0_1, .slice A0_2 l0_2.length c0_2, .slice (some ad481) l0_3.length c0_3, .slice (some ad482) l0_4.length c0_4, .slice (some ad483) l0_5.length c0_5] 27 (0, 0)) (by (with_reducible repeat (first | refine bn_ ?_ _ | refine bd_ ?_ | refine ba_ ?_ _)); exact BK473.out) hb); have n1_ := AZ.mk (pT (by repeat (first | (with_reducible first | exact HB.out | apply pA | apply pN | apply pD | refine pS ?_ GE473.out) | exact HB.out)) hb); clear BK473; clear HB; have BK473 := n0_; have HB := n1_; clear n0_ n1_; (try clear hb); (try clear hb2); (try clear hk); (try clear hi)))
      go_meet
      case rel => exact ⟨_, (!t484), (by first | rfl | (simp; done) | (simp [*]; done)), H', ⟨by have := HJ2.out; have := HK2.out; first | omega | exact Nat.le_refl _⟩, ⟨by (with_reducible repeat (first | refine bn_ ?_ _ | refine bd_ ?_ | refine ba_ ?_ _)); exact BK473.out⟩, ⟨by repeat (first | (with_reducible first | exact HB.out | apply pA | apply pN | apply pD | refine pS ?_ GE473.out) | exact HB.out)⟩⟩
     case rest =>
      clear HC31
      obtain ⟨kq, x78_30, rfl, HA, HJ30, BK473, HB⟩ := hcut
      cases kq with
      | zero => exact absurd HA.out (by simp [impl_ValidChecker.j2])
      | succ kj30 =>
       have H := HA.out
       clear HA
       simp only [impl_ValidChecker.j2] at H
       by_cases c43 : x78_30 = true
       ·subst c43
        have H1 : (some false) = some r := by rw [if_pos rfl] at H; exact H
        clear H
        have H := H1
        clear H1
        obtain rfl := oJ H
        go_wp2
        go_ret
        exact ⟨by first | rfl | (simp [Ze, Zf] <;> rfl) | (simp [*, Ze, Zf] <;> rfl), by repeat (first | (with_reducible first | exact HB.out | apply pA | apply pN | apply pD | refine pS ?_ GE473.out) | exact HB.out)⟩
       replace c43 := Bool.eq_false_iff.mpr c43
       subst c43
       have H1 : (impl_ValidChecker.l1 kj30 x50_2 t474 x50_2 0 a0_0 a0_1 l0_2 l0_3 l0_4 l0_5) = some r := by rw [if_neg (show ¬ (false = true) by decide)] at H; exact H
       clear H
       have H := H1
       clear H1
       have H' := AZ.mk H
       clear H
       go_wp2
       go_loopg [79] kj30 (fun kq v79 w' => ∃ (x79_4 : Int), v79 = .int .i64 x79_4 ∧ AZ (impl_ValidChecker.l1 kq x50_2 t474 x50_2 x79_4 a0_0 a0_1 l0_2 l0_3 l0_4 l0_5 = some r) ∧ AZ (kq ≤ kj30) ∧ AZ (w'.heap[gb473]? = some (.cells #[.int .i64 a0_0, .int .i64 a0_1, (.slice A0_2 l0_2.length c0_2), (.slice A0_3 l0_3.length c0_3), (.slice A0_4 l0_4.length c0_4), (.slice A0_5 l0_5.length c0_5)] 27 (0, 0))) ∧ AZ (Below w.heap.size w w'))
       case atStart => exact ⟨(0), (by first | rfl | (simp; done) | (simp [*]; done)), H', ⟨Nat.le_refl _⟩, ⟨by (with_reducible repeat (first | refine bn_ ?_ _ | refine bd_ ?_ | refine ba_ ?_ _)); exact BK473.out⟩, ⟨by repeat (first | (with_reducible first | exact HB.out | apply pA | apply pN | apply pD | refine pS ?_ GE473.out) | exact HB.out)⟩⟩
       case round =>
        clear H'
        obtain ⟨x79_4, rfl, HA, HK4, BK473, HB⟩ := hrel
        cases gk with
        | zero => exact absurd HA.out (by simp [impl_ValidChecker.l1])
        | succ k4 =>
         have H := HA.out
         clear HA
         simp only [impl_ValidChecker.l1] at H
         by_cases c44 : x79_4 < 2
         rotate_left
         ·rw [if_neg c44] at H
          have c44b0 : decide (x79_4 < 2) = false := dF c44
          clear c44
          have H' := AZ.mk H
          clear H
          go_wp2
          go_roundg k4
          case measure => have := HJ2.out; have := HK2.out; have := HJ30.out; have := HK4.out; omega
          case rel => exact ⟨(wrap64 (x50_2 + 1)), (by first | rfl | (simp; done) | (simp [*]; done)), H', ⟨by have := HJ2.out; have := HK2.out; have := HJ30.out; have := HK4.out; omega⟩, ⟨by (with_reducible repeat (first | refine bn_ ?_ _ | refine bd_ ?_ | refine ba_ ?_ _)); exact BK473.out⟩, ⟨by repeat (first | (with_reducible first | exact HB.out | apply pA | apply pN | apply pD | refine pS ?_ GE473.out) | exact HB.out)⟩⟩
         rw [if_pos c44] at H
         have c44b0 : decide (x79_4 < 2) = true := dT c44
         clear c44
         by_cases c45 : 0 ≤ x50_2
         rotate_left
         ·rw [if_neg c45] at H
          exact absurd H (by simp)
         rw [if_pos c45] at H
         have c45b0 : decide (0 ≤ x50_2) = true := dT c45
         clear c45
         by_cases c46 : x50_2 < (l0_3.length : Int)
         rotate_left
         ·rw [if_neg c46] at H
          exact absurd H (by simp)
         rw [if_pos c46] at H
         have c46b0 : decide (x50_2 < (l0_3.length : Int)) = true := dT c46
         clear c46
         by_cases c47 : 0 ≤ x79_4
         rotate_left
         ·rw [if_neg c47] at H
          exact absurd H (by simp)
         rw [if_pos c47] at H
         have c47b0 : decide (0 ≤ x79_4) = true := dT c47
         clear c47
         by_cases c48 : x79_4 < ((Zd l0_3 x50_2).length : Int)
         rotate_left
         ·rw [if_neg c48] at H
          exact absurd H (by simp)
         rw [if_pos c48] at H
         have c48b0 : decide (x79_4 < ((Zd l0_3 x50_2).length : Int)) = true := dT c48
         clear c48
         replace H := Option.bind_eq_some_iff.mp H
         obtain ⟨t488, A490, H⟩ := H
         replace H : (if t488 = true then ((impl_Checker_isMark.f a0_0 a0_1 l0_2 l0_3 l0_4 l0_5 ((Zb (Zd l0_3 x50_2) x79_4).f1)).bind fun t489 => (if t489 = true then (if x50_2 < (l0_4.length : Int) then (if x79_4 < ((rd_L5 l0_4 x50_2).length : Int) then ((impl_ValidChecker_1_c.f k4 (rd_L4 (rd_L5 l0_4 x50_2) x79_4) (wrap64 (a0_0 + 1)) a0_0 a0_1 l0_2 l0_3 l0_4 l0_5).bind fun t492 => (if t492 = true then (impl_ValidChecker.l1 k4 x50_2 t474 x50_2 (wrap64 (x79_4 + 1)) a0_0 a0_1 l0_2 l0_3 l0_4 l0_5) else (some false))) else (none)) else (none)) else (some false))) else (some false)) = some r := H
         have A49 := AZ.mk A490
         clear A490
         by_cases c50 : t488 = true
         rotate_left
         ·replace c50 := Bool.eq_false_iff.mpr c50
          subst c50
          have H1 : (some false) = some r := by rw [if_neg (show ¬ (false = true) by decide)] at H; exact H
          clear H
          have H := H1
          clear H1
          obtain rfl := oJ H
          obtain ⟨hcz83_0, hcz83_1, hcz83_2, hcz83_3, hcz83_4, hcz83_5⟩ := c6 BK473.out
          obtain ⟨hfz83_0, hfz83_1, hfz83_2, hfz83_3, hfz83_4, hfz83_5⟩ := f6 BK473.out
          have p485 : 0 ≤ (x50_2 : Int) := oT (by first | (with_reducible assumption) | assumption)
          have q485 : x50_2 < (l0_3.length : Int) := oT (by first | (with_reducible assumption) | assumption)
          obtain ⟨ad485, A485_0, c485_0, e485, hx485_0, hl485_0, hi485_0⟩ := at_L3 HR0_3.out x50_2 p485 q485
          cases e485
          replace hx485_0 := (HB.out.cell (World.block_lt_of_cell? w _ hx485_0)).trans hx485_0
          have HR485_0 := AZ.mk hi485_0
          have HC485_0 := AZ.mk hl485_0
          clear hi485_0 hl485_0
          replace p485 := eq_true p485
          replace q485 := eq_true q485
          have p486 : 0 ≤ (x79_4 : Int) := oT (by first | (with_reducible assumption) | assumption)
          have q486 : x79_4 < ((Zd l0_3 x50_2).length : Int) := oT (by first | (with_reducible assumption) | assumption)
          obtain ⟨ad486, e486, hx486_0, hx486_1⟩ := at_T47 HR485_0.out x79_4 p486 q486
          cases e486
          replace hx486_0 := (HB.out.cell (World.block_lt_of_cell? w _ hx486_0)).trans hx486_0
          replace hx486_1 := (HB.out.cell (World.block_lt_of_cell? w _ hx486_1)).trans hx486_1
          replace p486 := eq_true p486
          replace q486 := eq_true q486
          try go_wp2_with (first | ((with_reducible refine Zc (N := 7) rfl ?_); (try (refine gate_guard (by rfl) ?_; dsimp only)); refine Zh ?hg (N := 7) ?hd (cs := #[.int .i64 0, .int .i64 0]) (t := 47) ?hr ?_; (case hd => rfl); (case hg => rfl); (case hr => first | (go_simp; done) | (go_simp; rfl)); intro gb487 hg w84 hbox hb; have n0_ := AZ.mk (bb_ (g := gb473) (o := .cells #[.int .i64 a0_0, .int .i64 a0_1, .slice A0_2 l0_2.length c0_2, .slice (some ad485) l0_3.length c0_3, .slice A0_4 l0_4.length c0_4, .slice A0_5 l0_5.length c0_5] 27 (0, 0)) (by (with_reducible repeat (first | refine bn_ ?_ _ | refine bd_ ?_ | refine ba_ ?_ _)); exact BK473.out) hb); have n1_ := AZ.mk (pT (by repeat (first | (with_reducible first | exact HB.out | apply pA | apply pN | apply pD | refine pS ?_ GE473.out) | exact HB.out)) hb); have n2_ := AZ.mk (hbox); have n3_ := AZ.mk ((by rw [hg]; exact (pZ (by repeat (first | (with_reducible first | exact HB.out | apply pA | apply pN | apply pD | refine pS ?_ GE473.out) | exact HB.out))) : w.heap.size ≤ gb487)); have n4_ := AZ.mk ((by rw [hg]; exact (pZ (by repeat (first | (with_reducible first | exact HB.out | apply pA | apply pN | apply pD | refine pS ?_ GE473.out) | exact HB.out))) : w.heap.size ≤ gb487)); have n5_ := AZ.mk ((by rw [hg]; exact nL (Zv (g := gb473) (o := .cells #[.int .i64 a0_0, .int .i64 a0_1, .slice A0_2 l0_2.length c0_2, .slice (some ad485) l0_3.length c0_3, .slice A0_4 l0_4.length c0_4, .slice A0_5 l0_5.length c0_5] 27 (0, 0)) (by (with_reducible repeat (first | refine bn_ ?_ _ | refine bd_ ?_ | refine ba_ ?_ _)); exact BK473.out)) : gb473 ≠ gb487)); have n6_ := AZ.mk ((by rw [hg]; exact nG (Zv (g := gb473) (o := .cells #[.int .i64 a0_0, .int .i64 a0_1, .slice A0_2 l0_2.length c0_2, .slice (some ad485) l0_3.length c0_3, .slice A0_4 l0_4.length c0_4, .slice A0_5 l0_5.length c0_5] 27 (0, 0)) (by (with_reducible repeat (first | refine bn_ ?_ _ | refine bd_ ?_ | refine ba_ ?_ _)); exact BK473.out)) : gb487 ≠ gb473)); clear BK473; clear HB; have BK473 := n0_; have HB := n1_; have BK487 := n2_; have GW487 := n3_; have GE487 := n4_; have NB473_487 := n5_; have NB487_473 := n6_; clear n0_ n1_ n2_ n3_ n4_ n5_ n6_; clear hb hbox hg; have hnb85 := NB487_473.out; have hnc85 := NB473_487.out; have hcz86_0 : w84.cell? ⟨gb487, 0, none⟩ = some (.int .i64 0) := (bc BK487.out 0).trans rfl; have hcz86_1 : w84.cell? ⟨gb487, 1, none⟩ = some (.int .i64 0) := (bc BK487.out 1).trans rfl; have hfz86_0 := bf BK487.out 0; have hfz86_1 := bf BK487.out 1))
          have n0_ : AZ (((w84.setCell ⟨gb487, 0, none⟩ (.int .i64 ((Zb (Zd l0_3 x50_2) x79_4).f0))).setCell ⟨gb487, 1, none⟩ (.int .i64 ((Zb (Zd l0_3 x50_2) x79_4).f1))).heap[gb473]? = some (.cells #[.int .i64 a0_0, .int .i64 a0_1, .slice A0_2 l0_2.length c0_2, .slice (some ad485) l0_3.length c0_3, .slice A0_4 l0_4.length c0_4, .slice A0_5 l0_5.length c0_5] 27 (0, 0))) := ⟨by (with_reducible repeat (first | refine bn_ ?_ _ | refine bd_ ?_ | refine ba_ ?_ _)); refine blk_far ?_ NB473_487.out _; (with_reducible repeat (first | refine bn_ ?_ _ | refine bd_ ?_ | refine ba_ ?_ _)); refine blk_far ?_ NB473_487.out _; (with_reducible repeat (first | refine bn_ ?_ _ | refine bd_ ?_ | refine ba_ ?_ _)); exact BK473.out⟩
          have n1_ : AZ (((w84.setCell ⟨gb487, 0, none⟩ (.int .i64 ((Zb (Zd l0_3 x50_2) x79_4).f0))).setCell ⟨gb487, 1, none⟩ (.int .i64 ((Zb (Zd l0_3 x50_2) x79_4).f1))).heap[gb487]? = some (.cells #[.int .i64 ((Zb (Zd l0_3 x50_2) x79_4).f0), .int .i64 ((Zb (Zd l0_3 x50_2) x79_4).f1)] 47 (0, 0))) := ⟨by (with_reducible repeat (first | refine bn_ ?_ _ | refine bd_ ?_ | refine ba_ ?_ _)); refine blk_put (cs := #[.int .i64 ((Zb (Zd l0_3 x50_2) x79_4).f0), .int .i64 0]) ?_ 1 _ rfl; (with_reducible repeat (first | refine bn_ ?_ _ | refine bd_ ?_ | refine ba_ ?_ _)); refine blk_put (cs := #[.int .i64 0, .int .i64 0]) ?_ 0 _ rfl; (with_reducible repeat (first | refine bn_ ?_ _ | refine bd_ ?_ | refine ba_ ?_ _)); exact BK487.out⟩
          have n2_ : AZ (Below w.heap.size w ((w84.setCell ⟨gb487, 0, none⟩ (.int .i64 ((Zb (Zd l0_3 x50_2) x79_4).f0))).setCell ⟨gb487, 1, none⟩ (.int .i64 ((Zb (Zd l0_3 x50_2) x79_4).f1)))) := ⟨by repeat (first | (with_reducible first | exact HB.out | apply pA | apply pN | apply pD | refine pS ?_ GE473.out | refine pS ?_ GE487.out) | exact HB.out)⟩
          (try clear BK473)
          (try clear BK487)
          (try clear HB)
          generalize ((w84.setCell ⟨gb487, 0, none⟩ (.int .i64 ((Zb (Zd l0_3 x50_2) x79_4).f0))).setCell ⟨gb487, 1, none⟩ (.int .i64 ((Zb (Zd l0_3 x50_2) x79_4).f1))) = w87 at n0_ n1_ n2_ ⊢
          have BK473 := n0_
          have BK487 := n1_
          have HB := n2_
          clear n0_ n1_ n2_
          have n0_ := AZ.mk (bd_ BK473.out)
          have n1_ := AZ.mk (bd_ BK487.out)
          have n2_ := AZ.mk (pD HB.out)
          clear BK473
          clear BK487
          clear HB
          have BK473 := n0_
          have BK487 := n1_
          have HB := n2_
          clear n0_ n1_ n2_
          refine start_ (n := 28) (S := fun w' => w'.cell? ⟨gb473, 0, none⟩ = some (.int .i64 a0_0) ∧ w'.cell? ⟨gb473, 1, none⟩ = some (.int .i64 a0_1) ∧ w'.cell? ⟨gb473, 2, none⟩ = some (.slice A0_2 l0_2.length c0_2) ∧ w'.cell? ⟨gb473, 3, none⟩ = some (.slice (some ad485) l0_3.length c0_3) ∧ w'.cell? ⟨gb473, 4, none⟩ = some (.slice A0_4 l0_4.length c0_4) ∧ w'.cell? ⟨gb473, 5, none⟩ = some (.slice A0_5 l0_5.length c0_5) ∧ w'.cell? ⟨gb487, 0, none⟩ = some (.int .i64 ((Zb (Zd l0_3 x50_2) x79_4).f0)) ∧ w'.cell? ⟨gb487, 1, none⟩ = some (.int .i64 ((Zb (Zd l0_3 x50_2) x79_4).f1))) (ds := []) (bz 28 0) (by kernel_rfl) rfl rfl ⟨(bc BK473.out 0).trans rfl, (bc BK473.out 1).trans rfl, (bc BK473.out 2).trans rfl, (bc BK473.out 3).trans rfl, (bc BK473.out 4).trans rfl, (bc BK473.out 5).trans rfl, (bc BK487.out 0).trans rfl, (bc BK487.out 1).trans rfl⟩ (fun hHeld => ?_); refine Yh impl_ValidChecker.tab14 impl_ValidChecker.bits14 (fun HT_ HW_ => ?_)
          generalize w87.drew = w88 at BK473 BK487 HB hHeld ⊢
          iterate 3 (first | (refine pz_ HT_ impl_ValidChecker.cz0 rfl rfl rfl (v := ?_) (a' := ?_) (by kernel_rfl) (fun _ _ _ h => h) (Or.inl ⟨by rfl, ?_⟩) ?_ ?_; rotate_left; (intro w'; go_simp; with_reducible rfl); rotate_left; (simp only [Act.put, sA, sB, sC, i64_w, i32_w]; rfl)) | (refine tz_ HT_ HW_ impl_ValidChecker.cz0 rfl rfl rfl (v := ?_) (a' := ?_) (by kernel_rfl) (fun _ _ _ h => h) (Or.inl ⟨by rfl, ?_⟩) hHeld ?_ ?_; rotate_left; (rintro w' ⟨s0, s1, s2, s3, s4, s5, s6, s7⟩; go_simp; with_reducible rfl); rotate_left; (simp only [Act.put, sA, sB, sC, i64_w, i32_w]; rfl)))
          refine one_ (i := 3) (N := some 93) (bz 28 15) rfl rfl (one_of HT_.out (by kernel_rfl)) (by decide) (fun K hK => ?_)
          refine goes_ Try.func98 (by kernel_rfl) rfl #[.agg #[.int .i64 a0_0, .int .i64 a0_1, .slice A0_2 l0_2.length c0_2, .slice (some ad485) l0_3.length c0_3, .slice A0_4 l0_4.length c0_4, .slice A0_5 l0_5.length c0_5], .int .i64 ((Zb (Zd l0_3 x50_2) x79_4).f0)] (by rfl) rfl rfl (by (try simp only [mA, mB, mC]); first | done | rfl | (simp only [lD, lT]; rfl)) ?_
          with_reducible refine (impl_Checker_isState.calls a0_0 a0_1 _ _ l0_2 _ _ l0_3 _ _ l0_4 _ _ l0_5 ((Zb (Zd l0_3 x50_2) x79_4).f0) false _ ?side1 ?side2 ?side3 ?side4 ?side5 ?side6 ?side7 ?side8 A49.out).mono ?_
          (case side1 => repeat (first | exact (Kd.C_below HR0_2.out HB.out) | (with_reducible refine Kd.C_alloc ?_ _) | (with_reducible refine Kd.C_drewN ?_ _) | (with_reducible refine Kd.C_drew ?_)))
          (case side2 => exact HC0_2.out)
          (case side3 => repeat (first | exact (Kd.C_below HR0_3.out HB.out) | (with_reducible refine Kd.C_alloc ?_ _) | (with_reducible refine Kd.C_drewN ?_ _) | (with_reducible refine Kd.C_drew ?_)))
          (case side4 => exact HC0_3.out)
          (case side5 => repeat (first | exact (Kd.C_below HR0_4.out HB.out) | (with_reducible refine Kd.C_alloc ?_ _) | (with_reducible refine Kd.C_drewN ?_ _) | (with_reducible refine Kd.C_drew ?_)))
          (case side6 => exact HC0_4.out)
          (case side7 => repeat (first | exact (Kd.C_below HR0_5.out HB.out) | (with_reducible refine Kd.C_alloc ?_ _) | (with_reducible refine Kd.C_drewN ?_ _) | (with_reducible refine Kd.C_drew ?_)))
          (case side8 => exact HC0_5.out)
          rintro e w89 ⟨rfl, hb⟩
          refine ⟨_, rfl, ?_⟩
          have n0_ := AZ.mk (bb_ (g := gb473) (o := .cells #[.int .i64 a0_0, .int .i64 a0_1, .slice A0_2 l0_2.length c0_2, .slice (some ad485) l0_3.length c0_3, .slice A0_4 l0_4.length c0_4, .slice A0_5 l0_5.length c0_5] 27 (0, 0)) (by (with_reducible repeat (first | refine bn_ ?_ _ | refine bd_ ?_ | refine ba_ ?_ _)); exact BK473.out) hb)
          have n1_ := AZ.mk (bb_ (g := gb487) (o := .cells #[.int .i64 ((Zb (Zd l0_3 x50_2) x79_4).f0), .int .i64 ((Zb (Zd l0_3 x50_2) x79_4).f1)] 47 (0, 0)) (by (with_reducible repeat (first | refine bn_ ?_ _ | refine bd_ ?_ | refine ba_ ?_ _)); exact BK487.out) hb)
          have n2_ := AZ.mk (pT (by repeat (first | (with_reducible first | exact HB.out | apply pA | apply pN | apply pD | refine pS ?_ GE473.out | refine pS ?_ GE487.out) | exact HB.out)) hb)
          clear BK473
          clear BK487
          clear HB
          have BK473 := n0_
          have BK487 := n1_
          have HB := n2_
          clear n0_ n1_ n2_
          (try clear hb)
          (try clear hb2)
          (try clear hk)
          (try clear hi)
          refine hK.out _ _ ⟨(bc BK473.out 0).trans rfl, (bc BK473.out 1).trans rfl, (bc BK473.out 2).trans rfl, (bc BK473.out 3).trans rfl, (bc BK473.out 4).trans rfl, (bc BK473.out 5).trans rfl, (bc BK487.out 0).trans rfl, (bc BK487.out 1).trans rfl⟩ (fun hHeld => ?_)
          clear hK K
          refine norm_ (a' := ?_) ?_ ?_
          rotate_left
          ·show Act.put _ (some 93) _ = _
           simp only [Act.put, sA, sB, sC, i64_w, i32_w]
           rfl
          iterate 24 (first | (refine pz_ HT_ impl_ValidChecker.cz5 rfl rfl rfl (v := ?_) (a' := ?_) (by kernel_rfl) (fun _ _ _ h => h) (Or.inl ⟨by rfl, ?_⟩) ?_ ?_; rotate_left; (intro w'; go_simp; with_reducible rfl); rotate_left; (simp only [Act.put, sA, sB, sC, i64_w, i32_w]; rfl)) | (refine uz_ HT_ impl_ValidChecker.cz5 rfl rfl rfl (v := undef) (a' := ?_) (by kernel_rfl) (fun _ _ _ h => h) (Or.inr ⟨by rfl, rfl⟩) ?_ ?_; rotate_left; (simp only [Act.put, sA, sB, sC, i64_w, i32_w]; rfl)))
          refine done_ (done_of HT_.out (by kernel_rfl)) ?_
          try go_wp2
          go_ret
          exact ⟨by first | rfl | (simp [Ze, Zf] <;> rfl) | (simp [*, Ze, Zf] <;> rfl), by repeat (first | (with_reducible first | exact HB.out | apply pA | apply pN | apply pD | refine pS ?_ GE473.out | refine pS ?_ GE487.out) | exact HB.out)⟩
         subst c50
         have H1 : ((impl_Checker_isMark.f a0_0 a0_1 l0_2 l0_3 l0_4 l0_5 ((Zb (Zd l0_3 x50_2) x79_4).f1)).bind fun t489 => (if t489 = true then (if x50_2 < (l0_4.length : Int) then (if x79_4 < ((rd_L5 l0_4 x50_2).length : Int) then ((impl_ValidChecker_1_c.f k4 (rd_L4 (rd_L5 l0_4 x50_2) x79_4) (wrap64 (a0_0 + 1)) a0_0 a0_1 l0_2 l0_3 l0_4 l0_5).bind fun t492 => (if t492 = true then (impl_ValidChecker.l1 k4 x50_2 t474 x50_2 (wrap64 (x79_4 + 1)) a0_0 a0_1 l0_2 l0_3 l0_4 l0_5) else (some false))) else (none)) else (none)) else (some false))) = some r := by rw [if_pos rfl] at H; exact H
         clear H
         have H := H1
         clear H1
         replace H := Option.bind_eq_some_iff.mp H
         obtain ⟨t489, A510, H⟩ := H
         replace H : (if t489 = true then (if x50_2 < (l0_4.length : Int) then (if x79_4 < ((rd_L5 l0_4 x50_2).length : Int) then ((impl_ValidChecker_1_c.f k4 (rd_L4 (rd_L5 l0_4 x50_2) x79_4) (wrap64 (a0_0 + 1)) a0_0 a0_1 l0_2 l0_3 l0_4 l0_5).bind fun t492 => (if t492 = true then (impl_ValidChecker.l1 k4 x50_2 t474 x50_2 (wrap64 (x79_4 + 1)) a0_0 a0_1 l0_2 l0_3 l0_4 l0_5) else (some false))) else (none)) else (none)) else (some false)) = some r := H
         have A51 := AZ.mk A510
         clear A510
         by_cases c52 : t489 = true
         rotate_left
         ·replace c52 := Bool.eq_false_iff.mpr c52
          subst c52
          have H1 : (some false) = some r := by rw [if_neg (show ¬ (false = true) by decide)] at H; exact H
          clear H
          have H := H1
          clear H1
          obtain rfl := oJ H
          obtain ⟨hcz75_0, hcz75_1, hcz75_2, hcz75_3, hcz75_4, hcz75_5⟩ := c6 BK473.out
          obtain ⟨hfz75_0, hfz75_1, hfz75_2, hfz75_3, hfz75_4, hfz75_5⟩ := f6 BK473.out
          have p485 : 0 ≤ (x50_2 : Int) := oT (by first | (with_reducible assumption) | assumption)
          have q485 : x50_2 < (l0_3.length : Int) := oT (by first | (with_reducible assumption) | assumption)
          obtain ⟨ad485, A485_0, c485_0, e485, hx485_0, hl485_0, hi485_0⟩ := at_L3 HR0_3.out x50_2 p485 q485
          cases e485
          replace hx485_0 := (HB.out.cell (World.block_lt_of_cell? w _ hx485_0)).trans hx485_0
          have HR485_0 := AZ.mk hi485_0
          have HC485_0 := AZ.mk hl485_0
          clear hi485_0 hl485_0
          replace p485 := eq_true p485
          replace q485 := eq_true q485
          have p486 : 0 ≤ (x79_4 : Int) := oT (by first | (with_reducible assumption) | assumption)
          have q486 : x79_4 < ((Zd l0_3 x50_2).length : Int) := oT (by first | (with_reducible assumption) | assumption)
          obtain ⟨ad486, e486, hx486_0, hx486_1⟩ := at_T47 HR485_0.out x79_4 p486 q486
          cases e486
          replace hx486_0 := (HB.out.cell (World.block_lt_of_cell? w _ hx486_0)).trans hx486_0
          replace hx486_1 := (HB.out.cell (World.block_lt_of_cell? w _ hx486_1)).trans hx486_1
          replace p486 := eq_true p486
          replace q486 := eq_true q486
          try go_wp2_with (first | ((with_reducible refine Zc (N := 7) rfl ?_); (try (refine gate_guard (by rfl) ?_; dsimp only)); refine Zh ?hg (N := 7) ?hd (cs := #[.int .i64 0, .int .i64 0]) (t := 47) ?hr ?_; (case hd => rfl); (case hg => rfl); (case hr => first | (go_simp; done) | (go_simp; rfl)); intro gb487 hg w76 hbox hb; have n0_ := AZ.mk (bb_ (g := gb473) (o := .cells #[.int .i64 a0_0, .int .i64 a0_1, .slice A0_2 l0_2.length c0_2, .slice (some ad485) l0_3.length c0_3, .slice A0_4 l0_4.length c0_4, .slice A0_5 l0_5.length c0_5] 27 (0, 0)) (by (with_reducible repeat (first | refine bn_ ?_ _ | refine bd_ ?_ | refine ba_ ?_ _)); exact BK473.out) hb); have n1_ := AZ.mk (pT (by repeat (first | (with_reducible first | exact HB.out | apply pA | apply pN | apply pD | refine pS ?_ GE473.out) | exact HB.out)) hb); have n2_ := AZ.mk (hbox); have n3_ := AZ.mk ((by rw [hg]; exact (pZ (by repeat (first | (with_reducible first | exact HB.out | apply pA | apply pN | apply pD | refine pS ?_ GE473.out) | exact HB.out))) : w.heap.size ≤ gb487)); have n4_ := AZ.mk ((by rw [hg]; exact (pZ (by repeat (first | (with_reducible first | exact HB.out | apply pA | apply pN | apply pD | refine pS ?_ GE473.out) | exact HB.out))) : w.heap.size ≤ gb487)); have n5_ := AZ.mk ((by rw [hg]; exact nL (Zv (g := gb473) (o := .cells #[.int .i64 a0_0, .int .i64 a0_1, .slice A0_2 l0_2.length c0_2, .slice (some ad485) l0_3.length c0_3, .slice A0_4 l0_4.length c0_4, .slice A0_5 l0_5.length c0_5] 27 (0, 0)) (by (with_reducible repeat (first | refine bn_ ?_ _ | refine bd_ ?_ | refine ba_ ?_ _)); exact BK473.out)) : gb473 ≠ gb487)); have n6_ := AZ.mk ((by rw [hg]; exact nG (Zv (g := gb473) (o := .cells #[.int .i64 a0_0, .int .i64 a0_1, .slice A0_2 l0_2.length c0_2, .slice (some ad485) l0_3.length c0_3, .slice A0_4 l0_4.length c0_4, .slice A0_5 l0_5.length c0_5] 27 (0, 0)) (by (with_reducible repeat (first | refine bn_ ?_ _ | refine bd_ ?_ | refine ba_ ?_ _)); exact BK473.out)) : gb487 ≠ gb473)); clear BK473; clear HB; have BK473 := n0_; have HB := n1_; have BK487 := n2_; have GW487 := n3_; have GE487 := n4_; have NB473_487 := n5_; have NB487_473 := n6_; clear n0_ n1_ n2_ n3_ n4_ n5_ n6_; clear hb hbox hg; have hnb77 := NB487_473.out; have hnc77 := NB473_487.out; have hcz78_0 : w76.cell? ⟨gb487, 0, none⟩ = some (.int .i64 0) := (bc BK487.out 0).trans rfl; have hcz78_1 : w76.cell? ⟨gb487, 1, none⟩ = some (.int .i64 0) := (bc BK487.out 1).trans rfl; have hfz78_0 := bf BK487.out 0; have hfz78_1 := bf BK487.out 1))
          have n0_ : AZ (((w76.setCell ⟨gb487, 0, none⟩ (.int .i64 ((Zb (Zd l0_3 x50_2) x79_4).f0))).setCell ⟨gb487, 1, none⟩ (.int .i64 ((Zb (Zd l0_3 x50_2) x79_4).f1))).heap[gb473]? = some (.cells #[.int .i64 a0_0, .int .i64 a0_1, .slice A0_2 l0_2.length c0_2, .slice (some ad485) l0_3.length c0_3, .slice A0_4 l0_4.length c0_4, .slice A0_5 l0_5.length c0_5] 27 (0, 0))) := ⟨by (with_reducible repeat (first | refine bn_ ?_ _ | refine bd_ ?_ | refine ba_ ?_ _)); refine blk_far ?_ NB473_487.out _; (with_reducible repeat (first | refine bn_ ?_ _ | refine bd_ ?_ | refine ba_ ?_ _)); refine blk_far ?_ NB473_487.out _; (with_reducible repeat (first | refine bn_ ?_ _ | refine bd_ ?_ | refine ba_ ?_ _)); exact BK473.out⟩
          have n1_ : AZ (((w76.setCell ⟨gb487, 0, none⟩ (.int .i64 ((Zb (Zd l0_3 x50_2) x79_4).f0))).setCell ⟨gb487, 1, none⟩ (.int .i64 ((Zb (Zd l0_3 x50_2) x79_4).f1))).heap[gb487]? = some (.cells #[.int .i64 ((Zb (Zd l0_3 x50_2) x79_4).f0), .int .i64 ((Zb (Zd l0_3 x50_2) x79_4).f1)] 47 (0, 0))) := ⟨by (with_reducible repeat (first | refine bn_ ?_ _ | refine bd_ ?_ | refine ba_ ?_ _)); refine blk_put (cs := #[.int .i64 ((Zb (Zd l0_3 x50_2) x79_4).f0), .int .i64 0]) ?_ 1 _ rfl; (with_reducible repeat (first | refine bn_ ?_ _ | refine bd_ ?_ | refine ba_ ?_ _)); refine blk_put (cs := #[.int .i64 0, .int .i64 0]) ?_ 0 _ rfl; (with_reducible repeat (first | refine bn_ ?_ _ | refine bd_ ?_ | refine ba_ ?_ _)); exact BK487.out⟩
          have n2_ : AZ (Below w.heap.size w ((w76.setCell ⟨gb487, 0, none⟩ (.int .i64 ((Zb (Zd l0_3 x50_2) x79_4).f0))).setCell ⟨gb487, 1, none⟩ (.int .i64 ((Zb (Zd l0_3 x50_2) x79_4).f1)))) := ⟨by repeat (first | (with_reducible first | exact HB.out | apply pA | apply pN | apply pD | refine pS ?_ GE473.out | refine pS ?_ GE487.out) | exact HB.out)⟩
          (try clear BK473)
          (try clear BK487)
          (try clear HB)
          generalize ((w76.setCell ⟨gb487, 0, none⟩ (.int .i64 ((Zb (Zd l0_3 x50_2) x79_4).f0))).setCell ⟨gb487, 1, none⟩ (.int .i64 ((Zb (Zd l0_3 x50_2) x79_4).f1))) = w79 at n0_ n1_ n2_ ⊢
          have BK473 := n0_
          have BK487 := n1_
          have HB := n2_
          clear n0_ n1_ n2_
          have n0_ := AZ.mk (bd_ BK473.out)
          have n1_ := AZ.mk (bd_ BK487.out)
          have n2_ := AZ.mk (pD HB.out)
          clear BK473
          clear BK487
          clear HB
          have BK473 := n0_
          have BK487 := n1_
          have HB := n2_
          clear n0_ n1_ n2_
          refine start_ (n := 28) (S := fun w' => w'.cell? ⟨gb473, 0, none⟩ = some (.int .i64 a0_0) ∧ w'.cell? ⟨gb473, 1, none⟩ = some (.int .i64 a0_1) ∧ w'.cell? ⟨gb473, 2, none⟩ = some (.slice A0_2 l0_2.length c0_2) ∧ w'.cell? ⟨gb473, 3, none⟩ = some (.slice (some ad485) l0_3.length c0_3) ∧ w'.cell? ⟨gb473, 4, none⟩ = some (.slice A0_4 l0_4.length c0_4) ∧ w'.cell? ⟨gb473, 5, none⟩ = some (.slice A0_5 l0_5.length c0_5) ∧ w'.cell? ⟨gb487, 0, none⟩ = some (.int .i64 ((Zb (Zd l0_3 x50_2) x79_4).f0)) ∧ w'.cell? ⟨gb487, 1, none⟩ = some (.int .i64 ((Zb (Zd l0_3 x50_2) x79_4).f1))) (ds := []) (bz 28 0) (by kernel_rfl) rfl rfl ⟨(bc BK473.out 0).trans rfl, (bc BK473.out 1).trans rfl, (bc BK473.out 2).trans rfl, (bc BK473.out 3).trans rfl, (bc BK473.out 4).trans rfl, (bc BK473.out 5).trans rfl, (bc BK487.out 0).trans rfl, (bc BK487.out 1).trans rfl⟩ (fun hHeld => ?_); refine Yh impl_ValidChecker.tab14 impl_ValidChecker.bits14 (fun HT_ HW_ => ?_)
          generalize w79.drew = w80 at BK473 BK487 HB hHeld ⊢
          iterate 3 (first | (refine pz_ HT_ impl_ValidChecker.cz0 rfl rfl rfl (v := ?_) (a' := ?_) (by kernel_rfl) (fun _ _ _ h => h) (Or.inl ⟨by rfl, ?_⟩) ?_ ?_; rotate_left; (intro w'; go_simp; with_reducible rfl); rotate_left; (simp only [Act.put, sA, sB, sC, i64_w, i32_w]; rfl)) | (refine tz_ HT_ HW_ impl_ValidChecker.cz0 rfl rfl rfl (v := ?_) (a' := ?_) (by kernel_rfl) (fun _ _ _ h => h) (Or.inl ⟨by rfl, ?_⟩) hHeld ?_ ?_; rotate_left; (rintro w' ⟨s0, s1, s2, s3, s4, s5, s6, s7⟩; go_simp; with_reducible rfl); rotate_left; (simp only [Act.put, sA, sB, sC, i64_w, i32_w]; rfl)))
          refine one_ (i := 3) (N := some 93) (bz 28 15) rfl rfl (one_of HT_.out (by kernel_rfl)) (by decide) (fun K hK => ?_)
          refine goes_ Try.func98 (by kernel_rfl) rfl #[.agg #[.int .i64 a0_0, .int .i64 a0_1, .slice A0_2 l0_2.length c0_2, .slice (some ad485) l0_3.length c0_3, .slice A0_4 l0_4.length c0_4, .slice A0_5 l0_5.length c0_5], .int .i64 ((Zb (Zd l0_3 x50_2) x79_4).f0)] (by rfl) rfl rfl (by (try simp only [mA, mB, mC]); first | done | rfl | (simp only [lD, lT]; rfl)) ?_
          with_reducible refine (impl_Checker_isState.calls a0_0 a0_1 _ _ l0_2 _ _ l0_3 _ _ l0_4 _ _ l0_5 ((Zb (Zd l0_3 x50_2) x79_4).f0) true _ ?side1 ?side2 ?side3 ?side4 ?side5 ?side6 ?side7 ?side8 A49.out).mono ?_
          (case side1 => repeat (first | exact (Kd.C_below HR0_2.out HB.out) | (with_reducible refine Kd.C_alloc ?_ _) | (with_reducible refine Kd.C_drewN ?_ _) | (with_reducible refine Kd.C_drew ?_)))
          (case side2 => exact HC0_2.out)
          (case side3 => repeat (first | exact (Kd.C_below HR0_3.out HB.out) | (with_reducible refine Kd.C_alloc ?_ _) | (with_reducible refine Kd.C_drewN ?_ _) | (with_reducible refine Kd.C_drew ?_)))
          (case side4 => exact HC0_3.out)
          (case side5 => repeat (first | exact (Kd.C_below HR0_4.out HB.out) | (with_reducible refine Kd.C_alloc ?_ _) | (with_reducible refine Kd.C_drewN ?_ _) | (with_reducible refine Kd.C_drew ?_)))
          (case side6 => exact HC0_4.out)
          (case side7 => repeat (first | exact (Kd.C_below HR0_5.out HB.out) | (with_reducible refine Kd.C_alloc ?_ _) | (with_reducible refine Kd.C_drewN ?_ _) | (with_reducible refine Kd.C_drew ?_)))
          (case side8 => exact HC0_5.out)
          rintro e w81 ⟨rfl, hb⟩
          refine ⟨_, rfl, ?_⟩
          have n0_ := AZ.mk (bb_ (g := gb473) (o := .cells #[.int .i64 a0_0, .int .i64 a0_1, .slice A0_2 l0_2.length c0_2, .slice (some ad485) l0_3.length c0_3, .slice A0_4 l0_4.length c0_4, .slice A0_5 l0_5.length c0_5] 27 (0, 0)) (by (with_reducible repeat (first | refine bn_ ?_ _ | refine bd_ ?_ | refine ba_ ?_ _)); exact BK473.out) hb)
          have n1_ := AZ.mk (bb_ (g := gb487) (o := .cells #[.int .i64 ((Zb (Zd l0_3 x50_2) x79_4).f0), .int .i64 ((Zb (Zd l0_3 x50_2) x79_4).f1)] 47 (0, 0)) (by (with_reducible repeat (first | refine bn_ ?_ _ | refine bd_ ?_ | refine ba_ ?_ _)); exact BK487.out) hb)
          have n2_ := AZ.mk (pT (by repeat (first | (with_reducible first | exact HB.out | apply pA | apply pN | apply pD | refine pS ?_ GE473.out | refine pS ?_ GE487.out) | exact HB.out)) hb)
          clear BK473
          clear BK487
          clear HB
          have BK473 := n0_
          have BK487 := n1_
          have HB := n2_
          clear n0_ n1_ n2_
          (try clear hb)
          (try clear hb2)
          (try clear hk)
          (try clear hi)
          refine hK.out _ _ ⟨(bc BK473.out 0).trans rfl, (bc BK473.out 1).trans rfl, (bc BK473.out 2).trans rfl, (bc BK473.out 3).trans rfl, (bc BK473.out 4).trans rfl, (bc BK473.out 5).trans rfl, (bc BK487.out 0).trans rfl, (bc BK487.out 1).trans rfl⟩ (fun hHeld => ?_)
          clear hK K
          refine norm_ (a' := ?_) ?_ ?_
          rotate_left
          ·show Act.put _ (some 93) _ = _
           simp only [Act.put, sA, sB, sC, i64_w, i32_w]
           rfl
          iterate 5 (first | (refine pz_ HT_ impl_ValidChecker.cz1 rfl rfl rfl (v := ?_) (a' := ?_) (by kernel_rfl) (fun _ _ _ h => h) (Or.inl ⟨by rfl, ?_⟩) ?_ ?_; rotate_left; (intro w'; go_simp; with_reducible rfl); rotate_left; (simp only [Act.put, sA, sB, sC, i64_w, i32_w]; rfl)) | (refine tz_ HT_ HW_ impl_ValidChecker.cz1 rfl rfl rfl (v := ?_) (a' := ?_) (by kernel_rfl) (fun _ _ _ h => h) (Or.inl ⟨by rfl, ?_⟩) hHeld ?_ ?_; rotate_left; (rintro w' ⟨s0, s1, s2, s3, s4, s5, s6, s7⟩; go_simp; with_reducible rfl); rotate_left; (simp only [Act.put, sA, sB, sC, i64_w, i32_w]; rfl)))
          refine one_ (i := 9) (N := some 99) (bz 28 1023) rfl rfl (one_of HT_.out (by kernel_rfl)) (by decide) (fun K hK => ?_)
          refine goes_ Try.func106 (by kernel_rfl) rfl #[.agg #[.int .i64 a0_0, .int .i64 a0_1, .slice A0_2 l0_2.length c0_2, .slice (some ad485) l0_3.length c0_3, .slice A0_4 l0_4.length c0_4, .slice A0_5 l0_5.length c0_5], .int .i64 ((Zb (Zd l0_3 x50_2) x79_4).f1)] (by rfl) rfl rfl (by (try simp only [mA, mB, mC]); first | done | rfl | (simp only [lD, lT]; rfl)) ?_
          with_reducible refine (impl_Checker_isMark.calls a0_0 a0_1 _ _ l0_2 _ _ l0_3 _ _ l0_4 _ _ l0_5 ((Zb (Zd l0_3 x50_2) x79_4).f1) false _ ?side1 ?side2 ?side3 ?side4 ?side5 ?side6 ?side7 ?side8 A51.out).mono ?_
          (case side1 => repeat (first | exact (Kd.C_below HR0_2.out HB.out) | (with_reducible refine Kd.C_alloc ?_ _) | (with_reducible refine Kd.C_drewN ?_ _) | (with_reducible refine Kd.C_drew ?_)))
          (case side2 => exact HC0_2.out)
          (case side3 => repeat (first | exact (Kd.C_below HR0_3.out HB.out) | (with_reducible refine Kd.C_alloc ?_ _) | (with_reducible refine Kd.C_drewN ?_ _) | (with_reducible refine Kd.C_drew ?_)))
          (case side4 => exact HC0_3.out)
          (case side5 => repeat (first | exact (Kd.C_below HR0_4.out HB.out) | (with_reducible refine Kd.C_alloc ?_ _) | (with_reducible refine Kd.C_drewN ?_ _) | (with_reducible refine Kd.C_drew ?_)))
          (case side6 => exact HC0_4.out)
          (case side7 => repeat (first | exact (Kd.C_below HR0_5.out HB.out) | (with_reducible refine Kd.C_alloc ?_ _) | (with_reducible refine Kd.C_drewN ?_ _) | (with_reducible refine Kd.C_drew ?_)))
          (case side8 => exact HC0_5.out)
          rintro e w82 ⟨rfl, hb⟩
          refine ⟨_, rfl, ?_⟩
          have n0_ := AZ.mk (bb_ (g := gb473) (o := .cells #[.int .i64 a0_0, .int .i64 a0_1, .slice A0_2 l0_2.length c0_2, .slice (some ad485) l0_3.length c0_3, .slice A0_4 l0_4.length c0_4, .slice A0_5 l0_5.length c0_5] 27 (0, 0)) (by (with_reducible repeat (first | refine bn_ ?_ _ | refine bd_ ?_ | refine ba_ ?_ _)); exact BK473.out) hb)
          have n1_ := AZ.mk (bb_ (g := gb487) (o := .cells #[.int .i64 ((Zb (Zd l0_3 x50_2) x79_4).f0), .int .i64 ((Zb (Zd l0_3 x50_2) x79_4).f1)] 47 (0, 0)) (by (with_reducible repeat (first | refine bn_ ?_ _ | refine bd_ ?_ | refine ba_ ?_ _)); exact BK487.out) hb)
          have n2_ := AZ.mk (pT (by repeat (first | (with_reducible first | exact HB.out | apply pA | apply pN | apply pD | refine pS ?_ GE473.out | refine pS ?_ GE487.out) | exact HB.out)) hb)
          clear BK473
          clear BK487
          clear HB
          have BK473 := n0_
          have BK487 := n1_
          have HB := n2_
          clear n0_ n1_ n2_
          (try clear hb)
          (try clear hb2)
          (try clear hk)
          (try clear hi)
          refine hK.out _ _ ⟨(bc BK473.out 0).trans rfl, (bc BK473.out 1).trans rfl, (bc BK473.out 2).trans rfl, (bc BK473.out 3).trans rfl, (bc BK473.out 4).trans rfl, (bc BK473.out 5).trans rfl, (bc BK487.out 0).trans rfl, (bc BK487.out 1).trans rfl⟩ (fun hHeld => ?_)
          clear hK K
          refine norm_ (a' := ?_) ?_ ?_
          rotate_left
          ·show Act.put _ (some 99) _ = _
           simp only [Act.put, sA, sB, sC, i64_w, i32_w]
           rfl
          iterate 18 (first | (refine pz_ HT_ impl_ValidChecker.cz4 rfl rfl rfl (v := ?_) (a' := ?_) (by kernel_rfl) (fun _ _ _ h => h) (Or.inl ⟨by rfl, ?_⟩) ?_ ?_; rotate_left; (intro w'; go_simp; with_reducible rfl); rotate_left; (simp only [Act.put, sA, sB, sC, i64_w, i32_w]; rfl)) | (refine uz_ HT_ impl_ValidChecker.cz4 rfl rfl rfl (v := undef) (a' := ?_) (by kernel_rfl) (fun _ _ _ h => h) (Or.inr ⟨by rfl, rfl⟩) ?_ ?_; rotate_left; (simp only [Act.put, sA, sB, sC, i64_w, i32_w]; rfl)))
          refine done_ (done_of HT_.out (by kernel_rfl)) ?_
          try go_wp2
          go_ret
          exact ⟨by first | rfl | (simp [Ze, Zf] <;> rfl) | (simp [*, Ze, Zf] <;> rfl), by repeat (first | (with_reducible first | exact HB.out | apply pA | apply pN | apply pD | refine pS ?_ GE473.out | refine pS ?_ GE487.out) | exact HB.out)⟩
         subst c52
         have H1 : (if x50_2 < (l0_4.length : Int) then (if x79_4 < ((rd_L5 l0_4 x50_2).length : Int) then ((impl_ValidChecker_1_c.f k4 (rd_L4 (rd_L5 l0_4 x50_2) x79_4) (wrap64 (a0_0 + 1)) a0_0 a0_1 l0_2 l0_3 l0_4 l0_5).bind fun t492 => (if t492 = true then (impl_ValidChecker.l1 k4 x50_2 t474 x50_2 (wrap64 (x79_4 + 1)) a0_0 a0_1 l0_2 l0_3 l0_4 l0_5) else (some false))) else (none)) else (none)) = some r := by rw [if_pos rfl] at H; exact H
         clear H
         have H := H1
         clear H1
         by_cases c53 : x50_2 < (l0_4.length : Int)
         rotate_left
         ·rw [if_neg c53] at H
          exact absurd H (by simp)
         rw [if_pos c53] at H
         have c53b0 : decide (x50_2 < (l0_4.length : Int)) = true := dT c53
         clear c53
         by_cases c54 : x79_4 < ((rd_L5 l0_4 x50_2).length : Int)
         rotate_left
         ·rw [if_neg c54] at H
          exact absurd H (by simp)
         rw [if_pos c54] at H
         have c54b0 : decide (x79_4 < ((rd_L5 l0_4 x50_2).length : Int)) = true := dT c54
         clear c54
         replace H := Option.bind_eq_some_iff.mp H
         obtain ⟨t492, A550, H⟩ := H
         replace H : (if t492 = true then (impl_ValidChecker.l1 k4 x50_2 t474 x50_2 (wrap64 (x79_4 + 1)) a0_0 a0_1 l0_2 l0_3 l0_4 l0_5) else (some false)) = some r := H
         have A55 := AZ.mk A550
         clear A550
         by_cases c56 : t492 = true
         rotate_left
         ·replace c56 := Bool.eq_false_iff.mpr c56
          subst c56
          have H1 : (some false) = some r := by rw [if_neg (show ¬ (false = true) by decide)] at H; exact H
          clear H
          have H := H1
          clear H1
          obtain rfl := oJ H
          obtain ⟨hcz66_0, hcz66_1, hcz66_2, hcz66_3, hcz66_4, hcz66_5⟩ := c6 BK473.out
          obtain ⟨hfz66_0, hfz66_1, hfz66_2, hfz66_3, hfz66_4, hfz66_5⟩ := f6 BK473.out
          have p485 : 0 ≤ (x50_2 : Int) := oT (by first | (with_reducible assumption) | assumption)
          have q485 : x50_2 < (l0_3.length : Int) := oT (by first | (with_reducible assumption) | assumption)
          obtain ⟨ad485, A485_0, c485_0, e485, hx485_0, hl485_0, hi485_0⟩ := at_L3 HR0_3.out x50_2 p485 q485
          cases e485
          replace hx485_0 := (HB.out.cell (World.block_lt_of_cell? w _ hx485_0)).trans hx485_0
          have HR485_0 := AZ.mk hi485_0
          have HC485_0 := AZ.mk hl485_0
          clear hi485_0 hl485_0
          replace p485 := eq_true p485
          replace q485 := eq_true q485
          have p486 : 0 ≤ (x79_4 : Int) := oT (by first | (with_reducible assumption) | assumption)
          have q486 : x79_4 < ((Zd l0_3 x50_2).length : Int) := oT (by first | (with_reducible assumption) | assumption)
          obtain ⟨ad486, e486, hx486_0, hx486_1⟩ := at_T47 HR485_0.out x79_4 p486 q486
          cases e486
          replace hx486_0 := (HB.out.cell (World.block_lt_of_cell? w _ hx486_0)).trans hx486_0
          replace hx486_1 := (HB.out.cell (World.block_lt_of_cell? w _ hx486_1)).trans hx486_1
          replace p486 := eq_true p486
          replace q486 := eq_true q486
          try go_wp2_with (first | ((with_reducible refine Zc (N := 7) rfl ?_); (try (refine gate_guard (by rfl) ?_; dsimp only)); refine Zh ?hg (N := 7) ?hd (cs := #[.int .i64 0, .int .i64 0]) (t := 47) ?hr ?_; (case hd => rfl); (case hg => rfl); (case hr => first | (go_simp; done) | (go_simp; rfl)); intro gb487 hg w67 hbox hb; have n0_ := AZ.mk (bb_ (g := gb473) (o := .cells #[.int .i64 a0_0, .int .i64 a0_1, .slice A0_2 l0_2.length c0_2, .slice (some ad485) l0_3.length c0_3, .slice A0_4 l0_4.length c0_4, .slice A0_5 l0_5.length c0_5] 27 (0, 0)) (by (with_reducible repeat (first | refine bn_ ?_ _ | refine bd_ ?_ | refine ba_ ?_ _)); exact BK473.out) hb); have n1_ := AZ.mk (pT (by repeat (first | (with_reducible first | exact HB.out | apply pA | apply pN | apply pD | refine pS ?_ GE473.out) | exact HB.out)) hb); have n2_ := AZ.mk (hbox); have n3_ := AZ.mk ((by rw [hg]; exact (pZ (by repeat (first | (with_reducible first | exact HB.out | apply pA | apply pN | apply pD | refine pS ?_ GE473.out) | exact HB.out))) : w.heap.size ≤ gb487)); have n4_ := AZ.mk ((by rw [hg]; exact (pZ (by repeat (first | (with_reducible first | exact HB.out | apply pA | apply pN | apply pD | refine pS ?_ GE473.out) | exact HB.out))) : w.heap.size ≤ gb487)); have n5_ := AZ.mk ((by rw [hg]; exact nL (Zv (g := gb473) (o := .cells #[.int .i64 a0_0, .int .i64 a0_1, .slice A0_2 l0_2.length c0_2, .slice (some ad485) l0_3.length c0_3, .slice A0_4 l0_4.length c0_4, .slice A0_5 l0_5.length c0_5] 27 (0, 0)) (by (with_reducible repeat (first | refine bn_ ?_ _ | refine bd_ ?_ | refine ba_ ?_ _)); exact BK473.out)) : gb473 ≠ gb487)); have n6_ := AZ.mk ((by rw [hg]; exact nG (Zv (g := gb473) (o := .cells #[.int .i64 a0_0, .int .i64 a0_1, .slice A0_2 l0_2.length c0_2, .slice (some ad485) l0_3.length c0_3, .slice A0_4 l0_4.length c0_4, .slice A0_5 l0_5.length c0_5] 27 (0, 0)) (by (with_reducible repeat (first | refine bn_ ?_ _ | refine bd_ ?_ | refine ba_ ?_ _)); exact BK473.out)) : gb487 ≠ gb473)); clear BK473; clear HB; have BK473 := n0_; have HB := n1_; have BK487 := n2_; have GW487 := n3_; have GE487 := n4_; have NB473_487 := n5_; have NB487_473 := n6_; clear n0_ n1_ n2_ n3_ n4_ n5_ n6_; clear hb hbox hg; have hnb68 := NB487_473.out; have hnc68 := NB473_487.out; have hcz69_0 : w67.cell? ⟨gb487, 0, none⟩ = some (.int .i64 0) := (bc BK487.out 0).trans rfl; have hcz69_1 : w67.cell? ⟨gb487, 1, none⟩ = some (.int .i64 0) := (bc BK487.out 1).trans rfl; have hfz69_0 := bf BK487.out 0; have hfz69_1 := bf BK487.out 1))
          have n0_ : AZ (((w67.setCell ⟨gb487, 0, none⟩ (.int .i64 ((Zb (Zd l0_3 x50_2) x79_4).f0))).setCell ⟨gb487, 1, none⟩ (.int .i64 ((Zb (Zd l0_3 x50_2) x79_4).f1))).heap[gb473]? = some (.cells #[.int .i64 a0_0, .int .i64 a0_1, .slice A0_2 l0_2.length c0_2, .slice (some ad485) l0_3.length c0_3, .slice A0_4 l0_4.length c0_4, .slice A0_5 l0_5.length c0_5] 27 (0, 0))) := ⟨by (with_reducible repeat (first | refine bn_ ?_ _ | refine bd_ ?_ | refine ba_ ?_ _)); refine blk_far ?_ NB473_487.out _; (with_reducible repeat (first | refine bn_ ?_ _ | refine bd_ ?_ | refine ba_ ?_ _)); refine blk_far ?_ NB473_487.out _; (with_reducible repeat (first | refine bn_ ?_ _ | refine bd_ ?_ | refine ba_ ?_ _)); exact BK473.out⟩
          have n1_ : AZ (((w67.setCell ⟨gb487, 0, none⟩ (.int .i64 ((Zb (Zd l0_3 x50_2) x79_4).f0))).setCell ⟨gb487, 1, none⟩ (.int .i64 ((Zb (Zd l0_3 x50_2) x79_4).f1))).heap[gb487]? = some (.cells #[.int .i64 ((Zb (Zd l0_3 x50_2) x79_4).f0), .int .i64 ((Zb (Zd l0_3 x50_2) x79_4).f1)] 47 (0, 0))) := ⟨by (with_reducible repeat (first | refine bn_ ?_ _ | refine bd_ ?_ | refine ba_ ?_ _)); refine blk_put (cs := #[.int .i64 ((Zb (Zd l0_3 x50_2) x79_4).f0), .int .i64 0]) ?_ 1 _ rfl; (with_reducible repeat (first | refine bn_ ?_ _ | refine bd_ ?_ | refine ba_ ?_ _)); refine blk_put (cs := #[.int .i64 0, .int .i64 0]) ?_ 0 _ rfl; (with_reducible repeat (first | refine bn_ ?_ _ | refine bd_ ?_ | refine ba_ ?_ _)); exact BK487.out⟩
          have n2_ : AZ (Below w.heap.size w ((w67.setCell ⟨gb487, 0, none⟩ (.int .i64 ((Zb (Zd l0_3 x50_2) x79_4).f0))).setCell ⟨gb487, 1, none⟩ (.int .i64 ((Zb (Zd l0_3 x50_2) x79_4).f1)))) := ⟨by repeat (first | (with_reducible first | exact HB.out | apply pA | apply pN | apply pD | refine pS ?_ GE473.out | refine pS ?_ GE487.out) | exact HB.out)⟩
          (try clear BK473)
          (try clear BK487)
          (try clear HB)
          generalize ((w67.setCell ⟨gb487, 0, none⟩ (.int .i64 ((Zb (Zd l0_3 x50_2) x79_4).f0))).setCell ⟨gb487, 1, none⟩ (.int .i64 ((Zb (Zd l0_3 x50_2) x79_4).f1))) = w70 at n0_ n1_ n2_ ⊢
          have BK473 := n0_
          have BK487 := n1_
          have HB := n2_
          clear n0_ n1_ n2_
          have n0_ := AZ.mk (bd_ BK473.out)
          have n1_ := AZ.mk (bd_ BK487.out)
          have n2_ := AZ.mk (pD HB.out)
          clear BK473
          clear BK487
          clear HB
          have BK473 := n0_
          have BK487 := n1_
          have HB := n2_
          clear n0_ n1_ n2_
          have p490 : 0 ≤ (x50_2 : Int) := oT (by first | (with_reducible assumption) | assumption)
          have q490 : x50_2 < (l0_4.length : Int) := oT (by first | (with_reducible assumption) | assumption)
          obtain ⟨ad490, A490_0, c490_0, e490, hx490_0, hl490_0, hi490_0⟩ := at_L5 HR0_4.out x50_2 p490 q490
          have hw490_0 := hx490_0
          cases e490
          replace hx490_0 := (HB.out.cell (World.block_lt_of_cell? w _ hx490_0)).trans hx490_0
          have HR490_0 := AZ.mk hi490_0
          have HC490_0 := AZ.mk hl490_0
          clear hi490_0 hl490_0
          replace p490 := eq_true p490
          replace q490 := eq_true q490
          have p491 : 0 ≤ (x79_4 : Int) := oT (by first | (with_reducible assumption) | assumption)
          have q491 : x79_4 < ((rd_L5 l0_4 x50_2).length : Int) := oT (by first | (with_reducible assumption) | assumption)
          obtain ⟨ad491, A491_0, c491_0, e491, hx491_0, hl491_0, hi491_0⟩ := at_L4 HR490_0.out x79_4 p491 q491
          have hw491_0 := hx491_0
          cases e491
          replace hx491_0 := (HB.out.cell (World.block_lt_of_cell? w _ hx491_0)).trans hx491_0
          have HR491_0 := AZ.mk hi491_0
          have HC491_0 := AZ.mk hl491_0
          clear hi491_0 hl491_0
          replace p491 := eq_true p491
          replace q491 := eq_true q491
          refine start_ (n := 28) (S := fun w' => w'.cell? ⟨gb473, 0, none⟩ = some (.int .i64 a0_0) ∧ w'.cell? ⟨gb473, 1, none⟩ = some (.int .i64 a0_1) ∧ w'.cell? ⟨gb473, 2, none⟩ = some (.slice A0_2 l0_2.length c0_2) ∧ w'.cell? ⟨gb473, 3, none⟩ = some (.slice (some ad485) l0_3.length c0_3) ∧ w'.cell? ⟨gb473, 4, none⟩ = some (.slice (some ad490) l0_4.length c0_4) ∧ w'.cell? ⟨gb473, 5, none⟩ = some (.slice A0_5 l0_5.length c0_5) ∧ w'.cell? ⟨gb487, 0, none⟩ = some (.int .i64 ((Zb (Zd l0_3 x50_2) x79_4).f0)) ∧ w'.cell? ⟨gb487, 1, none⟩ = some (.int .i64 ((Zb (Zd l0_3 x50_2) x79_4).f1)) ∧ w'.cell? (ad490.add (x50_2).toNat) = some (.slice (some ad491) (rd_L5 l0_4 x50_2).length c490_0) ∧ w'.cell? (ad491.add (x79_4).toNat) = some (.slice A491_0 (rd_L4 (rd_L5 l0_4 x50_2) x79_4).length c491_0)) (ds := []) (bz 28 0) (by kernel_rfl) rfl rfl ⟨(bc BK473.out 0).trans rfl, (bc BK473.out 1).trans rfl, (bc BK473.out 2).trans rfl, (bc BK473.out 3).trans rfl, (bc BK473.out 4).trans rfl, (bc BK473.out 5).trans rfl, (bc BK487.out 0).trans rfl, (bc BK487.out 1).trans rfl, ((HB.out.cell (World.block_lt_of_cell? w _ hw490_0)).trans hw490_0), ((HB.out.cell (World.block_lt_of_cell? w _ hw491_0)).trans hw491_0)⟩ (fun hHeld => ?_); refine Yh impl_ValidChecker.tab14 impl_ValidChecker.bits14 (fun HT_ HW_ => ?_)
          generalize w70.drew = w71 at BK473 BK487 HB HR490_0 HR491_0 hx490_0 hx491_0 hHeld ⊢
          iterate 3 (first | (refine pz_ HT_ impl_ValidChecker.cz0 rfl rfl rfl (v := ?_) (a' := ?_) (by kernel_rfl) (fun _ _ _ h => h) (Or.inl ⟨by rfl, ?_⟩) ?_ ?_; rotate_left; (intro w'; go_simp; with_reducible rfl); rotate_left; (simp only [Act.put, sA, sB, sC, i64_w, i32_w]; rfl)) | (refine tz_ HT_ HW_ impl_ValidChecker.cz0 rfl rfl rfl (v := ?_) (a' := ?_) (by kernel_rfl) (fun _ _ _ h => h) (Or.inl ⟨by rfl, ?_⟩) hHeld ?_ ?_; rotate_left; (rintro w' ⟨s0, s1, s2, s3, s4, s5, s6, s7, s8, s9⟩; go_simp; with_reducible rfl); rotate_left; (simp only [Act.put, sA, sB, sC, i64_w, i32_w]; rfl)))
          refine one_ (i := 3) (N := some 93) (bz 28 15) rfl rfl (one_of HT_.out (by kernel_rfl)) (by decide) (fun K hK => ?_)
          refine goes_ Try.func98 (by kernel_rfl) rfl #[.agg #[.int .i64 a0_0, .int .i64 a0_1, .slice A0_2 l0_2.length c0_2, .slice (some ad485) l0_3.length c0_3, .slice (some ad490) l0_4.length c0_4, .slice A0_5 l0_5.length c0_5], .int .i64 ((Zb (Zd l0_3 x50_2) x79_4).f0)] (by rfl) rfl rfl (by (try simp only [mA, mB, mC]); first | done | rfl | (simp only [lD, lT]; rfl)) ?_
          with_reducible refine (impl_Checker_isState.calls a0_0 a0_1 _ _ l0_2 _ _ l0_3 _ _ l0_4 _ _ l0_5 ((Zb (Zd l0_3 x50_2) x79_4).f0) true _ ?side1 ?side2 ?side3 ?side4 ?side5 ?side6 ?side7 ?side8 A49.out).mono ?_
          (case side1 => repeat (first | exact (Kd.C_below HR0_2.out HB.out) | (with_reducible refine Kd.C_alloc ?_ _) | (with_reducible refine Kd.C_drewN ?_ _) | (with_reducible refine Kd.C_drew ?_)))
          (case side2 => exact HC0_2.out)
          (case side3 => repeat (first | exact (Kd.C_below HR0_3.out HB.out) | (with_reducible refine Kd.C_alloc ?_ _) | (with_reducible refine Kd.C_drewN ?_ _) | (with_reducible refine Kd.C_drew ?_)))
          (case side4 => exact HC0_3.out)
          (case side5 => repeat (first | exact (Kd.C_below HR0_4.out HB.out) | (with_reducible refine Kd.C_alloc ?_ _) | (with_reducible refine Kd.C_drewN ?_ _) | (with_reducible refine Kd.C_drew ?_)))
          (case side6 => exact HC0_4.out)
          (case side7 => repeat (first | exact (Kd.C_below HR0_5.out HB.out) | (with_reducible refine Kd.C_alloc ?_ _) | (with_reducible refine Kd.C_drewN ?_ _) | (with_reducible refine Kd.C_drew ?_)))
          (case side8 => exact HC0_5.out)
          rintro e w72 ⟨rfl, hb⟩
          refine ⟨_, rfl, ?_⟩
          have n0_ := AZ.mk (bb_ (g := gb473) (o := .cells #[.int .i64 a0_0, .int .i64 a0_1, .slice A0_2 l0_2.length c0_2, .slice (some ad485) l0_3.length c0_3, .slice (some ad490) l0_4.length c0_4, .slice A0_5 l0_5.length c0_5] 27 (0, 0)) (by (with_reducible repeat (first | refine bn_ ?_ _ | refine bd_ ?_ | refine ba_ ?_ _)); exact BK473.out) hb)
          have n1_ := AZ.mk (bb_ (g := gb487) (o := .cells #[.int .i64 ((Zb (Zd l0_3 x50_2) x79_4).f0), .int .i64 ((Zb (Zd l0_3 x50_2) x79_4).f1)] 47 (0, 0)) (by (with_reducible repeat (first | refine bn_ ?_ _ | refine bd_ ?_ | refine ba_ ?_ _)); exact BK487.out) hb)
          have n2_ := AZ.mk (pT (by repeat (first | (with_reducible first | exact HB.out | apply pA | apply pN | apply pD | refine pS ?_ GE473.out | refine pS ?_ GE487.out) | exact HB.out)) hb)
          clear BK473
          clear BK487
          clear HB
          have BK473 := n0_
          have BK487 := n1_
          have HB := n2_
          clear n0_ n1_ n2_
          (try clear hb)
          (try clear hb2)
          (try clear hk)
          (try clear hi)
          refine hK.out _ _ ⟨(bc BK473.out 0).trans rfl, (bc BK473.out 1).trans rfl, (bc BK473.out 2).trans rfl, (bc BK473.out 3).trans rfl, (bc BK473.out 4).trans rfl, (bc BK473.out 5).trans rfl, (bc BK487.out 0).trans rfl, (bc BK487.out 1).trans rfl, ((HB.out.cell (World.block_lt_of_cell? w _ hw490_0)).trans hw490_0), ((HB.out.cell (World.block_lt_of_cell? w _ hw491_0)).trans hw491_0)⟩ (fun hHeld => ?_)
          clear hK K
          refine norm_ (a' := ?_) ?_ ?_
          rotate_left
          ·show Act.put _ (some 93) _ = _
           simp only [Act.put, sA, sB, sC, i64_w, i32_w]
           rfl
          iterate 5 (first | (refine pz_ HT_ impl_ValidChecker.cz1 rfl rfl rfl (v := ?_) (a' := ?_) (by kernel_rfl) (fun _ _ _ h => h) (Or.inl ⟨by rfl, ?_⟩) ?_ ?_; rotate_left; (intro w'; go_simp; with_reducible rfl); rotate_left; (simp only [Act.put, sA, sB, sC, i64_w, i32_w]; rfl)) | (refine tz_ HT_ HW_ impl_ValidChecker.cz1 rfl rfl rfl (v := ?_) (a' := ?_) (by kernel_rfl) (fun _ _ _ h => h) (Or.inl ⟨by rfl, ?_⟩) hHeld ?_ ?_; rotate_left; (rintro w' ⟨s0, s1, s2, s3, s4, s5, s6, s7, s8, s9⟩; go_simp; with_reducible rfl); rotate_left; (simp only [Act.put, sA, sB, sC, i64_w, i32_w]; rfl)))
          refine one_ (i := 9) (N := some 99) (bz 28 1023) rfl rfl (one_of HT_.out (by kernel_rfl)) (by decide) (fun K hK => ?_)
          refine goes_ Try.func106 (by kernel_rfl) rfl #[.agg #[.int .i64 a0_0, .int .i64 a0_1, .slice A0_2 l0_2.length c0_2, .slice (some ad485) l0_3.length c0_3, .slice (some ad490) l0_4.length c0_4, .slice A0_5 l0_5.length c0_5], .int .i64 ((Zb (Zd l0_3 x50_2) x79_4).f1)] (by rfl) rfl rfl (by (try simp only [mA, mB, mC]); first | done | rfl | (simp only [lD, lT]; rfl)) ?_
          with_reducible refine (impl_Checker_isMark.calls a0_0 a0_1 _ _ l0_2 _ _ l0_3 _ _ l0_4 _ _ l0_5 ((Zb (Zd l0_3 x50_2) x79_4).f1) true _ ?side1 ?side2 ?side3 ?side4 ?side5 ?side6 ?side7 ?side8 A51.out).mono ?_
          (case side1 => repeat (first | exact (Kd.C_below HR0_2.out HB.out) | (with_reducible refine Kd.C_alloc ?_ _) | (with_reducible refine Kd.C_drewN ?_ _) | (with_reducible refine Kd.C_drew ?_)))
          (case side2 => exact HC0_2.out)
          (case side3 => repeat (first | exact (Kd.C_below HR0_3.out HB.out) | (with_reducible refine Kd.C_alloc ?_ _) | (with_reducible refine Kd.C_drewN ?_ _) | (with_reducible refine Kd.C_drew ?_)))
          (case side4 => exact HC0_3.out)
          (case side5 => repeat (first | exact (Kd.C_below HR0_4.out HB.out) | (with_reducible refine Kd.C_alloc ?_ _) | (with_reducible refine Kd.C_drewN ?_ _) | (with_reducible refine Kd.C_drew ?_)))
          (case side6 => exact HC0_4.out)
          (case side7 => repeat (first | exact (Kd.C_below HR0_5.out HB.out) | (with_reducible refine Kd.C_alloc ?_ _) | (with_reducible refine Kd.C_drewN ?_ _) | (with_reducible refine Kd.C_drew ?_)))
          (case side8 => exact HC0_5.out)
          rintro e w73 ⟨rfl, hb⟩
          refine ⟨_, rfl, ?_⟩
          have n0_ := AZ.mk (bb_ (g := gb473) (o := .cells #[.int .i64 a0_0, .int .i64 a0_1, .slice A0_2 l0_2.length c0_2, .slice (some ad485) l0_3.length c0_3, .slice (some ad490) l0_4.length c0_4, .slice A0_5 l0_5.length c0_5] 27 (0, 0)) (by (with_reducible repeat (first | refine bn_ ?_ _ | refine bd_ ?_ | refine ba_ ?_ _)); exact BK473.out) hb)
          have n1_ := AZ.mk (bb_ (g := gb487) (o := .cells #[.int .i64 ((Zb (Zd l0_3 x50_2) x79_4).f0), .int .i64 ((Zb (Zd l0_3 x50_2) x79_4).f1)] 47 (0, 0)) (by (with_reducible repeat (first | refine bn_ ?_ _ | refine bd_ ?_ | refine ba_ ?_ _)); exact BK487.out) hb)
          have n2_ := AZ.mk (pT (by repeat (first | (with_reducible first | exact HB.out | apply pA | apply pN | apply pD | refine pS ?_ GE473.out | refine pS ?_ GE487.out) | exact HB.out)) hb)
          clear BK473
          clear BK487
          clear HB
          have BK473 := n0_
          have BK487 := n1_
          have HB := n2_
          clear n0_ n1_ n2_
          (try clear hb)
          (try clear hb2)
          (try clear hk)
          (try clear hi)
          refine hK.out _ _ ⟨(bc BK473.out 0).trans rfl, (bc BK473.out 1).trans rfl, (bc BK473.out 2).trans rfl, (bc BK473.out 3).trans rfl, (bc BK473.out 4).trans rfl, (bc BK473.out 5).trans rfl, (bc BK487.out 0).trans rfl, (bc BK487.out 1).trans rfl, ((HB.out.cell (World.block_lt_of_cell? w _ hw490_0)).trans hw490_0), ((HB.out.cell (World.block_lt_of_cell? w _ hw491_0)).trans hw491_0)⟩ (fun hHeld => ?_)
          clear hK K
          refine norm_ (a' := ?_) ?_ ?_
          rotate_left
          ·show Act.put _ (some 99) _ = _
           simp only [Act.put, sA, sB, sC, i64_w, i32_w]
           rfl
          iterate 15 (first | (refine pz_ HT_ impl_ValidChecker.cz2 rfl rfl rfl (v := ?_) (a' := ?_) (by kernel_rfl) (fun _ _ _ h => h) (Or.inl ⟨by rfl, ?_⟩) ?_ ?_; rotate_left; (intro w'; go_simp; with_reducible rfl); rotate_left; (simp only [Act.put, sA, sB, sC, i64_w, i32_w]; rfl)) | (refine tz_ HT_ HW_ impl_ValidChecker.cz2 rfl rfl rfl (v := ?_) (a' := ?_) (by kernel_rfl) (fun _ _ _ h => h) (Or.inl ⟨by rfl, ?_⟩) hHeld ?_ ?_; rotate_left; (rintro w' ⟨s0, s1, s2, s3, s4, s5, s6, s7, s8, s9⟩; go_simp; with_reducible rfl); rotate_left; (simp only [Act.put, sA, sB, sC, i64_w, i32_w]; rfl)))
          refine one_ (i := 25) (N := some 115) (bz 28 67108863) rfl rfl (one_of HT_.out (by kernel_rfl)) (by decide) (fun K hK => ?_)
          refine goesV_ Try.func102 (by kernel_rfl) rfl #[.slice A491_0 (rd_L4 (rd_L5 l0_4 x50_2) x79_4).length c491_0, .int .i64 (wrap64 (a0_0 + 1))] #[.slice A491_0 (rd_L4 (rd_L5 l0_4 x50_2) x79_4).length c491_0, .int .i64 (wrap64 (a0_0 + 1)), .pointer (some ⟨gb473, 0, none⟩)] (by rfl) rfl rfl (by rfl) (by (try simp only [mA, mB, mC]); first | done | rfl | (simp only [lD, lT]; rfl)) (by rfl) ?_
          with_reducible refine (impl_ValidChecker_1_c.calls k4 _ _ (rd_L4 (rd_L5 l0_4 x50_2) x79_4) (wrap64 (a0_0 + 1)) gb473 a0_0 a0_1 A0_2 c0_2 l0_2 (some ad485) c0_3 l0_3 (some ad490) c0_4 l0_4 A0_5 c0_5 l0_5 false _ ?side1 ?side2 ?side3 ?side4 ?side5 ?side6 ?side7 ?side8 ?side9 ?side10 ?side11 A55.out).mono ?_
          (case side1 => repeat (first | exact (Kd.C_below HR491_0.out HB.out) | (with_reducible refine Kd.C_alloc ?_ _) | (with_reducible refine Kd.C_drewN ?_ _) | (with_reducible refine Kd.C_drew ?_)))
          (case side2 => exact HC491_0.out)
          (case side3 => repeat (first | exact (Kd.C_below HR0_2.out HB.out) | (with_reducible refine Kd.C_alloc ?_ _) | (with_reducible refine Kd.C_drewN ?_ _) | (with_reducible refine Kd.C_drew ?_)))
          (case side4 => exact HC0_2.out)
          (case side5 => repeat (first | exact (Kd.C_below HR0_3.out HB.out) | (with_reducible refine Kd.C_alloc ?_ _) | (with_reducible refine Kd.C_drewN ?_ _) | (with_reducible refine Kd.C_drew ?_)))
          (case side6 => exact HC0_3.out)
          (case side7 => repeat (first | exact (Kd.C_below HR0_4.out HB.out) | (with_reducible refine Kd.C_alloc ?_ _) | (with_reducible refine Kd.C_drewN ?_ _) | (with_reducible refine Kd.C_drew ?_)))
          (case side8 => exact HC0_4.out)
          (case side9 => repeat (first | exact (Kd.C_below HR0_5.out HB.out) | (with_reducible refine Kd.C_alloc ?_ _) | (with_reducible refine Kd.C_drewN ?_ _) | (with_reducible refine Kd.C_drew ?_)))
          (case side10 => exact HC0_5.out)
          (case side11 => exact (by (with_reducible repeat (first | refine bn_ ?_ _ | refine bd_ ?_ | refine ba_ ?_ _)); exact BK473.out))
          rintro e w74 ⟨rfl, hb⟩
          refine ⟨_, rfl, ?_⟩
          have n0_ := AZ.mk (bb_ (g := gb473) (o := .cells #[.int .i64 a0_0, .int .i64 a0_1, .slice A0_2 l0_2.length c0_2, .slice (some ad485) l0_3.length c0_3, .slice (some ad490) l0_4.length c0_4, .slice A0_5 l0_5.length c0_5] 27 (0, 0)) (by (with_reducible repeat (first | refine bn_ ?_ _ | refine bd_ ?_ | refine ba_ ?_ _)); exact BK473.out) hb)
          have n1_ := AZ.mk (bb_ (g := gb487) (o := .cells #[.int .i64 ((Zb (Zd l0_3 x50_2) x79_4).f0), .int .i64 ((Zb (Zd l0_3 x50_2) x79_4).f1)] 47 (0, 0)) (by (with_reducible repeat (first | refine bn_ ?_ _ | refine bd_ ?_ | refine ba_ ?_ _)); exact BK487.out) hb)
          have n2_ := AZ.mk (pT (by repeat (first | (with_reducible first | exact HB.out | apply pA | apply pN | apply pD | refine pS ?_ GE473.out | refine pS ?_ GE487.out) | exact HB.out)) hb)
          clear BK473
          clear BK487
          clear HB
          have BK473 := n0_
          have BK487 := n1_
          have HB := n2_
          clear n0_ n1_ n2_
          (try clear hb)
          (try clear hb2)
          (try clear hk)
          (try clear hi)
          refine hK.out _ _ ⟨(bc BK473.out 0).trans rfl, (bc BK473.out 1).trans rfl, (bc BK473.out 2).trans rfl, (bc BK473.out 3).trans rfl, (bc BK473.out 4).trans rfl, (bc BK473.out 5).trans rfl, (bc BK487.out 0).trans rfl, (bc BK487.out 1).trans rfl, ((HB.out.cell (World.block_lt_of_cell? w _ hw490_0)).trans hw490_0), ((HB.out.cell (World.block_lt_of_cell? w _ hw491_0)).trans hw491_0)⟩ (fun hHeld => ?_)
          clear hK K
          refine norm_ (a' := ?_) ?_ ?_
          rotate_left
          ·show Act.put _ (some 115) _ = _
           simp only [Act.put, sA, sB, sC, i64_w, i32_w]
           rfl
          iterate 2 (first | (refine pz_ HT_ impl_ValidChecker.cz3 rfl rfl rfl (v := ?_) (a' := ?_) (by kernel_rfl) (fun _ _ _ h => h) (Or.inl ⟨by rfl, ?_⟩) ?_ ?_; rotate_left; (intro w'; go_simp; with_reducible rfl); rotate_left; (simp only [Act.put, sA, sB, sC, i64_w, i32_w]; rfl)))
          refine done_ (done_of HT_.out (by kernel_rfl)) ?_
          try go_wp2
          go_ret
          exact ⟨by first | rfl | (simp [Ze, Zf] <;> rfl) | (simp [*, Ze, Zf] <;> rfl), by repeat (first | (with_reducible first | exact HB.out | apply pA | apply pN | apply pD | refine pS ?_ GE473.out | refine pS ?_ GE487.out) | exact HB.out)⟩
         subst c56
         have H1 : (impl_ValidChecker.l1 k4 x50_2 t474 x50_2 (wrap64 (x79_4 + 1)) a0_0 a0_1 l0_2 l0_3 l0_4 l0_5) = some r := by rw [if_pos rfl] at H; exact H
         clear H
         have H := H1
         clear H1
         have H' := AZ.mk H
         clear H
         obtain ⟨hcz57_0, hcz57_1, hcz57_2, hcz57_3, hcz57_4, hcz57_5⟩ := c6 BK473.out
         obtain ⟨hfz57_0, hfz57_1, hfz57_2, hfz57_3, hfz57_4, hfz57_5⟩ := f6 BK473.out
         have p485 : 0 ≤ (x50_2 : Int) := oT (by first | (with_reducible assumption) | assumption)
         have q485 : x50_2 < (l0_3.length : Int) := oT (by first | (with_reducible assumption) | assumption)
         obtain ⟨ad485, A485_0, c485_0, e485, hx485_0, hl485_0, hi485_0⟩ := at_L3 HR0_3.out x50_2 p485 q485
         cases e485
         replace hx485_0 := (HB.out.cell (World.block_lt_of_cell? w _ hx485_0)).trans hx485_0
         have HR485_0 := AZ.mk hi485_0
         have HC485_0 := AZ.mk hl485_0
         clear hi485_0 hl485_0
         replace p485 := eq_true p485
         replace q485 := eq_true q485
         have p486 : 0 ≤ (x79_4 : Int) := oT (by first | (with_reducible assumption) | assumption)
         have q486 : x79_4 < ((Zd l0_3 x50_2).length : Int) := oT (by first | (with_reducible assumption) | assumption)
         obtain ⟨ad486, e486, hx486_0, hx486_1⟩ := at_T47 HR485_0.out x79_4 p486 q486
         cases e486
         replace hx486_0 := (HB.out.cell (World.block_lt_of_cell? w _ hx486_0)).trans hx486_0
         replace hx486_1 := (HB.out.cell (World.block_lt_of_cell? w _ hx486_1)).trans hx486_1
         replace p486 := eq_true p486
         replace q486 := eq_true q486
         try go_wp2_with (first | ((with_reducible refine Zc (N := 7) rfl ?_); (try (refine gate_guard (by rfl) ?_; dsimp only)); refine Zh ?hg (N := 7) ?hd (cs := #[.int .i64 0, .int .i64 0]) (t := 47) ?hr ?_; (case hd => rfl); (case hg => rfl); (case hr => first | (go_simp; done) | (go_simp; rfl)); intro gb487 hg w58 hbox hb; have n0_ := AZ.mk (bb_ (g := gb473) (o := .cells #[.int .i64 a0_0, .int .i64 a0_1, .slice A0_2 l0_2.length c0_2, .slice (some ad485) l0_3.length c0_3, .slice A0_4 l0_4.length c0_4, .slice A0_5 l0_5.length c0_5] 27 (0, 0)) (by (with_reducible repeat (first | refine bn_ ?_ _ | refine bd_ ?_ | refine ba_ ?_ _)); exact BK473.out) hb); have n1_ := AZ.mk (pT (by repeat (first | (with_reducible first | exact HB.out | apply pA | apply pN | apply pD | refine pS ?_ GE473.out) | exact HB.out)) hb); have n2_ := AZ.mk (hbox); have n3_ := AZ.mk ((by rw [hg]; exact (pZ (by repeat (first | (with_reducible first | exact HB.out | apply pA | apply pN | apply pD | refine pS ?_ GE473.out) | exact HB.out))) : w.heap.size ≤ gb487)); have n4_ := AZ.mk ((by rw [hg]; exact (pZ (by repeat (first | (with_reducible first | exact HB.out | apply pA | apply pN | apply pD | refine pS ?_ GE473.out) | exact HB.out))) : w.heap.size ≤ gb487)); have n5_ := AZ.mk ((by rw [hg]; exact nL (Zv (g := gb473) (o := .cells #[.int .i64 a0_0, .int .i64 a0_1, .slice A0_2 l0_2.length c0_2, .slice (some ad485) l0_3.length c0_3, .slice A0_4 l0_4.length c0_4, .slice A0_5 l0_5.length c0_5] 27 (0, 0)) (by (with_reducible repeat (first | refine bn_ ?_ _ | refine bd_ ?_ | refine ba_ ?_ _)); exact BK473.out)) : gb473 ≠ gb487)); have n6_ := AZ.mk ((by rw [hg]; exact nG (Zv (g := gb473) (o := .cells #[.int .i64 a0_0, .int .i64 a0_1, .slice A0_2 l0_2.length c0_2, .slice (some ad485) l0_3.length c0_3, .slice A0_4 l0_4.length c0_4, .slice A0_5 l0_5.length c0_5] 27 (0, 0)) (by (with_reducible repeat (first | refine bn_ ?_ _ | refine bd_ ?_ | refine ba_ ?_ _)); exact BK473.out)) : gb487 ≠ gb473)); clear BK473; clear HB; have BK473 := n0_; have HB := n1_; have BK487 := n2_; have GW487 := n3_; have GE487 := n4_; have NB473_487 := n5_; have NB487_473 := n6_; clear n0_ n1_ n2_ n3_ n4_ n5_ n6_; clear hb hbox hg; have hnb59 := NB487_473.out; have hnc59 := NB473_487.out; have hcz60_0 : w58.cell? ⟨gb487, 0, none⟩ = some (.int .i64 0) := (bc BK487.out 0).trans rfl; have hcz60_1 : w58.cell? ⟨gb487, 1, none⟩ = some (.int .i64 0) := (bc BK487.out 1).trans rfl; have hfz60_0 := bf BK487.out 0; have hfz60_1 := bf BK487.out 1))
         have n0_ : AZ (((w58.setCell ⟨gb487, 0, none⟩ (.int .i64 ((Zb (Zd l0_3 x50_2) x79_4).f0))).setCell ⟨gb487, 1, none⟩ (.int .i64 ((Zb (Zd l0_3 x50_2) x79_4).f1))).heap[gb473]? = some (.cells #[.int .i64 a0_0, .int .i64 a0_1, .slice A0_2 l0_2.length c0_2, .slice (some ad485) l0_3.length c0_3, .slice A0_4 l0_4.length c0_4, .slice A0_5 l0_5.length c0_5] 27 (0, 0))) := ⟨by (with_reducible repeat (first | refine bn_ ?_ _ | refine bd_ ?_ | refine ba_ ?_ _)); refine blk_far ?_ NB473_487.out _; (with_reducible repeat (first | refine bn_ ?_ _ | refine bd_ ?_ | refine ba_ ?_ _)); refine blk_far ?_ NB473_487.out _; (with_reducible repeat (first | refine bn_ ?_ _ | refine bd_ ?_ | refine ba_ ?_ _)); exact BK473.out⟩
         have n1_ : AZ (((w58.setCell ⟨gb487, 0, none⟩ (.int .i64 ((Zb (Zd l0_3 x50_2) x79_4).f0))).setCell ⟨gb487, 1, none⟩ (.int .i64 ((Zb (Zd l0_3 x50_2) x79_4).f1))).heap[gb487]? = some (.cells #[.int .i64 ((Zb (Zd l0_3 x50_2) x79_4).f0), .int .i64 ((Zb (Zd l0_3 x50_2) x79_4).f1)] 47 (0, 0))) := ⟨by (with_reducible repeat (first | refine bn_ ?_ _ | refine bd_ ?_ | refine ba_ ?_ _)); refine blk_put (cs := #[.int .i64 ((Zb (Zd l0_3 x50_2) x79_4).f0), .int .i64 0]) ?_ 1 _ rfl; (with_reducible repeat (first | refine bn_ ?_ _ | refine bd_ ?_ | refine ba_ ?_ _)); refine blk_put (cs := #[.int .i64 0, .int .i64 0]) ?_ 0 _ rfl; (with_reducible repeat (first | refine bn_ ?_ _ | refine bd_ ?_ | refine ba_ ?_ _)); exact BK487.out⟩
         have n2_ : AZ (Below w.heap.size w ((w58.setCell ⟨gb487, 0, none⟩ (.int .i64 ((Zb (Zd l0_3 x50_2) x79_4).f0))).setCell ⟨gb487, 1, none⟩ (.int .i64 ((Zb (Zd l0_3 x50_2) x79_4).f1)))) := ⟨by repeat (first | (with_reducible first | exact HB.out | apply pA | apply pN | apply pD | refine pS ?_ GE473.out | refine pS ?_ GE487.out) | exact HB.out)⟩
         (try clear BK473)
         (try clear BK487)
         (try clear HB)
         generalize ((w58.setCell ⟨gb487, 0, none⟩ (.int .i64 ((Zb (Zd l0_3 x50_2) x79_4).f0))).setCell ⟨gb487, 1, none⟩ (.int .i64 ((Zb (Zd l0_3 x50_2) x79_4).f1))) = w61 at n0_ n1_ n2_ ⊢
         have BK473 := n0_
         have BK487 := n1_
         have HB := n2_
         clear n0_ n1_ n2_
         have n0_ := AZ.mk (bd_ BK473.out)
         have n1_ := AZ.mk (bd_ BK487.out)
         have n2_ := AZ.mk (pD HB.out)
         clear BK473
         clear BK487
         clear HB
         have BK473 := n0_
         have BK487 := n1_
         have HB := n2_
         clear n0_ n1_ n2_
         have p490 : 0 ≤ (x50_2 : Int) := oT (by first | (with_reducible assumption) | assumption)
         have q490 : x50_2 < (l0_4.length : Int) := oT (by first | (with_reducible assumption) | assumption)
         obtain ⟨ad490, A490_0, c490_0, e490, hx490_0, hl490_0, hi490_0⟩ := at_L5 HR0_4.out x50_2 p490 q490
         have hw490_0 := hx490_0
         cases e490
         replace hx490_0 := (HB.out.cell (World.block_lt_of_cell? w _ hx490_0)).trans hx490_0
         have HR490_0 := AZ.mk hi490_0
         have HC490_0 := AZ.mk hl490_0
         clear hi490_0 hl490_0
         replace p490 := eq_true p490
         replace q490 := eq_true q490
         have p491 : 0 ≤ (x79_4 : Int) := oT (by first | (with_reducible assumption) | assumption)
         have q491 : x79_4 < ((rd_L5 l0_4 x50_2).length : Int) := oT (by first | (with_reducible assumption) | assumption)
         obtain ⟨ad491, A491_0, c491_0, e491, hx491_0, hl491_0, hi491_0⟩ := at_L4 HR490_0.out x79_4 p491 q491
         have hw491_0 := hx491_0
         cases e491
         replace hx491_0 := (HB.out.cell (World.block_lt_of_cell? w _ hx491_0)).trans hx491_0
         have HR491_0 := AZ.mk hi491_0
         have HC491_0 := AZ.mk hl491_0
         clear hi491_0 hl491_0
         replace p491 := eq_true p491
         replace q491 := eq_true q491
         refine start_ (n := 28) (S := fun w' => w'.cell? ⟨gb473, 0, none⟩ = some (.int .i64 a0_0) ∧ w'.cell? ⟨gb473, 1, none⟩ = some (.int .i64 a0_1) ∧ w'.cell? ⟨gb473, 2, none⟩ = some (.slice A0_2 l0_2.length c0_2) ∧ w'.cell? ⟨gb473, 3, none⟩ = some (.slice (some ad485) l0_3.length c0_3) ∧ w'.cell? ⟨gb473, 4, none⟩ = some (.slice (some ad490) l0_4.length c0_4) ∧ w'.cell? ⟨gb473, 5, none⟩ = some (.slice A0_5 l0_5.length c0_5) ∧ w'.cell? ⟨gb487, 0, none⟩ = some (.int .i64 ((Zb (Zd l0_3 x50_2) x79_4).f0)) ∧ w'.cell? ⟨gb487, 1, none⟩ = some (.int .i64 ((Zb (Zd l0_3 x50_2) x79_4).f1)) ∧ w'.cell? (ad490.add (x50_2).toNat) = some (.slice (some ad491) (rd_L5 l0_4 x50_2).length c490_0) ∧ w'.cell? (ad491.add (x79_4).toNat) = some (.slice A491_0 (rd_L4 (rd_L5 l0_4 x50_2) x79_4).length c491_0)) (ds := []) (bz 28 0) (by kernel_rfl) rfl rfl ⟨(bc BK473.out 0).trans rfl, (bc BK473.out 1).trans rfl, (bc BK473.out 2).trans rfl, (bc BK473.out 3).trans rfl, (bc BK473.out 4).trans rfl, (bc BK473.out 5).trans rfl, (bc BK487.out 0).trans rfl, (bc BK487.out 1).trans rfl, ((HB.out.cell (World.block_lt_of_cell? w _ hw490_0)).trans hw490_0), ((HB.out.cell (World.block_lt_of_cell? w _ hw491_0)).trans hw491_0)⟩ (fun hHeld => ?_); refine Yh impl_ValidChecker.tab14 impl_ValidChecker.bits14 (fun HT_ HW_ => ?_)
         generalize w61.drew = w62 at BK473 BK487 HB HR490_0 HR491_0 hx490_0 hx491_0 hHeld ⊢
         iterate 3 (first | (refine pz_ HT_ impl_ValidChecker.cz0 rfl rfl rfl (v := ?_) (a' := ?_) (by kernel_rfl) (fun _ _ _ h => h) (Or.inl ⟨by rfl, ?_⟩) ?_ ?_; rotate_left; (intro w'; go_simp; with_reducible rfl); rotate_left; (simp only [Act.put, sA, sB, sC, i64_w, i32_w]; rfl)) | (refine tz_ HT_ HW_ impl_ValidChecker.cz0 rfl rfl rfl (v := ?_) (a' := ?_) (by kernel_rfl) (fun _ _ _ h => h) (Or.inl ⟨by rfl, ?_⟩) hHeld ?_ ?_; rotate_left; (rintro w' ⟨s0, s1, s2, s3, s4, s5, s6, s7, s8, s9⟩; go_simp; with_reducible rfl); rotate_left; (simp only [Act.put, sA, sB, sC, i64_w, i32_w]; rfl)))
         refine one_ (i := 3) (N := some 93) (bz 28 15) rfl rfl (one_of HT_.out (by kernel_rfl)) (by decide) (fun K hK => ?_)
         refine goes_ Try.func98 (by kernel_rfl) rfl #[.agg #[.int .i64 a0_0, .int .i64 a0_1, .slice A0_2 l0_2.length c0_2, .slice (some ad485) l0_3.length c0_3, .slice (some ad490) l0_4.length c0_4, .slice A0_5 l0_5.length c0_5], .int .i64 ((Zb (Zd l0_3 x50_2) x79_4).f0)] (by rfl) rfl rfl (by (try simp only [mA, mB, mC]); first | done | rfl | (simp only [lD, lT]; rfl)) ?_
         with_reducible refine (impl_Checker_isState.calls a0_0 a0_1 _ _ l0_2 _ _ l0_3 _ _ l0_4 _ _ l0_5 ((Zb (Zd l0_3 x50_2) x79_4).f0) true _ ?side1 ?side2 ?side3 ?side4 ?side5 ?side6 ?side7 ?side8 A49.out).mono ?_
         (case side1 => repeat (first | exact (Kd.C_below HR0_2.out HB.out) | (with_reducible refine Kd.C_alloc ?_ _) | (with_reducible refine Kd.C_drewN ?_ _) | (with_reducible refine Kd.C_drew ?_)))
         (case side2 => exact HC0_2.out)
         (case side3 => repeat (first | exact (Kd.C_below HR0_3.out HB.out) | (with_reducible refine Kd.C_alloc ?_ _) | (with_reducible refine Kd.C_drewN ?_ _) | (with_reducible refine Kd.C_drew ?_)))
         (case side4 => exact HC0_3.out)
         (case side5 => repeat (first | exact (Kd.C_below HR0_4.out HB.out) | (with_reducible refine Kd.C_alloc ?_ _) | (with_reducible refine Kd.C_drewN ?_ _) | (with_reducible refine Kd.C_drew ?_)))
         (case side6 => exact HC0_4.out)
         (case side7 => repeat (first | exact (Kd.C_below HR0_5.out HB.out) | (with_reducible refine Kd.C_alloc ?_ _) | (with_reducible refine Kd.C_drewN ?_ _) | (with_reducible refine Kd.C_drew ?_)))
         (case side8 => exact HC0_5.out)
         rintro e w63 ⟨rfl, hb⟩
         refine ⟨_, rfl, ?_⟩
         have n0_ := AZ.mk (bb_ (g := gb473) (o := .cells #[.int .i64 a0_0, .int .i64 a0_1, .slice A0_2 l0_2.length c0_2, .slice (some ad485) l0_3.length c0_3, .slice (some ad490) l0_4.length c0_4, .slice A0_5 l0_5.length c0_5] 27 (0, 0)) (by (with_reducible repeat (first | refine bn_ ?_ _ | refine bd_ ?_ | refine ba_ ?_ _)); exact BK473.out) hb)
         have n1_ := AZ.mk (bb_ (g := gb487) (o := .cells #[.int .i64 ((Zb (Zd l0_3 x50_2) x79_4).f0), .int .i64 ((Zb (Zd l0_3 x50_2) x79_4).f1)] 47 (0, 0)) (by (with_reducible repeat (first | refine bn_ ?_ _ | refine bd_ ?_ | refine ba_ ?_ _)); exact BK487.out) hb)
         have n2_ := AZ.mk (pT (by repeat (first | (with_reducible first | exact HB.out | apply pA | apply pN | apply pD | refine pS ?_ GE473.out | refine pS ?_ GE487.out) | exact HB.out)) hb)
         clear BK473
         clear BK487
         clear HB
         have BK473 := n0_
         have BK487 := n1_
         have HB := n2_
         clear n0_ n1_ n2_
         (try clear hb)
         (try clear hb2)
         (try clear hk)
         (try clear hi)
         refine hK.out _ _ ⟨(bc BK473.out 0).trans rfl, (bc BK473.out 1).trans rfl, (bc BK473.out 2).trans rfl, (bc BK473.out 3).trans rfl, (bc BK473.out 4).trans rfl, (bc BK473.out 5).trans rfl, (bc BK487.out 0).trans rfl, (bc BK487.out 1).trans rfl, ((HB.out.cell (World.block_lt_of_cell? w _ hw490_0)).trans hw490_0), ((HB.out.cell (World.block_lt_of_cell? w _ hw491_0)).trans hw491_0)⟩ (fun hHeld => ?_)
         clear hK K
         refine norm_ (a' := ?_) ?_ ?_
         rotate_left
         ·show Act.put _ (some 93) _ = _
          simp only [Act.put, sA, sB, sC, i64_w, i32_w]
          rfl
         iterate 5 (first | (refine pz_ HT_ impl_ValidChecker.cz1 rfl rfl rfl (v := ?_) (a' := ?_) (by kernel_rfl) (fun _ _ _ h => h) (Or.inl ⟨by rfl, ?_⟩) ?_ ?_; rotate_left; (intro w'; go_simp; with_reducible rfl); rotate_left; (simp only [Act.put, sA, sB, sC, i64_w, i32_w]; rfl)) | (refine tz_ HT_ HW_ impl_ValidChecker.cz1 rfl rfl rfl (v := ?_) (a' := ?_) (by kernel_rfl) (fun _ _ _ h => h) (Or.inl ⟨by rfl, ?_⟩) hHeld ?_ ?_; rotate_left; (rintro w' ⟨s0, s1, s2, s3, s4, s5, s6, s7, s8, s9⟩; go_simp; with_reducible rfl); rotate_left; (simp only [Act.put, sA, sB, sC, i64_w, i32_w]; rfl)))
         refine one_ (i := 9) (N := some 99) (bz 28 1023) rfl rfl (one_of HT_.out (by kernel_rfl)) (by decide) (fun K hK => ?_)
         refine goes_ Try.func106 (by kernel_rfl) rfl #[.agg #[.int .i64 a0_0, .int .i64 a0_1, .slice A0_2 l0_2.length c0_2, .slice (some ad485) l0_3.length c0_3, .slice (some ad490) l0_4.length c0_4, .slice A0_5 l0_5.length c0_5], .int .i64 ((Zb (Zd l0_3 x50_2) x79_4).f1)] (by rfl) rfl rfl (by (try simp only [mA, mB, mC]); first | done | rfl | (simp only [lD, lT]; rfl)) ?_
         with_reducible refine (impl_Checker_isMark.calls a0_0 a0_1 _ _ l0_2 _ _ l0_3 _ _ l0_4 _ _ l0_5 ((Zb (Zd l0_3 x50_2) x79_4).f1) true _ ?side1 ?side2 ?side3 ?side4 ?side5 ?side6 ?side7 ?side8 A51.out).mono ?_
         (case side1 => repeat (first | exact (Kd.C_below HR0_2.out HB.out) | (with_reducible refine Kd.C_alloc ?_ _) | (with_reducible refine Kd.C_drewN ?_ _) | (with_reducible refine Kd.C_drew ?_)))
         (case side2 => exact HC0_2.out)
         (case side3 => repeat (first | exact (Kd.C_below HR0_3.out HB.out) | (with_reducible refine Kd.C_alloc ?_ _) | (with_reducible refine Kd.C_drewN ?_ _) | (with_reducible refine Kd.C_drew ?_)))
         (case side4 => exact HC0_3.out)
         (case side5 => repeat (first | exact (Kd.C_below HR0_4.out HB.out) | (with_reducible refine Kd.C_alloc ?_ _) | (with_reducible refine Kd.C_drewN ?_ _) | (with_reducible refine Kd.C_drew ?_)))
         (case side6 => exact HC0_4.out)
         (case side7 => repeat (first | exact (Kd.C_below HR0_5.out HB.out) | (with_reducible refine Kd.C_alloc ?_ _) | (with_reducible refine Kd.C_drewN ?_ _) | (with_reducible refine Kd.C_drew ?_)))
         (case side8 => exact HC0_5.out)
         rintro e w64 ⟨rfl, hb⟩
         refine ⟨_, rfl, ?_⟩
         have n0_ := AZ.mk (bb_ (g := gb473) (o := .cells #[.int .i64 a0_0, .int .i64 a0_1, .slice A0_2 l0_2.length c0_2, .slice (some ad485) l0_3.length c0_3, .slice (some ad490) l0_4.length c0_4, .slice A0_5 l0_5.length c0_5] 27 (0, 0)) (by (with_reducible repeat (first | refine bn_ ?_ _ | refine bd_ ?_ | refine ba_ ?_ _)); exact BK473.out) hb)
         have n1_ := AZ.mk (bb_ (g := gb487) (o := .cells #[.int .i64 ((Zb (Zd l0_3 x50_2) x79_4).f0), .int .i64 ((Zb (Zd l0_3 x50_2) x79_4).f1)] 47 (0, 0)) (by (with_reducible repeat (first | refine bn_ ?_ _ | refine bd_ ?_ | refine ba_ ?_ _)); exact BK487.out) hb)
         have n2_ := AZ.mk (pT (by repeat (first | (with_reducible first | exact HB.out | apply pA | apply pN | apply pD | refine pS ?_ GE473.out | refine pS ?_ GE487.out) | exact HB.out)) hb)
         clear BK473
         clear BK487
         clear HB
         have BK473 := n0_
         have BK487 := n1_
         have HB := n2_
         clear n0_ n1_ n2_
         (try clear hb)
         (try clear hb2)
         (try clear hk)
         (try clear hi)
         refine hK.out _ _ ⟨(bc BK473.out 0).trans rfl, (bc BK473.out 1).trans rfl, (bc BK473.out 2).trans rfl, (bc BK473.out 3).trans rfl, (bc BK473.out 4).trans rfl, (bc BK473.out 5).trans rfl, (bc BK487.out 0).trans rfl, (bc BK487.out 1).trans rfl, ((HB.out.cell (World.block_lt_of_cell? w _ hw490_0)).trans hw490_0), ((HB.out.cell (World.block_lt_of_cell? w _ hw491_0)).trans hw491_0)⟩ (fun hHeld => ?_)
         clear hK K
         refine norm_ (a' := ?_) ?_ ?_
         rotate_left
         ·show Act.put _ (some 99) _ = _
          simp only [Act.put, sA, sB, sC, i64_w, i32_w]
          rfl
         iterate 15 (first | (refine pz_ HT_ impl_ValidChecker.cz2 rfl rfl rfl (v := ?_) (a' := ?_) (by kernel_rfl) (fun _ _ _ h => h) (Or.inl ⟨by rfl, ?_⟩) ?_ ?_; rotate_left; (intro w'; go_simp; with_reducible rfl); rotate_left; (simp only [Act.put, sA, sB, sC, i64_w, i32_w]; rfl)) | (refine tz_ HT_ HW_ impl_ValidChecker.cz2 rfl rfl rfl (v := ?_) (a' := ?_) (by kernel_rfl) (fun _ _ _ h => h) (Or.inl ⟨by rfl, ?_⟩) hHeld ?_ ?_; rotate_left; (rintro w' ⟨s0, s1, s2, s3, s4, s5, s6, s7, s8, s9⟩; go_simp; with_reducible rfl); rotate_left; (simp only [Act.put, sA, sB, sC, i64_w, i32_w]; rfl)))
         refine one_ (i := 25) (N := some 115) (bz 28 67108863) rfl rfl (one_of HT_.out (by kernel_rfl)) (by decide) (fun K hK => ?_)
         refine goesV_ Try.func102 (by kernel_rfl) rfl #[.slice A491_0 (rd_L4 (rd_L5 l0_4 x50_2) x79_4).length c491_0, .int .i64 (wrap64 (a0_0 + 1))] #[.slice A491_0 (rd_L4 (rd_L5 l0_4 x50_2) x79_4).length c491_0, .int .i64 (wrap64 (a0_0 + 1)), .pointer (some ⟨gb473, 0, none⟩)] (by rfl) rfl rfl (by rfl) (by (try simp only [mA, mB, mC]); first | done | rfl | (simp only [lD, lT]; rfl)) (by rfl) ?_
         with_reducible refine (impl_ValidChecker_1_c.calls k4 _ _ (rd_L4 (rd_L5 l0_4 x50_2) x79_4) (wrap64 (a0_0 + 1)) gb473 a0_0 a0_1 A0_2 c0_2 l0_2 (some ad485) c0_3 l0_3 (some ad490) c0_4 l0_4 A0_5 c0_5 l0_5 true _ ?side1 ?side2 ?side3 ?side4 ?side5 ?side6 ?side7 ?side8 ?side9 ?side10 ?side11 A55.out).mono ?_
         (case side1 => repeat (first | exact (Kd.C_below HR491_0.out HB.out) | (with_reducible refine Kd.C_alloc ?_ _) | (with_reducible refine Kd.C_drewN ?_ _) | (with_reducible refine Kd.C_drew ?_)))
         (case side2 => exact HC491_0.out)
         (case side3 => repeat (first | exact (Kd.C_below HR0_2.out HB.out) | (with_reducible refine Kd.C_alloc ?_ _) | (with_reducible refine Kd.C_drewN ?_ _) | (with_reducible refine Kd.C_drew ?_)))
         (case side4 => exact HC0_2.out)
         (case side5 => repeat (first | exact (Kd.C_below HR0_3.out HB.out) | (with_reducible refine Kd.C_alloc ?_ _) | (with_reducible refine Kd.C_drewN ?_ _) | (with_reducible refine Kd.C_drew ?_)))
         (case side6 => exact HC0_3.out)
         (case side7 => repeat (first | exact (Kd.C_below HR0_4.out HB.out) | (with_reducible refine Kd.C_alloc ?_ _) | (with_reducible refine Kd.C_drewN ?_ _) | (with_reducible refine Kd.C_drew ?_)))
         (case side8 => exact HC0_4.out)
         (case side9 => repeat (first | exact (Kd.C_below HR0_5.out HB.out) | (with_reducible refine Kd.C_alloc ?_ _) | (with_reducible refine Kd.C_drewN ?_ _) | (with_reducible refine Kd.C_drew ?_)))
         (case side10 => exact HC0_5.out)
         (case side11 => exact (by (with_reducible repeat (first | refine bn_ ?_ _ | refine bd_ ?_ | refine ba_ ?_ _)); exact BK473.out))
         rintro e w65 ⟨rfl, hb⟩
         refine ⟨_, rfl, ?_⟩
         have n0_ := AZ.mk (bb_ (g := gb473) (o := .cells #[.int .i64 a0_0, .int .i64 a0_1, .slice A0_2 l0_2.length c0_2, .slice (some ad485) l0_3.length c0_3, .slice (some ad490) l0_4.length c0_4, .slice A0_5 l0_5.length c0_5] 27 (0, 0)) (by (with_reducible repeat (first | refine bn_ ?_ _ | refine bd_ ?_ | refine ba_ ?_ _)); exact BK473.out) hb)
         have n1_ := AZ.mk (bb_ (g := gb487) (o := .cells #[.int .i64 ((Zb (Zd l0_3 x50_2) x79_4).f0), .int .i64 ((Zb (Zd l0_3 x50_2) x79_4).f1)] 47 (0, 0)) (by (with_reducible repeat (first | refine bn_ ?_ _ | refine bd_ ?_ | refine ba_ ?_ _)); exact BK487.out) hb)
         have n2_ := AZ.mk (pT (by repeat (first | (with_reducible first | exact HB.out | apply pA | apply pN | apply pD | refine pS ?_ GE473.out | refine pS ?_ GE487.out) | exact HB.out)) hb)
         clear BK473
         clear BK487
         clear HB
         have BK473 := n0_
         have BK487 := n1_
         have HB := n2_
         clear n0_ n1_ n2_
         (try clear hb)
         (try clear hb2)
         (try clear hk)
         (try clear hi)
         refine hK.out _ _ ⟨(bc BK473.out 0).trans rfl, (bc BK473.out 1).trans rfl, (bc BK473.out 2).trans rfl, (bc BK473.out 3).trans rfl, (bc BK473.out 4).trans rfl, (bc BK473.out 5).trans rfl, (bc BK487.out 0).trans rfl, (bc BK487.out 1).trans rfl, ((HB.out.cell (World.block_lt_of_cell? w _ hw490_0)).trans hw490_0), ((HB.out.cell (World.block_lt_of_cell? w _ hw491_0)).trans hw491_0)⟩ (fun hHeld => ?_)
         clear hK K
         refine norm_ (a' := ?_) ?_ ?_
         rotate_left
         ·show Act.put _ (some 115) _ = _
          simp only [Act.put, sA, sB, sC, i64_w, i32_w]
          rfl
         iterate 2 (first | (refine pz_ HT_ impl_ValidChecker.cz3 rfl rfl rfl (v := ?_) (a' := ?_) (by kernel_rfl) (fun _ _ _ h => h) (Or.inl ⟨by rfl, ?_⟩) ?_ ?_; rotate_left; (intro w'; go_simp; with_reducible rfl); rotate_left; (simp only [Act.put, sA, sB, sC, i64_w, i32_w]; rfl)))
         refine done_ (done_of HT_.out (by kernel_rfl)) ?_
         try go_wp2
         go_roundg k4
         case measure => have := HJ2.out; have := HK2.out; have := HJ30.out; have := HK4.out; omega
         case rel => exact ⟨(wrap64 (x79_4 + 1)), (by first | rfl | (simp; done) | (simp [*]; done)), H', ⟨by have := HJ2.out; have := HK2.out; have := HJ30.out; have := HK4.out; omega⟩, ⟨by (with_reducible repeat (first | refine bn_ ?_ _ | refine bd_ ?_ | refine ba_ ?_ _)); exact BK473.out⟩, ⟨by repeat (first | (with_reducible first | exact HB.out | apply pA | apply pN | apply pD | refine pS ?_ GE473.out | refine pS ?_ GE487.out) | exact HB.out)⟩⟩
attribute [local go_sem] Zn Zp Zw Zx Zj Zk Zq Zr
def impl_OppositeChecker_1_c.f (a0 : Int) (a1_0 : Int) (a1_1 : Int) (l1_2 : List Bool) (l1_3 : List (List (S47))) (l1_4 : List (List (List Int))) (l1_5 : List (List Int)) : Option (Bool) := if 0 ≤ a0 then (if a0 < (l1_2.length : Int) then (some (!(rdOf false l1_2 a0))) else (none)) else (none)
attribute [local go_sem] Zn Zp Zw Zx Zj Zk Zq Zr
def impl_Checker_accepting_2_c.f (a0 : Int) (a1 : Int) (a2 : Int) (a3_0 : Int) (a3_1 : Int) (l3_2 : List Bool) (l3_3 : List (List (S47))) (l3_4 : List (List (List Int))) (l3_5 : List (List Int)) : Option (Int) := if 0 ≤ a0 then (if a0 < (l3_4.length : Int) then (if 0 ≤ a1 then (if a1 < ((rd_L5 l3_4 a0).length : Int) then (if 0 ≤ a2 then (if a2 < ((rd_L4 (rd_L5 l3_4 a0) a1).length : Int) then (some (rd (rd_L4 (rd_L5 l3_4 a0) a1) a2)) else (none)) else (none)) else (none)) else (none)) else (none)) else (none)
attribute [local go_sem] Zn Zp Zw Zx Zj Zk Zq Zr
def impl_Checker_accepting_1_c.f (a0 : Int) (a1 : Int) (a2_0 : Int) (a2_1 : Int) (l2_2 : List Bool) (l2_3 : List (List (S47))) (l2_4 : List (List (List Int))) (l2_5 : List (List Int)) : Option (Int × Int) := if 0 ≤ a0 then (if a0 < (l2_3.length : Int) then (if 0 ≤ a1 then (if a1 < ((Zd l2_3 a0).length : Int) then (some ((Zb (Zd l2_3 a0) a1).f0, (Zb (Zd l2_3 a0) a1).f1)) else (none)) else (none)) else (none)) else (none)
attribute [local go_sem] Zn Zp Zw Zx Zj Zk Zq Zr
def impl_Checker_accepting_3_c.f (a0 : Int) (a1 : Int) (a2_0 : Int) (a2_1 : Int) (l2_2 : List Bool) (l2_3 : List (List (S47))) (l2_4 : List (List (List Int))) (l2_5 : List (List Int)) : Option (Int) := if 0 ≤ a0 then (if a0 < (l2_5.length : Int) then (if 0 ≤ a1 then (if a1 < ((rd_L4 l2_5 a0).length : Int) then (some (rd (rd_L4 l2_5 a0) a1)) else (none)) else (none)) else (none)) else (none)
end Go.Proofs.Ytepkfigcnnfoaaa.P
namespace Go.Proofs.Ytepkfigcnnfoaaa.P
open Go.RowKit Go.Proofs.YtepkfigcnnfoaaaW.PrintWords Go.Proofs.YtepkfigcnnfoaaaW.PrintLast Go.Proofs.YtepkfigcnnfoaaaW.PrintMore Go.Proofs.Ytepkfigcnnfoaaa.Deep
section
variable {ops : Array Oper} {o : Oper} {a : Act} {Q : Exit → Act → World → Prop} {W : World} {K : Act → World → Prop}
theorem store27_step (hw : Region.wanted o (yielded ops a.tmps) = true) (hN : o.dst = none) (p v : Tmp) (ho : o.op = .store 27 (.tmp p) (.tmp v)) {g : Nat} {old cs : Array Value} (hx : a.eval (.tmp p) = .pointer (some ⟨g, 0, none⟩)) (hy : a.eval (.tmp v) = .agg cs) (hb : W.heap[g]? = some (.cells old 27 (0, 0)))
  (hs : cs.size = 6) (hs0 : old.size = 6) (h1 : cs.all (·.oneCell') = true)
  (h : ∀ w', w'.heap[g]? = some (.cells cs 27 (0, 0)) → (∀ B w0, Below B w0 W → B ≤ g → Below B w0 w') → (∀ k, k ≠ g → w'.heap[k]? = W.heap[k]?) → K (a.put none undef) w') : if Region.wanted o (yielded ops a.tmps) = true then Oper.wp Try.prog o a W K Q else K (a.put none undef) W := by
 rw [if_pos hw]
 refine wp_store_row 27 _ _ ho g cs hx hy 27 old hb (by rw [size27, hs]) (by omega) h1 ?_
 rw [hN]
 exact h _ (setRow_heap _ _ _ _ _ _ hb) (fun B w0 hB hle => hB.trans ⟨rfl, rfl, rfl, by simp, fun k hk => setRow_other _ _ _ _ (by omega)⟩) (fun k hk => setRow_other _ _ _ _ hk)
end
def callC (l3 : List (List S47)) : Nat → Nat → S47 := fun s q => Zb (Zd l3 (s : Int)) (q : Int)
def backC (l4 : List (List (List Int))) : Nat → Nat → Nat → Int := fun s q x => rd (rd_L4 (rd_L5 l4 (s : Int)) (q : Int)) (x : Int)
def innerC (l5 : List (List Int)) : Nat → Nat → Int := fun s q => rd (rd_L4 l5 (s : Int)) (q : Int)
structure Shp (m : Nat) (l2 : List Bool) (l3 : List (List S47)) (l4 : List (List (List Int))) (l5 : List (List Int)) : Prop where
 hn : l2.length ≤ 2000
 hm : m ≤ 7000
 c : l3.length = l2.length
 c1 : ∀ x ∈ l3, x.length = 2
 r : l4.length = l2.length
 r1 : ∀ x ∈ l4, x.length = 2 ∧ ∀ y ∈ x, y.length = m + 1
 i : l5.length = l2.length
 i1 : ∀ x ∈ l5, x.length = 2
section
variable {m : Nat} {st : Int} {l2 : List Bool} {l3 : List (List S47)} {l4 : List (List (List Int))} {l5 : List (List Int)} (h : Shp m l2 l3 l4 l5)
include h
theorem Shp.at3 (s : Nat) (hs : s < l2.length) : ∃ x ∈ l3, Zd l3 (s : Int) = x := ⟨l3[s]'(by rw [h.c]; exact hs), List.getElem_mem _, by unfold Zd; rw [Int.toNat_natCast, List.getD_eq_getElem?_getD, List.getElem?_eq_getElem (by rw [h.c]; exact hs)]; rfl⟩
theorem Shp.at4 (s : Nat) (hs : s < l2.length) : ∃ x ∈ l4, rd_L5 l4 (s : Int) = x := ⟨l4[s]'(by rw [h.r]; exact hs), List.getElem_mem _, by unfold rd_L5; rw [Int.toNat_natCast, List.getD_eq_getElem?_getD, List.getElem?_eq_getElem (by rw [h.r]; exact hs)]; rfl⟩
theorem Shp.at5 (s : Nat) (hs : s < l2.length) : ∃ x ∈ l5, rd_L4 l5 (s : Int) = x := ⟨l5[s]'(by rw [h.i]; exact hs), List.getElem_mem _, by unfold rd_L4; rw [Int.toNat_natCast, List.getD_eq_getElem?_getD, List.getElem?_eq_getElem (by rw [h.i]; exact hs)]; rfl⟩
theorem Shp.call (s q : Nat) (hs : s < l2.length) (hq : q < 2) : impl_Checker_accepting_1_c.f (s : Int) (q : Int) (m : Int) st l2 l3 l4 l5 = some ((callC l3 s q).f0, (callC l3 s q).f1) := by
 obtain ⟨x, hx, e⟩ := h.at3 s hs
 have := h.c1 x hx
 have := h.c
 unfold impl_Checker_accepting_1_c.f callC
 rw [e, if_pos (by omega), if_pos (by omega), if_pos (by omega), if_pos (by omega)]
theorem Shp.back (s q x : Nat) (hs : s < l2.length) (hq : q < 2) (hx : x < m + 1) : impl_Checker_accepting_2_c.f (s : Int) (q : Int) (x : Int) (m : Int) st l2 l3 l4 l5 = some (backC l4 s q x) := by
 obtain ⟨y, hy, e⟩ := h.at4 s hs
 obtain ⟨h1, h2⟩ := h.r1 y hy
 have h3 : rd_L4 y (q : Int) = y[q]'(by omega) := by unfold rd_L4; rw [Int.toNat_natCast, List.getD_eq_getElem?_getD, List.getElem?_eq_getElem (by omega)]; rfl
 have h4 := h2 _ (List.getElem_mem (by omega : q < y.length))
 have := h.r
 unfold impl_Checker_accepting_2_c.f backC
 rw [e, h3, if_pos (by omega), if_pos (by omega), if_pos (by omega), if_pos (by omega), if_pos (by omega), if_pos (by omega)]
theorem Shp.inner (s q : Nat) (hs : s < l2.length) (hq : q < 2) : impl_Checker_accepting_3_c.f (s : Int) (q : Int) (m : Int) st l2 l3 l4 l5 = some (innerC l5 s q) := by
 obtain ⟨x, hx, e⟩ := h.at5 s hs
 have := h.i1 x hx
 have := h.i
 unfold impl_Checker_accepting_3_c.f innerC
 rw [e, if_pos (by omega), if_pos (by omega), if_pos (by omega), if_pos (by omega)]
end
def accepting.T1 : Bool × List (List Nat × List Nat) := (true, [([], []), ([0], [0]), ([1], [1]), ([], []), ([3], [3]), ([], []), ([5], [5]), ([], []), ([], []), ([], []), ([], []), ([2, 4, 6, 7, 8, 9, 10, 2], [2, 4, 6, 7, 8, 9, 10]), ([11, 11, 0, 1, 2, 3, 4, 5, 6, 7, 8, 9, 10, 11], [11])])
def accepting.B1 : List Nat := [0, 1, 3, 0, 8, 0, 32, 0, 0, 0, 0, 2047, 4095]
def accC (l2 : List Bool) : Nat → Bool := fun s => !(rdOf false l2 (s : Int))
section
variable {m : Nat} {l2 : List Bool} {l3 : List (List S47)} {l4 : List (List (List Int))} {l5 : List (List Int)} (h : Shp m l2 l3 l4 l5)
include h
end
theorem own_nil' (w : World) (B : Nat) : OwnC w B nilV nilV nilV nilV [] [] [] [] := ⟨fun _ => 0, Kd.R_nil _ _ _ _ _, Kd.S_nil _ _ _ _ _, Kd.S_nil _ _ _ _ _, Kd.S_nil _ _ _ _ _⟩
def OwnB (w : World) (B N : Nat) (vA vC vR vI : Value) (LA : List Bool) (LC : List (List S47)) (LR : List (List (List Int))) (LI : List (List Int)) : Prop :=
 ∃ f : Nat → Nat, Kd.bool.R 4 w B (fun k => f k = 0 ∧ k < N) vA LA ∧ Kd.S (Kd.slice 47 k47) 48 w B (fun k => f k = 1 ∧ k < N) vC LC ∧ Kd.S (sliceS 49 (Kd.slice 2 (Kd.int .i64))) 25 w B (fun k => f k = 2 ∧ k < N) vR LR ∧ Kd.S (Kd.slice 2 (Kd.int .i64)) 49 w B (fun k => f k = 3 ∧ k < N) vI LI
section
variable {w w' : World} {B N : Nat} {vA vC vR vI : Value} {LA : List Bool} {LC : List (List S47)} {LR : List (List (List Int))} {LI : List (List Int)}
theorem own_bound (h : OwnC w B vA vC vR vI LA LC LR LI) (hb : Below w.heap.size w w') : OwnB w' B w.heap.size vA vC vR vI LA LC LR LI := by
 obtain ⟨f, h0, h1, h2, h3⟩ := h
 have hgr := Yj hb none
 exact ⟨f, Kd.R_grown (R_tag_in h0) hgr (fun _ _ e => by cases e), Kd.S_grown (S_tag_in h1) hgr (fun _ _ e => by cases e), Kd.S_grown (S_tag_in h2) hgr (fun _ _ e => by cases e), Kd.S_grown (S_tag_in h3) hgr (fun _ _ e => by cases e)⟩
theorem own_lower {B' : Nat} (h : OwnC w B vA vC vR vI LA LC LR LI) (hB : B' ≤ B) : OwnC w B' vA vC vR vI LA LC LR LI := by
 obtain ⟨f, h0, h1, h2, h3⟩ := h
 exact ⟨f, Kd.R_lower h0 hB, Kd.S_lower h1 hB, Kd.S_lower h2 hB, Kd.S_lower h3 hB⟩
end
def nuC (a : Int) (LA : List Bool) : Int := a + (LA.length : Int)
def nuR (a : Int) (LA : List Bool) (LC : List (List S47)) : Int := nuC a LA + (tot szP LC : Int)
def nuI (a : Int) (LA : List Bool) (LC : List (List S47)) (LR : List (List (List Int))) : Int := nuR a LA LC + (tot szII LR : Int)
def nuE (a : Int) (LA : List Bool) (LC : List (List S47)) (LR : List (List (List Int))) (LI : List (List Int)) : Int := nuI a LA LC LR + (szII LI : Int)
theorem markChecker_keptN (a : Int) (hst : 0 ≤ a ∧ a ≤ 2305843009213693952) (w0 w : World) (N : Nat) (hNle : N ≤ w.heap.size) (m st : Int) (vA vC vR vI : Value) (LA : List Bool) (LC : List (List S47)) (LR : List (List (List Int))) (LI : List (List Int)) (hk : okC LA LC LR LI) (hB : Below w0.heap.size w0 w) (hO : OwnB w w0.heap.size N vA vC vR vI LA LC LR LI) (g : Nat) (csg : Array Value) (hg : w.heap[g]? = some (.cells csg 27 (0, 0))) :
  Calls Try.prog 13 #[.agg #[.int .i64 m, .int .i64 st, vA, vC, vR, vI], .int .i64 a] w fun e w' => e = .returned (.int .i64 (nuE a LA LC LR LI)) ∧ OwnC w' w0.heap.size vA vC vR vI (upB a LA.length) (mks szP mkP LC (nuC a LA)) (mks szII mkII LR (nuR a LA LC)) (mkII LI (nuI a LA LC LR)) ∧ Below w0.heap.size w0 w' ∧ w'.heap[g]? = some (.cells csg 27 (0, 0)) ∧ Kept w w' (fun k => k < N) := by
 have hu27 := Try.underlying27
 obtain ⟨f, h0, h1, h2, h3⟩ := hO
 obtain ⟨⟨A0, n0, c0, rfl⟩, ⟨A1, n1, c1, rfl⟩, ⟨A2, n2, c2, rfl⟩, ⟨A3, n3, c3, rfl⟩⟩ : (∃ A n c, vA = .slice A n c) ∧ (∃ A n c, vC = .slice A n c) ∧ (∃ A n c, vR = .slice A n c) ∧ (∃ A n c, vI = .slice A n c) := ⟨shapeR h0, shapeS h1, shapeS h2, shapeS h3⟩
 obtain ⟨vA, hvA⟩ : ∃ v, v = Value.slice A0 n0 c0 := ⟨_, rfl⟩
 obtain ⟨vC, hvC⟩ : ∃ v, v = Value.slice A1 n1 c1 := ⟨_, rfl⟩
 obtain ⟨vR, hvR⟩ : ∃ v, v = Value.slice A2 n2 c2 := ⟨_, rfl⟩
 obtain ⟨vI, hvI⟩ : ∃ v, v = Value.slice A3 n3 c3 := ⟨_, rfl⟩
 have HN := AZ.mk hNle
 have HST := AZ.mk hst
 have HKP := AZ.mk (Kept.refl w (fun k => k < N))
 have HA := AZ.mk (show Kd.bool.R 4 w w0.heap.size (tgN f N g 0) (Value.slice A0 n0 c0) LA from Kd.R_types h0 hg (by decide))
 have HC := AZ.mk (show Kd.S (Kd.slice 47 k47) 48 w w0.heap.size (tgN f N g 1) (Value.slice A1 n1 c1) LC from Kd.S_types h1 hg (by decide))
 have HR := AZ.mk (show Kd.S (sliceS 49 (Kd.slice 2 (Kd.int .i64))) 25 w w0.heap.size (tgN f N g 2) (Value.slice A2 n2 c2) LR from Kd.S_types h2 hg (by decide))
 have HI := AZ.mk (show Kd.S (Kd.slice 2 (Kd.int .i64)) 49 w w0.heap.size (tgN f N g 3) (Value.slice A3 n3 c3) LI from Kd.S_types h3 hg (by decide))
 have HB := AZ.mk hB
 have HK := AZ.mk hk
 have BG := AZ.mk hg
 clear h0 h1 h2 h3 hB hk hst hNle hg hvA hvC hvR hvI
 clear vA vC vR vI
 go_enter Try.func13, Try.ntmps13
 go_wp2_with (first | ((with_reducible refine Zc (N := 2) rfl ?_); refine Zh rfl (N := 2) rfl (cs := #[.int .i64 m, .int .i64 st, .slice A0 n0 c0, .slice A1 n1 c1, .slice A2 n2 c2, .slice A3 n3 c3]) (t := 27) (by go_simp; try rfl) ?_; intro gb hg W9 hbx hb; have hgr := Yj hb none; have n0_ := AZ.mk (Kd.R_grown HA.out hgr (fun _ _ e => by cases e)); have n1_ := AZ.mk (Kd.S_grown HC.out hgr (fun _ _ e => by cases e)); have n2_ := AZ.mk (Kd.S_grown HR.out hgr (fun _ _ e => by cases e)); have n3_ := AZ.mk (Kd.S_grown HI.out hgr (fun _ _ e => by cases e)); have BK := AZ.mk hbx; have GB := AZ.mk (show N ≤ gb by rw [hg]; exact HN.out); have n4_ := AZ.mk (pT HB.out hb); have n5_ := AZ.mk (bb_ BG.out hb); have n6_ := AZ.mk (Kept.of_below hb (fun k => k < N)); clear HKP HA HC HR HI HB BG hgr hbx hb hg; have HA := n0_; have HC := n1_; have HR := n2_; have HI := n3_; have HB := n4_; have BG := n5_; have HKP := n6_; clear n0_ n1_ n2_ n3_ n4_ n5_ n6_; have hc2 := (bc BK.out 2 : W9.cell? ⟨gb, 2, none⟩ = _).trans rfl; have hc3 := (bc BK.out 3 : W9.cell? ⟨gb, 3, none⟩ = _).trans rfl; have hc4 := (bc BK.out 4 : W9.cell? ⟨gb, 4, none⟩ = _).trans rfl; have hc5 := (bc BK.out 5 : W9.cell? ⟨gb, 5, none⟩ = _).trans rfl) | ((with_reducible refine gate_callee (f := 38) rfl ?_); refine Zi (some 8) rfl rfl Try.func38 (by kernel_rfl) rfl #[.slice A0 n0 c0, .int .i64 a] rfl (by (try simp only [mA, mB, mC]); first | done | rfl) ?_; refine (markBoolS_calls w0 _ LA a _ _ HK.out.a HST.out.1 (by have := HST.out.2; omega) HB.out HA.out).mono ?_; rintro e W0 ⟨rfl, hR, hB2, hK2⟩; refine ⟨_, rfl, ?_⟩; have n0_ := AZ.mk hR; have n2_ := AZ.mk (Kd.S_kept HC.out hK2 (fun k hk hn => absurd (hk.1.1.symm.trans hn.1.1) (by decide))); have n3_ := AZ.mk (Kd.S_kept HR.out hK2 (fun k hk hn => absurd (hk.1.1.symm.trans hn.1.1) (by decide))); have n4_ := AZ.mk (Kd.S_kept HI.out hK2 (fun k hk hn => absurd (hk.1.1.symm.trans hn.1.1) (by decide))); have n5_ := AZ.mk (show W0.heap[gb]? = some (.cells #[.int .i64 m, .int .i64 st, .slice A0 n0 c0, .slice A1 n1 c1, .slice A2 n2 c2, .slice A3 n3 c3] 27 (0, 0)) from (hK2.2 gb (Zv BK.out) (fun h => absurd h.1.2 (by have := GB.out; omega))).trans BK.out); have n6_ := AZ.mk hB2; have n7_ := AZ.mk ((hK2.2 g (Zv BG.out) (fun h => h.2 rfl)).trans BG.out); have n8_ := AZ.mk (Kept.then_ HKP.out hK2 (fun k hk => .inl hk.1.2)); clear HKP HA HC HR HI BK HB BG hc2 hc3 hc4 hc5 hR hB2 hK2; have HA := n0_; have HC := n2_; have HR := n3_; have HI := n4_; have BK := n5_; have HB := n6_; have BG := n7_; have HKP := n8_; clear n0_ n2_ n3_ n4_ n5_ n6_ n7_ n8_; have hc2 := (bc BK.out 2 : W0.cell? ⟨gb, 2, none⟩ = _).trans rfl; have hc3 := (bc BK.out 3 : W0.cell? ⟨gb, 3, none⟩ = _).trans rfl; have hc4 := (bc BK.out 4 : W0.cell? ⟨gb, 4, none⟩ = _).trans rfl; have hc5 := (bc BK.out 5 : W0.cell? ⟨gb, 5, none⟩ = _).trans rfl) | ((with_reducible refine gate_callee (f := 39) rfl ?_); refine Zi (some 12) rfl rfl Try.func39 (by kernel_rfl) rfl #[.slice A1 n1 c1, .int .i64 (nuC a LA)] rfl (by (try simp only [mA, mB, mC]); first | done | rfl) ?_; refine (markPushSS_calls w0 _ LC (nuC a LA) _ _ HK.out.c HK.out.c1 (by have := HST.out; unfold nuC; omega) (by have := HK.out.s; have := HST.out; unfold nuC; omega) HB.out HC.out).mono ?_; rintro e W1 ⟨rfl, hR, hB2, hK2⟩; refine ⟨_, rfl, ?_⟩; have n0_ := AZ.mk hR; have n1_ := AZ.mk (Kd.R_kept HA.out hK2 (fun k hk hn => absurd (hk.1.1.symm.trans hn.1.1) (by decide))); have n3_ := AZ.mk (Kd.S_kept HR.out hK2 (fun k hk hn => absurd (hk.1.1.symm.trans hn.1.1) (by decide))); have n4_ := AZ.mk (Kd.S_kept HI.out hK2 (fun k hk hn => absurd (hk.1.1.symm.trans hn.1.1) (by decide))); have n5_ := AZ.mk (show W1.heap[gb]? = some (.cells #[.int .i64 m, .int .i64 st, .slice A0 n0 c0, .slice A1 n1 c1, .slice A2 n2 c2, .slice A3 n3 c3] 27 (0, 0)) from (hK2.2 gb (Zv BK.out) (fun h => absurd h.1.2 (by have := GB.out; omega))).trans BK.out); have n6_ := AZ.mk hB2; have n7_ := AZ.mk ((hK2.2 g (Zv BG.out) (fun h => h.2 rfl)).trans BG.out); have n8_ := AZ.mk (Kept.then_ HKP.out hK2 (fun k hk => .inl hk.1.2)); clear HKP HA HC HR HI BK HB BG hc2 hc3 hc4 hc5 hR hB2 hK2; have HA := n1_; have HC := n0_; have HR := n3_; have HI := n4_; have BK := n5_; have HB := n6_; have BG := n7_; have HKP := n8_; clear n0_ n1_ n3_ n4_ n5_ n6_ n7_ n8_; have hc2 := (bc BK.out 2 : W1.cell? ⟨gb, 2, none⟩ = _).trans rfl; have hc3 := (bc BK.out 3 : W1.cell? ⟨gb, 3, none⟩ = _).trans rfl; have hc4 := (bc BK.out 4 : W1.cell? ⟨gb, 4, none⟩ = _).trans rfl; have hc5 := (bc BK.out 5 : W1.cell? ⟨gb, 5, none⟩ = _).trans rfl) | ((with_reducible refine gate_callee (f := 40) rfl ?_); refine Zi (some 16) rfl rfl Try.func40 (by kernel_rfl) rfl #[.slice A2 n2 c2, .int .i64 (nuR a LA LC)] rfl (by (try simp only [mA, mB, mC]); first | done | rfl) ?_; refine (markInt64SSS_calls w0 _ LR (nuR a LA LC) _ _ HK.out.r HK.out.r1 (by have := HST.out; unfold nuR nuC; omega) (by have := HK.out.s; have := HST.out; unfold nuR nuC; omega) HB.out HR.out).mono ?_; rintro e W2 ⟨rfl, hR, hB2, hK2⟩; refine ⟨_, rfl, ?_⟩; have n0_ := AZ.mk hR; have n1_ := AZ.mk (Kd.R_kept HA.out hK2 (fun k hk hn => absurd (hk.1.1.symm.trans hn.1.1) (by decide))); have n2_ := AZ.mk (Kd.S_kept HC.out hK2 (fun k hk hn => absurd (hk.1.1.symm.trans hn.1.1) (by decide))); have n4_ := AZ.mk (Kd.S_kept HI.out hK2 (fun k hk hn => absurd (hk.1.1.symm.trans hn.1.1) (by decide))); have n5_ := AZ.mk (show W2.heap[gb]? = some (.cells #[.int .i64 m, .int .i64 st, .slice A0 n0 c0, .slice A1 n1 c1, .slice A2 n2 c2, .slice A3 n3 c3] 27 (0, 0)) from (hK2.2 gb (Zv BK.out) (fun h => absurd h.1.2 (by have := GB.out; omega))).trans BK.out); have n6_ := AZ.mk hB2; have n7_ := AZ.mk ((hK2.2 g (Zv BG.out) (fun h => h.2 rfl)).trans BG.out); have n8_ := AZ.mk (Kept.then_ HKP.out hK2 (fun k hk => .inl hk.1.2)); clear HKP HA HC HR HI BK HB BG hc2 hc3 hc4 hc5 hR hB2 hK2; have HA := n1_; have HC := n2_; have HR := n0_; have HI := n4_; have BK := n5_; have HB := n6_; have BG := n7_; have HKP := n8_; clear n0_ n1_ n2_ n4_ n5_ n6_ n7_ n8_; have hc2 := (bc BK.out 2 : W2.cell? ⟨gb, 2, none⟩ = _).trans rfl; have hc3 := (bc BK.out 3 : W2.cell? ⟨gb, 3, none⟩ = _).trans rfl; have hc4 := (bc BK.out 4 : W2.cell? ⟨gb, 4, none⟩ = _).trans rfl; have hc5 := (bc BK.out 5 : W2.cell? ⟨gb, 5, none⟩ = _).trans rfl) | ((with_reducible refine gate_callee (f := 41) rfl ?_); refine Zi (some 20) rfl rfl Try.func41 (by kernel_rfl) rfl #[.slice A3 n3 c3, .int .i64 (nuI a LA LC LR)] rfl (by (try simp only [mA, mB, mC]); first | done | rfl) ?_; refine (markInt64SS_calls w0 _ LI (nuI a LA LC LR) _ _ HK.out.i (by have := HST.out; unfold nuI nuR nuC; omega) (by have := HK.out.s; have := HST.out; unfold nuI nuR nuC; omega) HB.out HI.out).mono ?_; rintro e W3 ⟨rfl, hR, hB2, hK2⟩; refine ⟨_, rfl, ?_⟩; have n0_ := AZ.mk hR; have n1_ := AZ.mk (Kd.R_kept HA.out hK2 (fun k hk hn => absurd (hk.1.1.symm.trans hn.1.1) (by decide))); have n2_ := AZ.mk (Kd.S_kept HC.out hK2 (fun k hk hn => absurd (hk.1.1.symm.trans hn.1.1) (by decide))); have n3_ := AZ.mk (Kd.S_kept HR.out hK2 (fun k hk hn => absurd (hk.1.1.symm.trans hn.1.1) (by decide))); have n5_ := AZ.mk (show W3.heap[gb]? = some (.cells #[.int .i64 m, .int .i64 st, .slice A0 n0 c0, .slice A1 n1 c1, .slice A2 n2 c2, .slice A3 n3 c3] 27 (0, 0)) from (hK2.2 gb (Zv BK.out) (fun h => absurd h.1.2 (by have := GB.out; omega))).trans BK.out); have n6_ := AZ.mk hB2; have n7_ := AZ.mk ((hK2.2 g (Zv BG.out) (fun h => h.2 rfl)).trans BG.out); have n8_ := AZ.mk (Kept.then_ HKP.out hK2 (fun k hk => .inl hk.1.2)); clear HKP HA HC HR HI BK HB BG hc2 hc3 hc4 hc5 hR hB2 hK2; have HA := n1_; have HC := n2_; have HR := n3_; have HI := n0_; have BK := n5_; have HB := n6_; have BG := n7_; have HKP := n8_; clear n0_ n1_ n2_ n3_ n5_ n6_ n7_ n8_; have hc2 := (bc BK.out 2 : W3.cell? ⟨gb, 2, none⟩ = _).trans rfl; have hc3 := (bc BK.out 3 : W3.cell? ⟨gb, 3, none⟩ = _).trans rfl; have hc4 := (bc BK.out 4 : W3.cell? ⟨gb, 4, none⟩ = _).trans rfl; have hc5 := (bc BK.out 5 : W3.cell? ⟨gb, 5, none⟩ = _).trans rfl))
 go_ret
 exact ⟨rfl, ⟨f, Kd.R_mono HA.out (fun _ hk => hk.1.1), Kd.S_mono HC.out (fun _ hk => hk.1.1), Kd.S_mono HR.out (fun _ hk => hk.1.1), Kd.S_mono HI.out (fun _ hk => hk.1.1)⟩, HB.out, BG.out, HKP.out⟩
theorem eqT_calls (k : Nat) (m st : Int) (l2 : List Bool) (l3 : List (List S47)) (l4 : List (List (List Int))) (l5 : List (List Int)) (A2 : Option Addr) (c2 : Nat) (A3 : Option Addr) (c3 : Nat) (A4 : Option Addr) (c4 : Nat) (A5 : Option Addr) (c5 : Nat) (B2 : Option Addr) (d2 : Nat) (B3 : Option Addr) (d3 : Nat) (B4 : Option Addr) (d4 : Nat) (B5 : Option Addr) (d5 : Nat) (w : World) (hA2 : Kd.C Kd.bool w A2 l2.length l2) (kA2 : l2.length ≤ c2) (hA3 : Kd.C (Kd.slice 47 k47) w A3 l3.length l3) (kA3 : l3.length ≤ c3) (hA4 : Kd.C (Kd.slice 49 (Kd.slice 2 (Kd.int .i64))) w A4 l4.length l4) (kA4 : l4.length ≤ c4) (hA5 : Kd.C (Kd.slice 2 (Kd.int .i64)) w A5 l5.length l5) (kA5 : l5.length ≤ c5) (hB2 : Kd.C Kd.bool w B2 l2.length l2) (kB2 : l2.length ≤ d2) (hB3 : Kd.C (Kd.slice 47 k47) w B3 l3.length l3) (kB3 : l3.length ≤ d3) (hB4 : Kd.C (Kd.slice 49 (Kd.slice 2 (Kd.int .i64))) w B4 l4.length l4) (kB4 : l4.length ≤ d4) (hB5 : Kd.C (Kd.slice 2 (Kd.int .i64)) w B5 l5.length l5) (kB5 : l5.length ≤ d5)
  (e2 : laws_eqBoolS.f k l2 l2 = some true) (e3 : laws_eqPushSS.f k l3 l3 = some true) (e4 : laws_eqInt64SSS.f k l4 l4 = some true) (e5 : laws_eqInt64SS.f k l5 l5 = some true) :
  Calls Try.prog 12 #[.agg #[.int .i64 m, .int .i64 st, .slice A2 l2.length c2, .slice A3 l3.length c3, .slice A4 l4.length c4, .slice A5 l5.length c5], .agg #[.int .i64 m, .int .i64 st, .slice B2 l2.length d2, .slice B3 l3.length d3, .slice B4 l4.length d4, .slice B5 l5.length d5]] w fun e w' => e = .returned (.bool true) ∧ Below w.heap.size w w' := by
 have hu27 := Try.underlying27
 have HB := AZ.mk (Below.refl w.heap.size w)
 have PA2 := AZ.mk hA2
 have QA2 := AZ.mk kA2
 have PB2 := AZ.mk hB2
 have QB2 := AZ.mk kB2
 have E2 := AZ.mk e2
 have PA3 := AZ.mk hA3
 have QA3 := AZ.mk kA3
 have PB3 := AZ.mk hB3
 have QB3 := AZ.mk kB3
 have E3 := AZ.mk e3
 have PA4 := AZ.mk hA4
 have QA4 := AZ.mk kA4
 have PB4 := AZ.mk hB4
 have QB4 := AZ.mk kB4
 have E4 := AZ.mk e4
 have PA5 := AZ.mk hA5
 have QA5 := AZ.mk kA5
 have PB5 := AZ.mk hB5
 have QB5 := AZ.mk kB5
 have E5 := AZ.mk e5
 clear hA2 kA2 hB2 kB2 e2 hA3 kA3 hB3 kB3 e3 hA4 kA4 hB4 kB4 e4 hA5 kA5 hB5 kB5 e5
 go_enter Try.func12, Try.ntmps12
 go_wp2_with (first | ((with_reducible refine Zc (N := 2) rfl ?_); refine Zh rfl (N := 2) rfl (cs := #[.int .i64 m, .int .i64 st, .slice A2 l2.length c2, .slice A3 l3.length c3, .slice A4 l4.length c4, .slice A5 l5.length c5]) (t := 27) (by go_simp; try rfl) ?_; intro g1 hg Wg1 hbx hb; have K1 := AZ.mk hbx; have n_ := AZ.mk (pT HB.out hb); clear HB hb hbx hg; have HB := n_; clear n_) | ((with_reducible refine Zc (N := 3) rfl ?_); refine Zh rfl (N := 3) rfl (cs := #[.int .i64 m, .int .i64 st, .slice B2 l2.length d2, .slice B3 l3.length d3, .slice B4 l4.length d4, .slice B5 l5.length d5]) (t := 27) (by go_simp; try rfl) ?_; intro g2 hg Wg2 hbx hb; have K2 := AZ.mk hbx; have n_ := AZ.mk (pT HB.out hb); have n2_ := AZ.mk (bb_ K1.out hb); clear HB hb hbx hg K1; have HB := n_; clear n_; have K1 := n2_; clear n2_; have p0 := (bc K1.out 0 : Wg2.cell? ⟨g1, 0, none⟩ = _).trans rfl; have p1 := (bc K1.out 1 : Wg2.cell? ⟨g1, 1, none⟩ = _).trans rfl; have p2 := (bc K1.out 2 : Wg2.cell? ⟨g1, 2, none⟩ = _).trans rfl; have p3 := (bc K1.out 3 : Wg2.cell? ⟨g1, 3, none⟩ = _).trans rfl; have p4 := (bc K1.out 4 : Wg2.cell? ⟨g1, 4, none⟩ = _).trans rfl; have p5 := (bc K1.out 5 : Wg2.cell? ⟨g1, 5, none⟩ = _).trans rfl; have q0 := (bc K2.out 0 : Wg2.cell? ⟨g2, 0, none⟩ = _).trans rfl; have q1 := (bc K2.out 1 : Wg2.cell? ⟨g2, 1, none⟩ = _).trans rfl; have q2 := (bc K2.out 2 : Wg2.cell? ⟨g2, 2, none⟩ = _).trans rfl; have q3 := (bc K2.out 3 : Wg2.cell? ⟨g2, 3, none⟩ = _).trans rfl; have q4 := (bc K2.out 4 : Wg2.cell? ⟨g2, 4, none⟩ = _).trans rfl; have q5 := (bc K2.out 5 : Wg2.cell? ⟨g2, 5, none⟩ = _).trans rfl) | ((with_reducible refine gate_callee (f := 34) rfl ?_); refine Zi (some 19) rfl rfl Try.func34 (by kernel_rfl) rfl #[.slice A2 l2.length c2, .slice B2 l2.length d2] rfl (by (try simp only [mA, mB, mC]); first | done | rfl) ?_; refine (laws_eqBoolS.calls k _ _ l2 _ _ l2 true _ (Kd.C_below PA2.out HB.out) QA2.out (Kd.C_below PB2.out HB.out) QB2.out E2.out).mono ?_; rintro e V0 ⟨rfl, hb0⟩; refine ⟨_, rfl, ?_⟩; have hb := hb0.below; have n0_ := AZ.mk (pT HB.out hb); have n1_ := AZ.mk (bb_ K1.out hb); have n2_ := AZ.mk (bb_ K2.out hb); clear HB K1 K2 hb hb0; clear p0 p1 p2 p3 p4 p5 q0 q1 q2 q3 q4 q5; have HB := n0_; have K1 := n1_; have K2 := n2_; clear n0_ n1_ n2_; have p0 := (bc K1.out 0 : V0.cell? ⟨g1, 0, none⟩ = _).trans rfl; have p1 := (bc K1.out 1 : V0.cell? ⟨g1, 1, none⟩ = _).trans rfl; have p2 := (bc K1.out 2 : V0.cell? ⟨g1, 2, none⟩ = _).trans rfl; have p3 := (bc K1.out 3 : V0.cell? ⟨g1, 3, none⟩ = _).trans rfl; have p4 := (bc K1.out 4 : V0.cell? ⟨g1, 4, none⟩ = _).trans rfl; have p5 := (bc K1.out 5 : V0.cell? ⟨g1, 5, none⟩ = _).trans rfl; have q0 := (bc K2.out 0 : V0.cell? ⟨g2, 0, none⟩ = _).trans rfl; have q1 := (bc K2.out 1 : V0.cell? ⟨g2, 1, none⟩ = _).trans rfl; have q2 := (bc K2.out 2 : V0.cell? ⟨g2, 2, none⟩ = _).trans rfl; have q3 := (bc K2.out 3 : V0.cell? ⟨g2, 3, none⟩ = _).trans rfl; have q4 := (bc K2.out 4 : V0.cell? ⟨g2, 4, none⟩ = _).trans rfl; have q5 := (bc K2.out 5 : V0.cell? ⟨g2, 5, none⟩ = _).trans rfl) | ((with_reducible refine gate_callee (f := 35) rfl ?_); refine Zi (some 25) rfl rfl Try.func35 (by kernel_rfl) rfl #[.slice A3 l3.length c3, .slice B3 l3.length d3] rfl (by (try simp only [mA, mB, mC]); first | done | rfl) ?_; refine (laws_eqPushSS.calls k _ _ l3 _ _ l3 true _ (Kd.C_below PA3.out HB.out) QA3.out (Kd.C_below PB3.out HB.out) QB3.out E3.out).mono ?_; rintro e V1 ⟨rfl, hb0⟩; refine ⟨_, rfl, ?_⟩; have hb := hb0; have n0_ := AZ.mk (pT HB.out hb); have n1_ := AZ.mk (bb_ K1.out hb); have n2_ := AZ.mk (bb_ K2.out hb); clear HB K1 K2 hb hb0; clear p0 p1 p2 p3 p4 p5 q0 q1 q2 q3 q4 q5; have HB := n0_; have K1 := n1_; have K2 := n2_; clear n0_ n1_ n2_; have p0 := (bc K1.out 0 : V1.cell? ⟨g1, 0, none⟩ = _).trans rfl; have p1 := (bc K1.out 1 : V1.cell? ⟨g1, 1, none⟩ = _).trans rfl; have p2 := (bc K1.out 2 : V1.cell? ⟨g1, 2, none⟩ = _).trans rfl; have p3 := (bc K1.out 3 : V1.cell? ⟨g1, 3, none⟩ = _).trans rfl; have p4 := (bc K1.out 4 : V1.cell? ⟨g1, 4, none⟩ = _).trans rfl; have p5 := (bc K1.out 5 : V1.cell? ⟨g1, 5, none⟩ = _).trans rfl; have q0 := (bc K2.out 0 : V1.cell? ⟨g2, 0, none⟩ = _).trans rfl; have q1 := (bc K2.out 1 : V1.cell? ⟨g2, 1, none⟩ = _).trans rfl; have q2 := (bc K2.out 2 : V1.cell? ⟨g2, 2, none⟩ = _).trans rfl; have q3 := (bc K2.out 3 : V1.cell? ⟨g2, 3, none⟩ = _).trans rfl; have q4 := (bc K2.out 4 : V1.cell? ⟨g2, 4, none⟩ = _).trans rfl; have q5 := (bc K2.out 5 : V1.cell? ⟨g2, 5, none⟩ = _).trans rfl) | ((with_reducible refine gate_callee (f := 36) rfl ?_); refine Zi (some 31) rfl rfl Try.func36 (by kernel_rfl) rfl #[.slice A4 l4.length c4, .slice B4 l4.length d4] rfl (by (try simp only [mA, mB, mC]); first | done | rfl) ?_; refine (laws_eqInt64SSS.calls k _ _ l4 _ _ l4 true _ (Kd.C_below PA4.out HB.out) QA4.out (Kd.C_below PB4.out HB.out) QB4.out E4.out).mono ?_; rintro e V2 ⟨rfl, hb0⟩; refine ⟨_, rfl, ?_⟩; have hb := hb0.below; have n0_ := AZ.mk (pT HB.out hb); have n1_ := AZ.mk (bb_ K1.out hb); have n2_ := AZ.mk (bb_ K2.out hb); clear HB K1 K2 hb hb0; clear p0 p1 p2 p3 p4 p5 q0 q1 q2 q3 q4 q5; have HB := n0_; have K1 := n1_; have K2 := n2_; clear n0_ n1_ n2_; have p0 := (bc K1.out 0 : V2.cell? ⟨g1, 0, none⟩ = _).trans rfl; have p1 := (bc K1.out 1 : V2.cell? ⟨g1, 1, none⟩ = _).trans rfl; have p2 := (bc K1.out 2 : V2.cell? ⟨g1, 2, none⟩ = _).trans rfl; have p3 := (bc K1.out 3 : V2.cell? ⟨g1, 3, none⟩ = _).trans rfl; have p4 := (bc K1.out 4 : V2.cell? ⟨g1, 4, none⟩ = _).trans rfl; have p5 := (bc K1.out 5 : V2.cell? ⟨g1, 5, none⟩ = _).trans rfl; have q0 := (bc K2.out 0 : V2.cell? ⟨g2, 0, none⟩ = _).trans rfl; have q1 := (bc K2.out 1 : V2.cell? ⟨g2, 1, none⟩ = _).trans rfl; have q2 := (bc K2.out 2 : V2.cell? ⟨g2, 2, none⟩ = _).trans rfl; have q3 := (bc K2.out 3 : V2.cell? ⟨g2, 3, none⟩ = _).trans rfl; have q4 := (bc K2.out 4 : V2.cell? ⟨g2, 4, none⟩ = _).trans rfl; have q5 := (bc K2.out 5 : V2.cell? ⟨g2, 5, none⟩ = _).trans rfl) | ((with_reducible refine gate_callee (f := 37) rfl ?_); refine Zi (some 37) rfl rfl Try.func37 (by kernel_rfl) rfl #[.slice A5 l5.length c5, .slice B5 l5.length d5] rfl (by (try simp only [mA, mB, mC]); first | done | rfl) ?_; refine (laws_eqInt64SS.calls k _ _ l5 _ _ l5 true _ (Kd.C_below PA5.out HB.out) QA5.out (Kd.C_below PB5.out HB.out) QB5.out E5.out).mono ?_; rintro e V3 ⟨rfl, hb0⟩; refine ⟨_, rfl, ?_⟩; have hb := hb0.below; have n0_ := AZ.mk (pT HB.out hb); have n1_ := AZ.mk (bb_ K1.out hb); have n2_ := AZ.mk (bb_ K2.out hb); clear HB K1 K2 hb hb0; clear p0 p1 p2 p3 p4 p5 q0 q1 q2 q3 q4 q5; have HB := n0_; have K1 := n1_; have K2 := n2_; clear n0_ n1_ n2_; have p0 := (bc K1.out 0 : V3.cell? ⟨g1, 0, none⟩ = _).trans rfl; have p1 := (bc K1.out 1 : V3.cell? ⟨g1, 1, none⟩ = _).trans rfl; have p2 := (bc K1.out 2 : V3.cell? ⟨g1, 2, none⟩ = _).trans rfl; have p3 := (bc K1.out 3 : V3.cell? ⟨g1, 3, none⟩ = _).trans rfl; have p4 := (bc K1.out 4 : V3.cell? ⟨g1, 4, none⟩ = _).trans rfl; have p5 := (bc K1.out 5 : V3.cell? ⟨g1, 5, none⟩ = _).trans rfl; have q0 := (bc K2.out 0 : V3.cell? ⟨g2, 0, none⟩ = _).trans rfl; have q1 := (bc K2.out 1 : V3.cell? ⟨g2, 1, none⟩ = _).trans rfl; have q2 := (bc K2.out 2 : V3.cell? ⟨g2, 2, none⟩ = _).trans rfl; have q3 := (bc K2.out 3 : V3.cell? ⟨g2, 3, none⟩ = _).trans rfl; have q4 := (bc K2.out 4 : V3.cell? ⟨g2, 4, none⟩ = _).trans rfl; have q5 := (bc K2.out 5 : V3.cell? ⟨g2, 5, none⟩ = _).trans rfl))
 go_ret
 exact ⟨rfl, HB.out⟩
theorem heldT_calls (k : Nat) (m st t0 t1 t2 t3 t4 : Int) (l2 : List Bool) (l3 : List (List S47)) (l4 : List (List (List Int))) (l5 : List (List Int)) (A2 : Option Addr) (c2 : Nat) (A3 : Option Addr) (c3 : Nat) (A4 : Option Addr) (c4 : Nat) (A5 : Option Addr) (c5 : Nat) (w : World) (hA2 : Kd.C Kd.bool w A2 l2.length l2) (kA2 : l2.length ≤ c2) (hA3 : Kd.C (Kd.slice 47 k47) w A3 l3.length l3) (kA3 : l3.length ≤ c3) (hA4 : Kd.C (Kd.slice 49 (Kd.slice 2 (Kd.int .i64))) w A4 l4.length l4) (kA4 : l4.length ≤ c4) (hA5 : Kd.C (Kd.slice 2 (Kd.int .i64)) w A5 l5.length l5) (kA5 : l5.length ≤ c5)
  (e2 : laws_heldBoolS.f k l2 t0 = some t1) (e3 : laws_heldPushSS.f k l3 t1 = some t2) (e4 : laws_heldInt64SSS.f k l4 t2 = some t3) (e5 : laws_heldInt64SS.f k l5 t3 = some t4) (n1 : ¬ t1 < 0) (n2 : ¬ t2 < 0) (n3 : ¬ t3 < 0) (n4 : ¬ t4 < 0) :
  Calls Try.prog 14 #[.agg #[.int .i64 m, .int .i64 st, .slice A2 l2.length c2, .slice A3 l3.length c3, .slice A4 l4.length c4, .slice A5 l5.length c5], .int .i64 t0] w fun e w' => e = .returned (.int .i64 t4) ∧ Below w.heap.size w w' := by
 have hu27 := Try.underlying27
 have HB := AZ.mk (Below.refl w.heap.size w)
 have PA2 := AZ.mk hA2
 have QA2 := AZ.mk kA2
 have E2 := AZ.mk e2
 have PA3 := AZ.mk hA3
 have QA3 := AZ.mk kA3
 have E3 := AZ.mk e3
 have PA4 := AZ.mk hA4
 have QA4 := AZ.mk kA4
 have E4 := AZ.mk e4
 have PA5 := AZ.mk hA5
 have QA5 := AZ.mk kA5
 have E5 := AZ.mk e5
 have z1 : decide (t1 < 0) = false := dF n1
 have z2 : decide (t2 < 0) = false := dF n2
 have z3 : decide (t3 < 0) = false := dF n3
 have z4 : decide (t4 < 0) = false := dF n4
 clear n1 n2 n3 n4 hA2 kA2 e2 hA3 kA3 e3 hA4 kA4 e4 hA5 kA5 e5
 go_enter Try.func14, Try.ntmps14
 go_wp2_with (first | ((with_reducible refine Zc (N := 2) rfl ?_); refine Zh rfl (N := 2) rfl (cs := #[.int .i64 m, .int .i64 st, .slice A2 l2.length c2, .slice A3 l3.length c3, .slice A4 l4.length c4, .slice A5 l5.length c5]) (t := 27) (by go_simp; try rfl) ?_; intro g1 hg Wg1 hbx hb; have K1 := AZ.mk hbx; have n_ := AZ.mk (pT HB.out hb); clear HB hb hbx hg; have HB := n_; clear n_; have p0 := (bc K1.out 0 : Wg1.cell? ⟨g1, 0, none⟩ = _).trans rfl; have p1 := (bc K1.out 1 : Wg1.cell? ⟨g1, 1, none⟩ = _).trans rfl; have p2 := (bc K1.out 2 : Wg1.cell? ⟨g1, 2, none⟩ = _).trans rfl; have p3 := (bc K1.out 3 : Wg1.cell? ⟨g1, 3, none⟩ = _).trans rfl; have p4 := (bc K1.out 4 : Wg1.cell? ⟨g1, 4, none⟩ = _).trans rfl; have p5 := (bc K1.out 5 : Wg1.cell? ⟨g1, 5, none⟩ = _).trans rfl) | ((with_reducible refine gate_callee (f := 42) rfl ?_); refine Zi (some 8) rfl rfl Try.func42 (by kernel_rfl) rfl #[.slice A2 l2.length c2, .int .i64 t0] rfl (by (try simp only [mA, mB, mC]); first | done | rfl) ?_; refine (laws_heldBoolS.calls k _ _ l2 t0 t1 _ (Kd.C_below PA2.out HB.out) QA2.out E2.out).mono ?_; rintro e V0 ⟨rfl, hb0⟩; refine ⟨_, rfl, ?_⟩; have hb := hb0.below; have n0_ := AZ.mk (pT HB.out hb); have n1_ := AZ.mk (bb_ K1.out hb); clear HB K1 hb hb0; clear p0 p1 p2 p3 p4 p5; have HB := n0_; have K1 := n1_; clear n0_ n1_; have p0 := (bc K1.out 0 : V0.cell? ⟨g1, 0, none⟩ = _).trans rfl; have p1 := (bc K1.out 1 : V0.cell? ⟨g1, 1, none⟩ = _).trans rfl; have p2 := (bc K1.out 2 : V0.cell? ⟨g1, 2, none⟩ = _).trans rfl; have p3 := (bc K1.out 3 : V0.cell? ⟨g1, 3, none⟩ = _).trans rfl; have p4 := (bc K1.out 4 : V0.cell? ⟨g1, 4, none⟩ = _).trans rfl; have p5 := (bc K1.out 5 : V0.cell? ⟨g1, 5, none⟩ = _).trans rfl) | ((with_reducible refine gate_callee (f := 43) rfl ?_); refine Zi (some 14) rfl rfl Try.func43 (by kernel_rfl) rfl #[.slice A3 l3.length c3, .int .i64 t1] rfl (by (try simp only [mA, mB, mC]); first | done | rfl) ?_; refine (laws_heldPushSS.calls k _ _ l3 t1 t2 _ (Kd.C_below PA3.out HB.out) QA3.out E3.out).mono ?_; rintro e V1 ⟨rfl, hb0⟩; refine ⟨_, rfl, ?_⟩; have hb := hb0.below; have n0_ := AZ.mk (pT HB.out hb); have n1_ := AZ.mk (bb_ K1.out hb); clear HB K1 hb hb0; clear p0 p1 p2 p3 p4 p5; have HB := n0_; have K1 := n1_; clear n0_ n1_; have p0 := (bc K1.out 0 : V1.cell? ⟨g1, 0, none⟩ = _).trans rfl; have p1 := (bc K1.out 1 : V1.cell? ⟨g1, 1, none⟩ = _).trans rfl; have p2 := (bc K1.out 2 : V1.cell? ⟨g1, 2, none⟩ = _).trans rfl; have p3 := (bc K1.out 3 : V1.cell? ⟨g1, 3, none⟩ = _).trans rfl; have p4 := (bc K1.out 4 : V1.cell? ⟨g1, 4, none⟩ = _).trans rfl; have p5 := (bc K1.out 5 : V1.cell? ⟨g1, 5, none⟩ = _).trans rfl) | ((with_reducible refine gate_callee (f := 44) rfl ?_); refine Zi (some 20) rfl rfl Try.func44 (by kernel_rfl) rfl #[.slice A4 l4.length c4, .int .i64 t2] rfl (by (try simp only [mA, mB, mC]); first | done | rfl) ?_; refine (laws_heldInt64SSS.calls k _ _ l4 t2 t3 _ (Kd.C_below PA4.out HB.out) QA4.out E4.out).mono ?_; rintro e V2 ⟨rfl, hb0⟩; refine ⟨_, rfl, ?_⟩; have hb := hb0.below; have n0_ := AZ.mk (pT HB.out hb); have n1_ := AZ.mk (bb_ K1.out hb); clear HB K1 hb hb0; clear p0 p1 p2 p3 p4 p5; have HB := n0_; have K1 := n1_; clear n0_ n1_; have p0 := (bc K1.out 0 : V2.cell? ⟨g1, 0, none⟩ = _).trans rfl; have p1 := (bc K1.out 1 : V2.cell? ⟨g1, 1, none⟩ = _).trans rfl; have p2 := (bc K1.out 2 : V2.cell? ⟨g1, 2, none⟩ = _).trans rfl; have p3 := (bc K1.out 3 : V2.cell? ⟨g1, 3, none⟩ = _).trans rfl; have p4 := (bc K1.out 4 : V2.cell? ⟨g1, 4, none⟩ = _).trans rfl; have p5 := (bc K1.out 5 : V2.cell? ⟨g1, 5, none⟩ = _).trans rfl) | ((with_reducible refine gate_callee (f := 45) rfl ?_); refine Zi (some 26) rfl rfl Try.func45 (by kernel_rfl) rfl #[.slice A5 l5.length c5, .int .i64 t3] rfl (by (try simp only [mA, mB, mC]); first | done | rfl) ?_; refine (laws_heldInt64SS.calls k _ _ l5 t3 t4 _ (Kd.C_below PA5.out HB.out) QA5.out E5.out).mono ?_; rintro e V3 ⟨rfl, hb0⟩; refine ⟨_, rfl, ?_⟩; have hb := hb0.below; have n0_ := AZ.mk (pT HB.out hb); have n1_ := AZ.mk (bb_ K1.out hb); clear HB K1 hb hb0; clear p0 p1 p2 p3 p4 p5; have HB := n0_; have K1 := n1_; clear n0_ n1_; have p0 := (bc K1.out 0 : V3.cell? ⟨g1, 0, none⟩ = _).trans rfl; have p1 := (bc K1.out 1 : V3.cell? ⟨g1, 1, none⟩ = _).trans rfl; have p2 := (bc K1.out 2 : V3.cell? ⟨g1, 2, none⟩ = _).trans rfl; have p3 := (bc K1.out 3 : V3.cell? ⟨g1, 3, none⟩ = _).trans rfl; have p4 := (bc K1.out 4 : V3.cell? ⟨g1, 4, none⟩ = _).trans rfl; have p5 := (bc K1.out 5 : V3.cell? ⟨g1, 5, none⟩ = _).trans rfl))
 go_ret
 exact ⟨rfl, HB.out⟩
section
variable {w w' : World} {B : Nat} {vA vC vR vI vA' vC' vR' vI' : Value} {LA : List Bool} {LC : List (List S47)} {LR : List (List (List Int))} {LI : List (List Int)}
theorem and_some {f : Option Bool} {g : Option Bool} (h : (f.bind fun t => if t = true then g else some false) = some true) : f = some true ∧ g = some true := by
 cases f with
 | none => cases h
 | some t => cases t with
  | false => simp at h
  | true => exact ⟨rfl, by simpa using h⟩
theorem eqS_calls (k : Nat) (m st : Int) (h : Reads w vA vC vR vI LA LC LR LI) (h' : Reads w vA' vC' vR' vI' LA LC LR LI) (hf : laws_eqChecker.f k m st LA LC LR LI m st LA LC LR LI = some true) :
  Calls Try.prog 12 #[.agg #[.int .i64 m, .int .i64 st, vA, vC, vR, vI], .agg #[.int .i64 m, .int .i64 st, vA', vC', vR', vI']] w fun e w' => e = .returned (.bool true) ∧ Below w.heap.size w w' := by
 obtain ⟨⟨A0, c0, rfl, l0, g0⟩, ⟨A1, c1, rfl, l1, g1⟩, ⟨A2, c2, rfl, l2, g2⟩, ⟨A3, c3, rfl, l3, g3⟩⟩ := h
 obtain ⟨⟨B0, d0, rfl, q0, p0⟩, ⟨B1, d1, rfl, q1, p1⟩, ⟨B2, d2, rfl, q2, p2⟩, ⟨B3, d3, rfl, q3, p3⟩⟩ := h'
 unfold laws_eqChecker.f at hf
 rw [if_pos rfl, if_pos rfl] at hf
 obtain ⟨e2, hf⟩ := and_some hf
 obtain ⟨e3, hf⟩ := and_some hf
 obtain ⟨e4, hf⟩ := and_some hf
 obtain ⟨e5, _⟩ := and_some hf
 exact eqT_calls k m st LA LC LR LI A0 c0 A1 c1 A2 c2 A3 c3 B0 d0 B1 d1 B2 d2 B3 d3 w g0 l0 g1 l1 g2 l2 g3 l3 p0 q0 p1 q1 p2 q2 p3 q3 e2 e3 e4 e5
theorem heldS_calls (m st : Int) (h : okC LA LC LR LI) (hr : Reads w vA vC vR vI (markA LA) (mks szP mkP LC (numC LA)) (mks szII mkII LR (numR LA LC)) (mkII LI (numI LA LC LR))) :
  Calls Try.prog 14 #[.agg #[.int .i64 m, .int .i64 st, vA, vC, vR, vI], .int .i64 1] w fun e w' => e = .returned (.int .i64 (numE LA LC LR LI)) ∧ Below w.heap.size w w' := by
 obtain ⟨⟨A0, c0, rfl, l0, g0⟩, ⟨A1, c1, rfl, l1, g1⟩, ⟨A2, c2, rfl, l2, g2⟩, ⟨A3, c3, rfl, l3, g3⟩⟩ := hr
 obtain ⟨ha, hc, hc1, hr, hr1, hi, hs⟩ := h
 have e1 : laws_heldBoolS.f 7000000 (markA LA) 1 = some (numC LA) := by
  have := heldB LA.length ha 1 (by omega) (by omega) LA.length 0 7000000 (by omega) (by omega)
  simpa [laws_heldBoolS.f, markA, numC] using this
 have e2 := heldPP LC hc hc1 (numC LA) (by unfold numC; omega) (by unfold numC; omega) 7000000 (by omega)
 have e3 := heldIII LR hr hr1 (numR LA LC) (by unfold numR numC; omega) (by unfold numR numC; omega) 7000000 (by omega)
 have e4 := heldII LI hi (numI LA LC LR) (by unfold numI numR numC; omega) (by have : szII LI = tot szI LI := rfl; unfold numI numR numC; omega) 7000000 (by omega)
 exact heldT_calls 7000000 m st 1 (numC LA) (numR LA LC) (numI LA LC LR) (numE LA LC LR LI) _ _ _ _ A0 c0 A1 c1 A2 c2 A3 c3 w g0 l0 g1 l1 g2 l2 g3 l3 e1 e2 e3 e4 (by unfold numC; omega) (by unfold numR numC; omega) (by unfold numI numR numC; omega) (by unfold numE numI numR numC; omega)
end
end Go.Proofs.Ytepkfigcnnfoaaa.P
