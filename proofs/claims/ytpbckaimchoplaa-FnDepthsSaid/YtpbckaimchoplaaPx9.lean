/- Machine side of the laws of this seat: for each Go function that they reach, a Lean function and the proof that a call comes to just its answer. Written by a program of this session. -/
import Derived.Test.YtpbckaimchoplaaPx0
import Derived.Test.YtpbckaimchoplaaPx16
import Derived.Test.YtpbckaimchoplaaPx20
import Derived.Test.YtpbckaimchoplaaPx34
import Derived.Test.YtpbckaimchoplaaPx35
import Derived.Test.YtpbckaimchoplaaPx36
import Derived.Test.YtpbckaimchoplaaPx37
import Derived.Test.YtpbckaimchoplaaPx38
namespace Go.Proofs.Ytpbckaimchoplaa.P
open Go.RowKit Go.Proofs.YtpbckaimchoplaaW.PrintWords Go.Proofs.YtpbckaimchoplaaW.PrintLast Go.Proofs.YtpbckaimchoplaaW.PrintMore
attribute [local go_sem] max2_int min2_int max_two min_two max_three min_three max_four min_four   -- for this text's walks alone
set_option linter.unusedVariables false
set_option linter.unusedSimpArgs false

/-! ### laws_FnDepths: function 9 -/
mutual
def laws_FnDepths.j0 : Nat → ByteArray → List Int → Int → Bool → Option (Bool)
  | 0, _, _, _, _ => none
  | k + 1, x5, x6, x8, x69 => if x69 = true then (some false) else (laws_FnDepths.l0 k x5 x6 x8 0 0)
def laws_FnDepths.l0 : Nat → ByteArray → List Int → Int → Int → Int → Option (Bool)
  | 0, _, _, _, _, _ => none
  | k + 1, x5, x6, x8, x13, x14 => if x14 < (x5.size : Int) then (if 0 ≤ x14 then (if x14 < (x6.length : Int) then ((laws_a2Call.f (bt x5 x14)).bind fun t667 => (if t667 = true then (laws_FnDepths.j2 k x5 x6 x8 x13 x14 (wrap64 ((rd x6 x14) + 1))) else (laws_FnDepths.j2 k x5 x6 x8 x13 x14 (rd x6 x14)))) else (none)) else (none)) else (some (x13 == x8))
def laws_FnDepths.j2 : Nat → ByteArray → List Int → Int → Int → Int → Int → Option (Bool)
  | 0, _, _, _, _, _, _ => none
  | k + 1, x5, x6, x8, x13, x14, x15 => if 0 ≤ x14 then (if x14 < (x5.size : Int) then ((laws_a2Return.f (bt x5 x14)).bind fun t668 => (if t668 = true then (laws_FnDepths.j3 k x5 x6 x8 x13 x14 x15 (decide (x15 > 0))) else (laws_FnDepths.j3 k x5 x6 x8 x13 x14 x15 false))) else (none)) else (none)
def laws_FnDepths.j3 : Nat → ByteArray → List Int → Int → Int → Int → Int → Bool → Option (Bool)
  | 0, _, _, _, _, _, _, _ => none
  | k + 1, x5, x6, x8, x13, x14, x15, x93 => if x93 = true then (laws_FnDepths.j4 k x5 x6 x8 x13 x14 (wrap64 (x15 - 1))) else (laws_FnDepths.j4 k x5 x6 x8 x13 x14 x15)
def laws_FnDepths.j4 : Nat → ByteArray → List Int → Int → Int → Int → Int → Option (Bool)
  | 0, _, _, _, _, _, _ => none
  | k + 1, x5, x6, x8, x13, x14, x15 => if 0 ≤ (wrap64 (x14 + 1)) then (if (wrap64 (x14 + 1)) < (x6.length : Int) then (if (rd x6 (wrap64 (x14 + 1))) = x15 then (if x15 > x13 then (laws_FnDepths.l0 k x5 x6 x8 x15 (wrap64 (x14 + 1))) else (laws_FnDepths.l0 k x5 x6 x8 x13 (wrap64 (x14 + 1)))) else (some false)) else (none)) else (none)
end
def laws_FnDepths.f (k : Nat) (l0 : List Int) (l1 : List Int) : Option (Bool) := (laws_a2Long.f l0 l1).bind fun t653 => (if t653 = true then (some true) else ((spec_A2Word.f k l0 16).bind fun t654 => ((impl_DepthsOf.f k t654).bind fun bt655 => ((impl_DepthOf.f k t654).bind fun bt659 => ((impl_PendingOf.f k t654).bind fun bt661 => (if bt655.2 = 0 then (if bt659.2 = 0 then (if bt661.2.2 = 0 then (if (bt655.1.length : Int) = (wrap64 ((t654.size : Int) + 1)) then (if 0 < (bt655.1.length : Int) then (if (rd bt655.1 0) = 0 then (if 0 ≤ (t654.size : Int) then (if (t654.size : Int) < (bt655.1.length : Int) then (laws_FnDepths.j0 k t654 bt655.1 bt659.1 ((rd bt655.1 (t654.size : Int)) != bt661.2.1)) else (none)) else (none)) else (laws_FnDepths.j0 k t654 bt655.1 bt659.1 true)) else (none)) else (laws_FnDepths.j0 k t654 bt655.1 bt659.1 true)) else (laws_FnDepths.j0 k t654 bt655.1 bt659.1 true)) else (laws_FnDepths.j0 k t654 bt655.1 bt659.1 true)) else (laws_FnDepths.j0 k t654 bt655.1 bt659.1 true)))))))
theorem laws_FnDepths.mono_l : ∀ k, (∀ y0 y1 y2 y3, LeO (laws_FnDepths.j0 k y0 y1 y2 y3) (laws_FnDepths.j0 (k + 1) y0 y1 y2 y3)) ∧ (∀ y0 y1 y2 y3 y4, LeO (laws_FnDepths.l0 k y0 y1 y2 y3 y4) (laws_FnDepths.l0 (k + 1) y0 y1 y2 y3 y4)) ∧ (∀ y0 y1 y2 y3 y4 y5, LeO (laws_FnDepths.j2 k y0 y1 y2 y3 y4 y5) (laws_FnDepths.j2 (k + 1) y0 y1 y2 y3 y4 y5)) ∧ (∀ y0 y1 y2 y3 y4 y5 y6, LeO (laws_FnDepths.j3 k y0 y1 y2 y3 y4 y5 y6) (laws_FnDepths.j3 (k + 1) y0 y1 y2 y3 y4 y5 y6)) ∧ (∀ y0 y1 y2 y3 y4 y5, LeO (laws_FnDepths.j4 k y0 y1 y2 y3 y4 y5) (laws_FnDepths.j4 (k + 1) y0 y1 y2 y3 y4 y5))
  | 0 => ⟨fun _ _ _ _ r h => by simp [laws_FnDepths.j0] at h, fun _ _ _ _ _ r h => by simp [laws_FnDepths.l0] at h, fun _ _ _ _ _ _ r h => by simp [laws_FnDepths.j2] at h, fun _ _ _ _ _ _ _ r h => by simp [laws_FnDepths.j3] at h, fun _ _ _ _ _ _ r h => by simp [laws_FnDepths.j4] at h⟩
  | k + 1 => by
    obtain ⟨ih0, ih1, ih2, ih3, ih4⟩ := laws_FnDepths.mono_l k
    refine ⟨?_, ?_, ?_, ?_, ?_⟩
    · intro y0 y1 y2 y3
      unfold laws_FnDepths.j0
      repeat' first
      | (with_reducible exact ih0 _ _ _ _)
      | (with_reducible exact ih1 _ _ _ _ _)
      | (with_reducible exact ih2 _ _ _ _ _ _)
      | (with_reducible exact ih3 _ _ _ _ _ _ _)
      | (with_reducible exact ih4 _ _ _ _ _ _)
      | (with_reducible exact impl_DepthOf.mono _ _)
      | (with_reducible exact impl_DepthsOf.mono _ _)
      | (with_reducible exact impl_PendingOf.mono _ _)
      | (with_reducible exact spec_A2Word.mono _ _ _)
      | (with_reducible exact LeO.refl _)
      | (with_reducible exact LeO.none _)
      | (with_reducible refine LeO.ite ?_ ?_)
      | (with_reducible refine LeO.bind ?_ (fun _ => ?_))
      | exact ih0 _ _ _ _
      | exact ih1 _ _ _ _ _
      | exact ih2 _ _ _ _ _ _
      | exact ih3 _ _ _ _ _ _ _
      | exact ih4 _ _ _ _ _ _
      | exact impl_DepthOf.mono _ _
      | exact impl_DepthsOf.mono _ _
      | exact impl_PendingOf.mono _ _
      | exact spec_A2Word.mono _ _ _
      | exact LeO.none _
      | refine LeO.ite ?_ ?_
      | refine LeO.bind ?_ (fun _ => ?_)
    · intro y0 y1 y2 y3 y4
      unfold laws_FnDepths.l0
      repeat' first
      | (with_reducible exact ih0 _ _ _ _)
      | (with_reducible exact ih1 _ _ _ _ _)
      | (with_reducible exact ih2 _ _ _ _ _ _)
      | (with_reducible exact ih3 _ _ _ _ _ _ _)
      | (with_reducible exact ih4 _ _ _ _ _ _)
      | (with_reducible exact impl_DepthOf.mono _ _)
      | (with_reducible exact impl_DepthsOf.mono _ _)
      | (with_reducible exact impl_PendingOf.mono _ _)
      | (with_reducible exact spec_A2Word.mono _ _ _)
      | (with_reducible exact LeO.refl _)
      | (with_reducible exact LeO.none _)
      | (with_reducible refine LeO.ite ?_ ?_)
      | (with_reducible refine LeO.bind ?_ (fun _ => ?_))
      | exact ih0 _ _ _ _
      | exact ih1 _ _ _ _ _
      | exact ih2 _ _ _ _ _ _
      | exact ih3 _ _ _ _ _ _ _
      | exact ih4 _ _ _ _ _ _
      | exact impl_DepthOf.mono _ _
      | exact impl_DepthsOf.mono _ _
      | exact impl_PendingOf.mono _ _
      | exact spec_A2Word.mono _ _ _
      | exact LeO.none _
      | refine LeO.ite ?_ ?_
      | refine LeO.bind ?_ (fun _ => ?_)
    · intro y0 y1 y2 y3 y4 y5
      unfold laws_FnDepths.j2
      repeat' first
      | (with_reducible exact ih0 _ _ _ _)
      | (with_reducible exact ih1 _ _ _ _ _)
      | (with_reducible exact ih2 _ _ _ _ _ _)
      | (with_reducible exact ih3 _ _ _ _ _ _ _)
      | (with_reducible exact ih4 _ _ _ _ _ _)
      | (with_reducible exact impl_DepthOf.mono _ _)
      | (with_reducible exact impl_DepthsOf.mono _ _)
      | (with_reducible exact impl_PendingOf.mono _ _)
      | (with_reducible exact spec_A2Word.mono _ _ _)
      | (with_reducible exact LeO.refl _)
      | (with_reducible exact LeO.none _)
      | (with_reducible refine LeO.ite ?_ ?_)
      | (with_reducible refine LeO.bind ?_ (fun _ => ?_))
      | exact ih0 _ _ _ _
      | exact ih1 _ _ _ _ _
      | exact ih2 _ _ _ _ _ _
      | exact ih3 _ _ _ _ _ _ _
      | exact ih4 _ _ _ _ _ _
      | exact impl_DepthOf.mono _ _
      | exact impl_DepthsOf.mono _ _
      | exact impl_PendingOf.mono _ _
      | exact spec_A2Word.mono _ _ _
      | exact LeO.none _
      | refine LeO.ite ?_ ?_
      | refine LeO.bind ?_ (fun _ => ?_)
    · intro y0 y1 y2 y3 y4 y5 y6
      unfold laws_FnDepths.j3
      repeat' first
      | (with_reducible exact ih0 _ _ _ _)
      | (with_reducible exact ih1 _ _ _ _ _)
      | (with_reducible exact ih2 _ _ _ _ _ _)
      | (with_reducible exact ih3 _ _ _ _ _ _ _)
      | (with_reducible exact ih4 _ _ _ _ _ _)
      | (with_reducible exact impl_DepthOf.mono _ _)
      | (with_reducible exact impl_DepthsOf.mono _ _)
      | (with_reducible exact impl_PendingOf.mono _ _)
      | (with_reducible exact spec_A2Word.mono _ _ _)
      | (with_reducible exact LeO.refl _)
      | (with_reducible exact LeO.none _)
      | (with_reducible refine LeO.ite ?_ ?_)
      | (with_reducible refine LeO.bind ?_ (fun _ => ?_))
      | exact ih0 _ _ _ _
      | exact ih1 _ _ _ _ _
      | exact ih2 _ _ _ _ _ _
      | exact ih3 _ _ _ _ _ _ _
      | exact ih4 _ _ _ _ _ _
      | exact impl_DepthOf.mono _ _
      | exact impl_DepthsOf.mono _ _
      | exact impl_PendingOf.mono _ _
      | exact spec_A2Word.mono _ _ _
      | exact LeO.none _
      | refine LeO.ite ?_ ?_
      | refine LeO.bind ?_ (fun _ => ?_)
    · intro y0 y1 y2 y3 y4 y5
      unfold laws_FnDepths.j4
      repeat' first
      | (with_reducible exact ih0 _ _ _ _)
      | (with_reducible exact ih1 _ _ _ _ _)
      | (with_reducible exact ih2 _ _ _ _ _ _)
      | (with_reducible exact ih3 _ _ _ _ _ _ _)
      | (with_reducible exact ih4 _ _ _ _ _ _)
      | (with_reducible exact impl_DepthOf.mono _ _)
      | (with_reducible exact impl_DepthsOf.mono _ _)
      | (with_reducible exact impl_PendingOf.mono _ _)
      | (with_reducible exact spec_A2Word.mono _ _ _)
      | (with_reducible exact LeO.refl _)
      | (with_reducible exact LeO.none _)
      | (with_reducible refine LeO.ite ?_ ?_)
      | (with_reducible refine LeO.bind ?_ (fun _ => ?_))
      | exact ih0 _ _ _ _
      | exact ih1 _ _ _ _ _
      | exact ih2 _ _ _ _ _ _
      | exact ih3 _ _ _ _ _ _ _
      | exact ih4 _ _ _ _ _ _
      | exact impl_DepthOf.mono _ _
      | exact impl_DepthsOf.mono _ _
      | exact impl_PendingOf.mono _ _
      | exact spec_A2Word.mono _ _ _
      | exact LeO.none _
      | refine LeO.ite ?_ ?_
      | refine LeO.bind ?_ (fun _ => ?_)
theorem laws_FnDepths.mono : ∀ a0 a1 k, LeO (laws_FnDepths.f k a0 a1) (laws_FnDepths.f (k + 1) a0 a1) := by
  intro a0 a1 k
  obtain ⟨ih0, ih1, ih2, ih3, ih4⟩ := laws_FnDepths.mono_l k
  unfold laws_FnDepths.f
  repeat' first
      | (with_reducible exact ih0 _ _ _ _)
      | (with_reducible exact ih1 _ _ _ _ _)
      | (with_reducible exact ih2 _ _ _ _ _ _)
      | (with_reducible exact ih3 _ _ _ _ _ _ _)
      | (with_reducible exact ih4 _ _ _ _ _ _)
      | (with_reducible exact impl_DepthOf.mono _ _)
      | (with_reducible exact impl_DepthsOf.mono _ _)
      | (with_reducible exact impl_PendingOf.mono _ _)
      | (with_reducible exact spec_A2Word.mono _ _ _)
      | (with_reducible exact LeO.refl _)
      | (with_reducible exact LeO.none _)
      | (with_reducible refine LeO.ite ?_ ?_)
      | (with_reducible refine LeO.bind ?_ (fun _ => ?_))
      | exact ih0 _ _ _ _
      | exact ih1 _ _ _ _ _
      | exact ih2 _ _ _ _ _ _
      | exact ih3 _ _ _ _ _ _ _
      | exact ih4 _ _ _ _ _ _
      | exact impl_DepthOf.mono _ _
      | exact impl_DepthsOf.mono _ _
      | exact impl_PendingOf.mono _ _
      | exact spec_A2Word.mono _ _ _
      | exact LeO.none _
      | refine LeO.ite ?_ ?_
      | refine LeO.bind ?_ (fun _ => ?_)
set_option maxHeartbeats 8000000 in
set_option maxRecDepth 100000 in
theorem laws_FnDepths.calls (k : Nat) (A0 : Option Addr) (c0 : Nat) (l0 : List Int) (A1 : Option Addr) (c1 : Nat) (l1 : List Int) (r : Bool) (w : World) (hr0 : Kd.C (Kd.int .u8) w A0 l0.length l0) (hc0 : l0.length ≤ c0) (hr1 : Kd.C (Kd.int .u8) w A1 l1.length l1) (hc1 : l1.length ≤ c1) (h : laws_FnDepths.f k l0 l1 = some r) :
    Calls Try.prog 9 #[.slice A0 l0.length c0, .slice A1 l1.length c1] w fun e w' => e = .returned (.bool r) ∧ Below w.heap.size w w' := by
  have HR0 := Aside0.mk hr0
  have HC0 := Aside0.mk hc0
  clear hr0 hc0
  have HR1 := Aside0.mk hr1
  have HC1 := Aside0.mk hc1
  clear hr1 hc1
  have HB := Aside0.mk (Below.refl w.heap.size w)
  have H : ((laws_a2Long.f l0 l1).bind fun t653 => (if t653 = true then (some true) else ((spec_A2Word.f k l0 16).bind fun t654 => ((impl_DepthsOf.f k t654).bind fun bt655 => ((impl_DepthOf.f k t654).bind fun bt659 => ((impl_PendingOf.f k t654).bind fun bt661 => (if bt655.2 = 0 then (if bt659.2 = 0 then (if bt661.2.2 = 0 then (if (bt655.1.length : Int) = (wrap64 ((t654.size : Int) + 1)) then (if 0 < (bt655.1.length : Int) then (if (rd bt655.1 0) = 0 then (if 0 ≤ (t654.size : Int) then (if (t654.size : Int) < (bt655.1.length : Int) then (laws_FnDepths.j0 k t654 bt655.1 bt659.1 ((rd bt655.1 (t654.size : Int)) != bt661.2.1)) else (none)) else (none)) else (laws_FnDepths.j0 k t654 bt655.1 bt659.1 true)) else (none)) else (laws_FnDepths.j0 k t654 bt655.1 bt659.1 true)) else (laws_FnDepths.j0 k t654 bt655.1 bt659.1 true)) else (laws_FnDepths.j0 k t654 bt655.1 bt659.1 true)) else (laws_FnDepths.j0 k t654 bt655.1 bt659.1 true)))))))) = some r := h
  clear h
  replace H := Option.bind_eq_some_iff.mp H
  obtain ⟨t653, A30, H⟩ := H
  replace H : (if t653 = true then (some true) else ((spec_A2Word.f k l0 16).bind fun t654 => ((impl_DepthsOf.f k t654).bind fun bt655 => ((impl_DepthOf.f k t654).bind fun bt659 => ((impl_PendingOf.f k t654).bind fun bt661 => (if bt655.2 = 0 then (if bt659.2 = 0 then (if bt661.2.2 = 0 then (if (bt655.1.length : Int) = (wrap64 ((t654.size : Int) + 1)) then (if 0 < (bt655.1.length : Int) then (if (rd bt655.1 0) = 0 then (if 0 ≤ (t654.size : Int) then (if (t654.size : Int) < (bt655.1.length : Int) then (laws_FnDepths.j0 k t654 bt655.1 bt659.1 ((rd bt655.1 (t654.size : Int)) != bt661.2.1)) else (none)) else (none)) else (laws_FnDepths.j0 k t654 bt655.1 bt659.1 true)) else (none)) else (laws_FnDepths.j0 k t654 bt655.1 bt659.1 true)) else (laws_FnDepths.j0 k t654 bt655.1 bt659.1 true)) else (laws_FnDepths.j0 k t654 bt655.1 bt659.1 true)) else (laws_FnDepths.j0 k t654 bt655.1 bt659.1 true))))))) = some r := H
  have A3 := Aside0.mk A30
  clear A30
  by_cases c4 : t653 = true
  · subst c4
    have H1 : (some true) = some r := by rw [if_pos rfl] at H; exact H
    clear H
    have H := H1
    clear H1
    obtain rfl := Option.some.inj H
    go_enter Try.func9, Try.ntmps9
    go_wp2_with (first | ((with_reducible refine gate_callee (f := 20) rfl ?_); refine goesL_ (some 18) rfl rfl Try.func20 (by kernel_rfl) rfl #[.slice A0 l0.length c0, .slice A1 l1.length c1] rfl (by (try simp only [List.map_toArray, List.map_cons, List.map_nil]); first | done | rfl | (simp only [List.length_drop, List.length_take]; rfl)) ?_; (with_reducible refine (laws_a2Long.calls _ _ l0 _ _ l1 true _ ?side1 ?side2 ?side3 ?side4 A3.out).mono ?_); (case side1 => repeat (first | exact HR0.out | (with_reducible refine Kd.C_alloc ?_ _) | (with_reducible refine Kd.C_drewN ?_ _) | (with_reducible refine Kd.C_drew ?_))); (case side2 => exact HC0.out); (case side3 => repeat (first | exact HR1.out | (with_reducible refine Kd.C_alloc ?_ _) | (with_reducible refine Kd.C_drewN ?_ _) | (with_reducible refine Kd.C_drew ?_))); (case side4 => exact HC1.out); rintro e w' ⟨rfl, ⟨nd, rfl⟩⟩; refine ⟨_, rfl, ?_⟩))
    go_ret
    exact ⟨by first | rfl | (simp [errW_none, errW_some] <;> rfl) | (simp [*, errW_none, errW_some] <;> rfl), by repeat (first | (with_reducible first | exact HB.out | apply below_alloc | apply pw_below_drewN | apply below_drew1) | exact HB.out)⟩
  · replace c4 := Bool.eq_false_iff.mpr c4
    subst c4
    have H1 : ((spec_A2Word.f k l0 16).bind fun t654 => ((impl_DepthsOf.f k t654).bind fun bt655 => ((impl_DepthOf.f k t654).bind fun bt659 => ((impl_PendingOf.f k t654).bind fun bt661 => (if bt655.2 = 0 then (if bt659.2 = 0 then (if bt661.2.2 = 0 then (if (bt655.1.length : Int) = (wrap64 ((t654.size : Int) + 1)) then (if 0 < (bt655.1.length : Int) then (if (rd bt655.1 0) = 0 then (if 0 ≤ (t654.size : Int) then (if (t654.size : Int) < (bt655.1.length : Int) then (laws_FnDepths.j0 k t654 bt655.1 bt659.1 ((rd bt655.1 (t654.size : Int)) != bt661.2.1)) else (none)) else (none)) else (laws_FnDepths.j0 k t654 bt655.1 bt659.1 true)) else (none)) else (laws_FnDepths.j0 k t654 bt655.1 bt659.1 true)) else (laws_FnDepths.j0 k t654 bt655.1 bt659.1 true)) else (laws_FnDepths.j0 k t654 bt655.1 bt659.1 true)) else (laws_FnDepths.j0 k t654 bt655.1 bt659.1 true)))))) = some r := by rw [if_neg (show ¬ (false = true) by decide)] at H; exact H
    clear H
    have H := H1
    clear H1
    replace H := Option.bind_eq_some_iff.mp H
    obtain ⟨t654, A50, H⟩ := H
    replace H : ((impl_DepthsOf.f k t654).bind fun bt655 => ((impl_DepthOf.f k t654).bind fun bt659 => ((impl_PendingOf.f k t654).bind fun bt661 => (if bt655.2 = 0 then (if bt659.2 = 0 then (if bt661.2.2 = 0 then (if (bt655.1.length : Int) = (wrap64 ((t654.size : Int) + 1)) then (if 0 < (bt655.1.length : Int) then (if (rd bt655.1 0) = 0 then (if 0 ≤ (t654.size : Int) then (if (t654.size : Int) < (bt655.1.length : Int) then (laws_FnDepths.j0 k t654 bt655.1 bt659.1 ((rd bt655.1 (t654.size : Int)) != bt661.2.1)) else (none)) else (none)) else (laws_FnDepths.j0 k t654 bt655.1 bt659.1 true)) else (none)) else (laws_FnDepths.j0 k t654 bt655.1 bt659.1 true)) else (laws_FnDepths.j0 k t654 bt655.1 bt659.1 true)) else (laws_FnDepths.j0 k t654 bt655.1 bt659.1 true)) else (laws_FnDepths.j0 k t654 bt655.1 bt659.1 true))))) = some r := H
    have A5 := Aside0.mk A50
    clear A50
    replace H := Option.bind_eq_some_iff.mp H
    obtain ⟨⟨t655, t656⟩, A60, H⟩ := H
    replace H : ((impl_DepthOf.f k t654).bind fun bt659 => ((impl_PendingOf.f k t654).bind fun bt661 => (if t656 = 0 then (if bt659.2 = 0 then (if bt661.2.2 = 0 then (if (t655.length : Int) = (wrap64 ((t654.size : Int) + 1)) then (if 0 < (t655.length : Int) then (if (rd t655 0) = 0 then (if 0 ≤ (t654.size : Int) then (if (t654.size : Int) < (t655.length : Int) then (laws_FnDepths.j0 k t654 t655 bt659.1 ((rd t655 (t654.size : Int)) != bt661.2.1)) else (none)) else (none)) else (laws_FnDepths.j0 k t654 t655 bt659.1 true)) else (none)) else (laws_FnDepths.j0 k t654 t655 bt659.1 true)) else (laws_FnDepths.j0 k t654 t655 bt659.1 true)) else (laws_FnDepths.j0 k t654 t655 bt659.1 true)) else (laws_FnDepths.j0 k t654 t655 bt659.1 true)))) = some r := H
    have A6 := Aside0.mk A60
    clear A60
    replace H := Option.bind_eq_some_iff.mp H
    obtain ⟨⟨t659, t660⟩, A70, H⟩ := H
    replace H : ((impl_PendingOf.f k t654).bind fun bt661 => (if t656 = 0 then (if t660 = 0 then (if bt661.2.2 = 0 then (if (t655.length : Int) = (wrap64 ((t654.size : Int) + 1)) then (if 0 < (t655.length : Int) then (if (rd t655 0) = 0 then (if 0 ≤ (t654.size : Int) then (if (t654.size : Int) < (t655.length : Int) then (laws_FnDepths.j0 k t654 t655 t659 ((rd t655 (t654.size : Int)) != bt661.2.1)) else (none)) else (none)) else (laws_FnDepths.j0 k t654 t655 t659 true)) else (none)) else (laws_FnDepths.j0 k t654 t655 t659 true)) else (laws_FnDepths.j0 k t654 t655 t659 true)) else (laws_FnDepths.j0 k t654 t655 t659 true)) else (laws_FnDepths.j0 k t654 t655 t659 true))) = some r := H
    have A7 := Aside0.mk A70
    clear A70
    replace H := Option.bind_eq_some_iff.mp H
    obtain ⟨⟨t661, t662, t663⟩, A80, H⟩ := H
    replace H : (if t656 = 0 then (if t660 = 0 then (if t663 = 0 then (if (t655.length : Int) = (wrap64 ((t654.size : Int) + 1)) then (if 0 < (t655.length : Int) then (if (rd t655 0) = 0 then (if 0 ≤ (t654.size : Int) then (if (t654.size : Int) < (t655.length : Int) then (laws_FnDepths.j0 k t654 t655 t659 ((rd t655 (t654.size : Int)) != t662)) else (none)) else (none)) else (laws_FnDepths.j0 k t654 t655 t659 true)) else (none)) else (laws_FnDepths.j0 k t654 t655 t659 true)) else (laws_FnDepths.j0 k t654 t655 t659 true)) else (laws_FnDepths.j0 k t654 t655 t659 true)) else (laws_FnDepths.j0 k t654 t655 t659 true)) = some r := H
    have A8 := Aside0.mk A80
    clear A80
    have HC9 := Aside0.mk H
    clear H
    go_enter Try.func9, Try.ntmps9
    go_upto_region 7 with (first | ((with_reducible refine gate_callee (f := 20) rfl ?_); refine goesL_ (some 18) rfl rfl Try.func20 (by kernel_rfl) rfl #[.slice A0 l0.length c0, .slice A1 l1.length c1] rfl (by (try simp only [List.map_toArray, List.map_cons, List.map_nil]); first | done | rfl | (simp only [List.length_drop, List.length_take]; rfl)) ?_; (with_reducible refine (laws_a2Long.calls _ _ l0 _ _ l1 false _ ?side1 ?side2 ?side3 ?side4 A3.out).mono ?_); (case side1 => repeat (first | exact HR0.out | (with_reducible refine Kd.C_alloc ?_ _) | (with_reducible refine Kd.C_drewN ?_ _) | (with_reducible refine Kd.C_drew ?_))); (case side2 => exact HC0.out); (case side3 => repeat (first | exact HR1.out | (with_reducible refine Kd.C_alloc ?_ _) | (with_reducible refine Kd.C_drewN ?_ _) | (with_reducible refine Kd.C_drew ?_))); (case side4 => exact HC1.out); rintro e w' ⟨rfl, ⟨nd, rfl⟩⟩; refine ⟨_, rfl, ?_⟩) | ((with_reducible refine gate_callee (f := 34) rfl ?_); refine goesL_ (some 20) rfl rfl Try.func34 (by kernel_rfl) rfl #[.slice A0 l0.length c0, .int .i64 16] rfl (by (try simp only [List.map_toArray, List.map_cons, List.map_nil]); first | done | rfl | (simp only [List.length_drop, List.length_take]; rfl)) ?_; (with_reducible refine (spec_A2Word.calls k _ _ l0 16 t654 _ ?side1 ?side2 A5.out).mono ?_); (case side1 => repeat (first | exact HR0.out | (with_reducible refine Kd.C_alloc ?_ _) | (with_reducible refine Kd.C_drewN ?_ _) | (with_reducible refine Kd.C_drew ?_))); (case side2 => exact HC0.out); rintro e w10 ⟨rfl, hb⟩; refine ⟨_, rfl, ?_⟩; have n0_ := Aside0.mk (below_step (by repeat (first | (with_reducible first | exact HB.out | apply below_alloc | apply pw_below_drewN | apply below_drew1) | exact HB.out)) hb); clear HB; have HB := n0_; clear n0_; (try clear hb); (try clear hb2); (try clear hk); (try clear hi)) | ((with_reducible refine gate_callee (f := 16) rfl ?_); refine goesL_ (some 23) rfl rfl Try.func16 (by kernel_rfl) rfl #[.string t654] rfl (by (try simp only [List.map_toArray, List.map_cons, List.map_nil]); first | done | rfl | (simp only [List.length_drop, List.length_take]; rfl)) ?_; (with_reducible refine (impl_DepthsOf.calls k t654 t655 t656 _ A6.out).mono ?_); rintro e w11 ⟨v657, rfl, ho0, hb⟩; refine ⟨_, rfl, ?_⟩; have n0_ := Aside0.mk (Kd.R_lower ho0 (below_size (by repeat (first | (with_reducible first | exact HB.out | apply below_alloc | apply pw_below_drewN | apply below_drew1) | exact HB.out)))); have n1_ := Aside0.mk (below_step (by repeat (first | (with_reducible first | exact HB.out | apply below_alloc | apply pw_below_drewN | apply below_drew1) | exact HB.out)) hb); clear HB; have HO658 := n0_; have HB := n1_; clear n0_ n1_; (try clear hb); (try clear hb2); (try clear hk); (try clear hi); (try clear ho0)) | ((with_reducible refine gate_callee (f := 35) rfl ?_); refine goesL_ (some 28) rfl rfl Try.func35 (by kernel_rfl) rfl #[.string t654] rfl (by (try simp only [List.map_toArray, List.map_cons, List.map_nil]); first | done | rfl | (simp only [List.length_drop, List.length_take]; rfl)) ?_; (with_reducible refine (impl_DepthOf.calls k t654 t659 t660 _ A7.out).mono ?_); rintro e w12 ⟨rfl, hb⟩; refine ⟨_, rfl, ?_⟩; have n0_ := Aside0.mk (Kd.R_below (by (with_reducible repeat (first | apply Kd.R_alloc | apply Kd.R_drewN | apply Kd.R_drew)); exact HO658.out) hb); have n1_ := Aside0.mk (below_step (by repeat (first | (with_reducible first | exact HB.out | apply below_alloc | apply pw_below_drewN | apply below_drew1) | exact HB.out)) hb); clear HO658; clear HB; have HO658 := n0_; have HB := n1_; clear n0_ n1_; (try clear hb); (try clear hb2); (try clear hk); (try clear hi)) | ((with_reducible refine gate_callee (f := 36) rfl ?_); refine goesL_ (some 33) rfl rfl Try.func36 (by kernel_rfl) rfl #[.string t654] rfl (by (try simp only [List.map_toArray, List.map_cons, List.map_nil]); first | done | rfl | (simp only [List.length_drop, List.length_take]; rfl)) ?_; (with_reducible refine (impl_PendingOf.calls k t654 t661 t662 t663 _ A8.out).mono ?_); rintro e w13 ⟨rfl, hb⟩; refine ⟨_, rfl, ?_⟩; have n0_ := Aside0.mk (Kd.R_below (by (with_reducible repeat (first | apply Kd.R_alloc | apply Kd.R_drewN | apply Kd.R_drew)); exact HO658.out) hb); have n1_ := Aside0.mk (below_step (by repeat (first | (with_reducible first | exact HB.out | apply below_alloc | apply pw_below_drewN | apply below_drew1) | exact HB.out)) hb); clear HO658; clear HB; have HO658 := n0_; have HB := n1_; clear n0_ n1_; (try clear hb); (try clear hb2); (try clear hk); (try clear hi)))
    (try simp only [Act.put, List.setIfInBounds_toArray, List.set_cons_zero, List.set_cons_succ])
    go_cut [69] (fun v69 wc => ∃ (kq : Nat) (x69_8 : Bool), v69 = .bool x69_8 ∧ Aside0 (laws_FnDepths.j0 kq t654 t655 t659 x69_8 = some r) ∧ Aside0 (kq ≤ k) ∧ Aside0 (Kd.R (Kd.int .i64) 2 wc w.heap.size (fun _ => True) v657 t655) ∧ Aside0 (Below w.heap.size w wc))
    case first =>
      have H := HC9.out
      clear HC9
      by_cases c14 : t656 = 0
      · rw [if_pos c14] at H
        have c14b0 : (t656 == 0) = true := beq_iff_eq.mpr c14
        have c14b1 : (t656 != 0) = false := bne_eq_false_iff_eq.mpr c14
        clear c14
        (first | rw [c14b0] | rw [c14b1] | (simp only [i64_w, i32_w]; rw [c14b0]) | skip)
        by_cases c15 : t660 = 0
        · rw [if_pos c15] at H
          have c15b0 : (t660 == 0) = true := beq_iff_eq.mpr c15
          have c15b1 : (t660 != 0) = false := bne_eq_false_iff_eq.mpr c15
          clear c15
          by_cases c16 : t663 = 0
          · rw [if_pos c16] at H
            have c16b0 : (t663 == 0) = true := beq_iff_eq.mpr c16
            have c16b1 : (t663 != 0) = false := bne_eq_false_iff_eq.mpr c16
            clear c16
            by_cases c17 : (t655.length : Int) = (wrap64 ((t654.size : Int) + 1))
            · rw [if_pos c17] at H
              have c17b0 : ((t655.length : Int) == (wrap64 ((t654.size : Int) + 1))) = true := beq_iff_eq.mpr c17
              have c17b1 : ((t655.length : Int) != (wrap64 ((t654.size : Int) + 1))) = false := bne_eq_false_iff_eq.mpr c17
              clear c17
              by_cases c18 : 0 < (t655.length : Int)
              · rw [if_pos c18] at H
                have c18b0 : decide (0 < (t655.length : Int)) = true := decide_eq_true c18
                have c18b1 : decide (0 < t655.length) = true := decide_eq_true (by omega)
                clear c18
                by_cases c19 : (rd t655 0) = 0
                · rw [if_pos c19] at H
                  have c19b0 : ((rd t655 0) == 0) = true := beq_iff_eq.mpr c19
                  have c19b1 : ((rd t655 0) != 0) = false := bne_eq_false_iff_eq.mpr c19
                  clear c19
                  by_cases c20 : 0 ≤ (t654.size : Int)
                  · rw [if_pos c20] at H
                    have c20b0 : decide (0 ≤ (t654.size : Int)) = true := decide_eq_true c20
                    have c20b1 : decide (0 ≤ t654.size) = true := decide_eq_true (by omega)
                    clear c20
                    by_cases c21 : (t654.size : Int) < (t655.length : Int)
                    · rw [if_pos c21] at H
                      have c21b0 : decide ((t654.size : Int) < (t655.length : Int)) = true := decide_eq_true c21
                      have c21b1 : decide (t654.size < t655.length) = true := decide_eq_true (Int.ofNat_lt.mp c21)
                      clear c21
                      have H' := Aside0.mk H
                      clear H
                      obtain ⟨Ao22, co22, eo22⟩ := Kd.R_slice HO658.out
                      subst eo22
                      have p664 : 0 ≤ (0 : Int) := (by omega)
                      have q664 : 0 < (t655.length : Int) := of_decide_eq_true (by first | (with_reducible assumption) | assumption)
                      obtain ⟨ad664, e664, hx664_0⟩ := Kd.at_int (Kd.R_reads' HO658.out).2.2 0 p664 q664
                      cases e664
                      have qi664 : (0 < t655.length) = True := eq_true (by omega)
                      (try rw [show ((0 : Int)).toNat = 0 from rfl] at hx664_0)
                      (try rw [Addr.add_zero'] at hx664_0)
                      replace p664 := eq_true p664
                      replace q664 := eq_true q664
                      have p665 : 0 ≤ ((t654.size : Int) : Int) := of_decide_eq_true (by first | (with_reducible assumption) | assumption)
                      have q665 : (t654.size : Int) < (t655.length : Int) := of_decide_eq_true (by first | (with_reducible assumption) | assumption)
                      obtain ⟨ad665, e665, hx665_0⟩ := Kd.at_int (Kd.R_reads' HO658.out).2.2 (t654.size : Int) p665 q665
                      obtain rfl : ad664 = ad665 := (by injection e665)
                      (try simp only [Go.IntWalk.toNatUp] at hx665_0)
                      replace p665 := eq_true p665
                      replace q665 := eq_true q665
                      go_wp2
                      go_meet
                      case rel => exact ⟨_, (((rd t655 (t654.size : Int)) != t662)), (by first | rfl | (simp; done) | (simp [*]; done)), H', ⟨by first | omega | exact Nat.le_refl _⟩, ⟨by (with_reducible repeat (first | apply Kd.R_alloc | apply Kd.R_drewN | apply Kd.R_drew)); exact HO658.out⟩, ⟨by repeat (first | (with_reducible first | exact HB.out | apply below_alloc | apply pw_below_drewN | apply below_drew1) | exact HB.out)⟩⟩
                    · rw [if_neg c21] at H
                      exact absurd H (by simp)
                  · rw [if_neg c20] at H
                    exact absurd H (by simp)
                · rw [if_neg c19] at H
                  have c19b0 : ((rd t655 0) == 0) = false := beq_eq_false_iff_ne.mpr c19
                  have c19b1 : ((rd t655 0) != 0) = true := bne_iff_ne.mpr c19
                  have H' := Aside0.mk H
                  clear H
                  obtain ⟨Ao23, co23, eo23⟩ := Kd.R_slice HO658.out
                  subst eo23
                  have p664 : 0 ≤ (0 : Int) := (by omega)
                  have q664 : 0 < (t655.length : Int) := of_decide_eq_true (by first | (with_reducible assumption) | assumption)
                  obtain ⟨ad664, e664, hx664_0⟩ := Kd.at_int (Kd.R_reads' HO658.out).2.2 0 p664 q664
                  cases e664
                  have qi664 : (0 < t655.length) = True := eq_true (by omega)
                  (try rw [show ((0 : Int)).toNat = 0 from rfl] at hx664_0)
                  (try rw [Addr.add_zero'] at hx664_0)
                  replace p664 := eq_true p664
                  replace q664 := eq_true q664
                  go_wp2
                  go_meet
                  case rel => exact ⟨_, (true), (by first | rfl | (simp; done) | (simp [*]; done)), H', ⟨by first | omega | exact Nat.le_refl _⟩, ⟨by (with_reducible repeat (first | apply Kd.R_alloc | apply Kd.R_drewN | apply Kd.R_drew)); exact HO658.out⟩, ⟨by repeat (first | (with_reducible first | exact HB.out | apply below_alloc | apply pw_below_drewN | apply below_drew1) | exact HB.out)⟩⟩
              · rw [if_neg c18] at H
                exact absurd H (by simp)
            · rw [if_neg c17] at H
              have c17b0 : ((t655.length : Int) == (wrap64 ((t654.size : Int) + 1))) = false := beq_eq_false_iff_ne.mpr c17
              have c17b1 : ((t655.length : Int) != (wrap64 ((t654.size : Int) + 1))) = true := bne_iff_ne.mpr c17
              have H' := Aside0.mk H
              clear H
              obtain ⟨Ao24, co24, eo24⟩ := Kd.R_slice HO658.out
              subst eo24
              go_wp2
              go_meet
              case rel => exact ⟨_, (true), (by first | rfl | (simp; done) | (simp [*]; done)), H', ⟨by first | omega | exact Nat.le_refl _⟩, ⟨by (with_reducible repeat (first | apply Kd.R_alloc | apply Kd.R_drewN | apply Kd.R_drew)); exact HO658.out⟩, ⟨by repeat (first | (with_reducible first | exact HB.out | apply below_alloc | apply pw_below_drewN | apply below_drew1) | exact HB.out)⟩⟩
          · rw [if_neg c16] at H
            have c16b0 : (t663 == 0) = false := beq_eq_false_iff_ne.mpr c16
            have c16b1 : (t663 != 0) = true := bne_iff_ne.mpr c16
            have H' := Aside0.mk H
            clear H
            go_wp2
            go_meet
            case rel => exact ⟨_, (true), (by first | rfl | (simp; done) | (simp [*]; done)), H', ⟨by first | omega | exact Nat.le_refl _⟩, ⟨by (with_reducible repeat (first | apply Kd.R_alloc | apply Kd.R_drewN | apply Kd.R_drew)); exact HO658.out⟩, ⟨by repeat (first | (with_reducible first | exact HB.out | apply below_alloc | apply pw_below_drewN | apply below_drew1) | exact HB.out)⟩⟩
        · rw [if_neg c15] at H
          have c15b0 : (t660 == 0) = false := beq_eq_false_iff_ne.mpr c15
          have c15b1 : (t660 != 0) = true := bne_iff_ne.mpr c15
          have H' := Aside0.mk H
          clear H
          go_wp2
          go_meet
          case rel => exact ⟨_, (true), (by first | rfl | (simp; done) | (simp [*]; done)), H', ⟨by first | omega | exact Nat.le_refl _⟩, ⟨by (with_reducible repeat (first | apply Kd.R_alloc | apply Kd.R_drewN | apply Kd.R_drew)); exact HO658.out⟩, ⟨by repeat (first | (with_reducible first | exact HB.out | apply below_alloc | apply pw_below_drewN | apply below_drew1) | exact HB.out)⟩⟩
      · rw [if_neg c14] at H
        have c14b0 : (t656 == 0) = false := beq_eq_false_iff_ne.mpr c14
        have c14b1 : (t656 != 0) = true := bne_iff_ne.mpr c14
        (first | rw [c14b0] | rw [c14b1] | (simp only [i64_w, i32_w]; rw [c14b0]) | skip)
        have H' := Aside0.mk H
        clear H
        go_wp2
        go_meet
        case rel => exact ⟨_, (true), (by first | rfl | (simp; done) | (simp [*]; done)), H', ⟨by first | omega | exact Nat.le_refl _⟩, ⟨by (with_reducible repeat (first | apply Kd.R_alloc | apply Kd.R_drewN | apply Kd.R_drew)); exact HO658.out⟩, ⟨by repeat (first | (with_reducible first | exact HB.out | apply below_alloc | apply pw_below_drewN | apply below_drew1) | exact HB.out)⟩⟩
    case rest =>
      clear HC9
      try clear c1
      try clear c2
      try clear p2
      try clear c3
      try clear c4
      try clear p6
      try clear q6
      try clear hx6
      try clear qi6
      try clear c9
      try clear c14
      try clear c14b0
      try clear c14b1
      try clear c15
      try clear c15b0
      try clear c15b1
      try clear c16
      try clear c16b0
      try clear c16b1
      try clear c17
      try clear c17b0
      try clear c17b1
      try clear c18
      try clear c18b0
      try clear c18b1
      try clear c19
      try clear c19b0
      try clear c19b1
      try clear c20
      try clear c20b0
      try clear c20b1
      try clear c21
      try clear c21b0
      try clear c21b1
      try clear hx664_0
      try clear hx665_0
      try clear p664
      try clear p665
      try clear q664
      try clear q665
      obtain ⟨kq, x69_8, rfl, HA, HJ8, HO_6, HB⟩ := hcut
      cases kq with
      | zero => exact absurd HA.out (by simp [laws_FnDepths.j0])
      | succ kj8 =>
        have H := HA.out
        clear HA
        simp only [laws_FnDepths.j0] at H
        by_cases c25 : x69_8 = true
        · subst c25
          have H1 : (some false) = some r := by rw [if_pos rfl] at H; exact H
          clear H
          have H := H1
          clear H1
          obtain rfl := Option.some.inj H
          go_wp2
          go_ret
          exact ⟨by first | rfl | (simp [errW_none, errW_some] <;> rfl) | (simp [*, errW_none, errW_some] <;> rfl), by repeat (first | (with_reducible first | exact HB.out | apply below_alloc | apply pw_below_drewN | apply below_drew1) | exact HB.out)⟩
        · replace c25 := Bool.eq_false_iff.mpr c25
          subst c25
          have H1 : (laws_FnDepths.l0 kj8 t654 t655 t659 0 0) = some r := by rw [if_neg (show ¬ (false = true) by decide)] at H; exact H
          clear H
          have H := H1
          clear H1
          have H' := Aside0.mk H
          clear H
          go_wp2
          go_loopg [13, 14] kj8 (fun kq v13 v14 w' => ∃ (x13_2 : Int) (x14_2 : Int), v13 = .int .i64 x13_2 ∧ v14 = .int .i64 x14_2 ∧ Aside0 (laws_FnDepths.l0 kq t654 t655 t659 x13_2 x14_2 = some r) ∧ Aside0 (kq ≤ kj8) ∧ Aside0 (Kd.R (Kd.int .i64) 2 w' w.heap.size (fun _ => True) v657 t655) ∧ Aside0 (Below w.heap.size w w'))
          case atStart => exact ⟨(0), (0), (by first | rfl | (simp; done) | (simp [*]; done)), (by first | rfl | (simp; done) | (simp [*]; done)), H', ⟨Nat.le_refl _⟩, ⟨by (with_reducible repeat (first | apply Kd.R_alloc | apply Kd.R_drewN | apply Kd.R_drew)); exact HO_6.out⟩, ⟨by repeat (first | (with_reducible first | exact HB.out | apply below_alloc | apply pw_below_drewN | apply below_drew1) | exact HB.out)⟩⟩
          case round =>
            clear H'
            try clear c1
            try clear c2
            try clear p2
            try clear c3
            try clear c4
            try clear p6
            try clear q6
            try clear hx6
            try clear qi6
            try clear c9
            try clear c14
            try clear c14b0
            try clear c14b1
            try clear c15
            try clear c15b0
            try clear c15b1
            try clear c16
            try clear c16b0
            try clear c16b1
            try clear c17
            try clear c17b0
            try clear c17b1
            try clear c18
            try clear c18b0
            try clear c18b1
            try clear c19
            try clear c19b0
            try clear c19b1
            try clear c20
            try clear c20b0
            try clear c20b1
            try clear c21
            try clear c21b0
            try clear c21b1
            try clear c25
            try clear hx664_0
            try clear hx665_0
            try clear p2
            try clear p6
            try clear p664
            try clear p665
            try clear q6
            try clear q664
            try clear q665
            obtain ⟨x13_2, x14_2, rfl, rfl, HA, HK2, HO_6, HB⟩ := hrel
            cases gk with
            | zero => exact absurd HA.out (by simp [laws_FnDepths.l0])
            | succ k2 =>
              have H := HA.out
              clear HA
              simp only [laws_FnDepths.l0] at H
              by_cases c26 : x14_2 < (t654.size : Int)
              · rw [if_pos c26] at H
                have c26b0 : decide (x14_2 < (t654.size : Int)) = true := decide_eq_true c26
                clear c26
                by_cases c27 : 0 ≤ x14_2
                · rw [if_pos c27] at H
                  have c27b0 : decide (0 ≤ x14_2) = true := decide_eq_true c27
                  clear c27
                  by_cases c28 : x14_2 < (t655.length : Int)
                  · rw [if_pos c28] at H
                    have c28b0 : decide (x14_2 < (t655.length : Int)) = true := decide_eq_true c28
                    clear c28
                    replace H := Option.bind_eq_some_iff.mp H
                    obtain ⟨t667, A300, H⟩ := H
                    replace H : (if t667 = true then (laws_FnDepths.j2 k2 t654 t655 t659 x13_2 x14_2 (wrap64 ((rd t655 x14_2) + 1))) else (laws_FnDepths.j2 k2 t654 t655 t659 x13_2 x14_2 (rd t655 x14_2))) = some r := H
                    have A30 := Aside0.mk A300
                    clear A300
                    have HC31 := Aside0.mk H
                    clear H
                    obtain ⟨Ao32, co32, eo32⟩ := Kd.R_slice HO_6.out
                    subst eo32
                    have p666 : 0 ≤ (x14_2 : Int) := of_decide_eq_true (by first | (with_reducible assumption) | assumption)
                    have q666 : x14_2 < (t655.length : Int) := of_decide_eq_true (by first | (with_reducible assumption) | assumption)
                    obtain ⟨ad666, e666, hx666_0⟩ := Kd.at_int (Kd.R_reads' HO_6.out).2.2 x14_2 p666 q666
                    cases e666
                    replace p666 := eq_true p666
                    replace q666 := eq_true q666
                    have p29 : 0 ≤ (x14_2 : Int) := of_decide_eq_true (by first | (with_reducible assumption) | assumption)
                    have q29 : x14_2 < (t654.size : Int) := of_decide_eq_true (by first | (with_reducible assumption) | assumption)
                    have hx29 := bt_at t654 x14_2
                    replace p29 := eq_true p29
                    replace q29 := eq_true q29
                    go_upto_if 83 with (first | ((with_reducible refine gate_callee (f := 37) rfl ?_); refine goesL_ (some 83) rfl rfl Try.func37 (by kernel_rfl) rfl #[.int .u8 (bt t654 x14_2)] rfl (by (try simp only [List.map_toArray, List.map_cons, List.map_nil]); first | done | rfl | (simp only [List.length_drop, List.length_take]; rfl)) ?_; (with_reducible refine (laws_a2Call.calls (bt t654 x14_2) t667 _ A30.out).mono ?_); rintro e w' ⟨rfl, ⟨nd, rfl⟩⟩; refine ⟨_, rfl, ?_⟩))
                    (try simp only [Act.put, List.setIfInBounds_toArray, List.set_cons_zero, List.set_cons_succ])
                    go_cut [15] (fun v15 wc => ∃ (kq : Nat) (x15_30 : Int), v15 = .int .i64 x15_30 ∧ Aside0 (laws_FnDepths.j2 kq t654 t655 t659 x13_2 x14_2 x15_30 = some r) ∧ Aside0 (kq ≤ k2) ∧ Aside0 (Kd.R (Kd.int .i64) 2 wc w.heap.size (fun _ => True) (.slice (some ad666) t655.length co32) t655) ∧ Aside0 (Below w.heap.size w wc))
                    case first =>
                      have H := HC31.out
                      clear HC31
                      by_cases c33 : t667 = true
                      · subst c33
                        have H1 : (laws_FnDepths.j2 k2 t654 t655 t659 x13_2 x14_2 (wrap64 ((rd t655 x14_2) + 1))) = some r := by rw [if_pos rfl] at H; exact H
                        clear H
                        have H := H1
                        clear H1
                        have H' := Aside0.mk H
                        clear H
                        go_wp2
                        go_meet
                        case rel => exact ⟨_, (wrap64 ((rd t655 x14_2) + 1)), (by first | rfl | (simp; done) | (simp [*]; done)), H', ⟨by have := HJ8.out; have := HK2.out; first | omega | exact Nat.le_refl _⟩, ⟨by (with_reducible repeat (first | apply Kd.R_alloc | apply Kd.R_drewN | apply Kd.R_drew)); exact HO_6.out⟩, ⟨by repeat (first | (with_reducible first | exact HB.out | apply below_alloc | apply pw_below_drewN | apply below_drew1) | exact HB.out)⟩⟩
                      · replace c33 := Bool.eq_false_iff.mpr c33
                        subst c33
                        have H1 : (laws_FnDepths.j2 k2 t654 t655 t659 x13_2 x14_2 (rd t655 x14_2)) = some r := by rw [if_neg (show ¬ (false = true) by decide)] at H; exact H
                        clear H
                        have H := H1
                        clear H1
                        have H' := Aside0.mk H
                        clear H
                        go_wp2
                        go_meet
                        case rel => exact ⟨_, (rd t655 x14_2), (by first | rfl | (simp; done) | (simp [*]; done)), H', ⟨by have := HJ8.out; have := HK2.out; first | omega | exact Nat.le_refl _⟩, ⟨by (with_reducible repeat (first | apply Kd.R_alloc | apply Kd.R_drewN | apply Kd.R_drew)); exact HO_6.out⟩, ⟨by repeat (first | (with_reducible first | exact HB.out | apply below_alloc | apply pw_below_drewN | apply below_drew1) | exact HB.out)⟩⟩
                    case rest =>
                      clear HC31
                      try clear c1
                      try clear c2
                      try clear p2
                      try clear q2
                      try clear hx2
                      try clear c3
                      try clear c4
                      try clear p6
                      try clear q6
                      try clear hx6
                      try clear qi6
                      try clear c9
                      try clear c14
                      try clear c14b0
                      try clear c14b1
                      try clear c15
                      try clear c15b0
                      try clear c15b1
                      try clear c16
                      try clear c16b0
                      try clear c16b1
                      try clear c17
                      try clear c17b0
                      try clear c17b1
                      try clear c18
                      try clear c18b0
                      try clear c18b1
                      try clear c19
                      try clear c19b0
                      try clear c19b1
                      try clear c20
                      try clear c20b0
                      try clear c20b1
                      try clear c21
                      try clear c21b0
                      try clear c21b1
                      try clear c25
                      try clear c26
                      try clear c26b0
                      try clear c27
                      try clear c27b0
                      try clear c28
                      try clear c28b0
                      try clear p29
                      try clear q29
                      try clear hx29
                      try clear c33
                      try clear hx664_0
                      try clear hx665_0
                      try clear hx666_0
                      try clear p2
                      try clear p29
                      try clear p6
                      try clear p664
                      try clear p665
                      try clear p666
                      try clear q29
                      try clear q6
                      try clear q664
                      try clear q665
                      try clear q666
                      obtain ⟨kq, x15_30, rfl, HA, HJ30, HO_6, HB⟩ := hcut
                      cases kq with
                      | zero => exact absurd HA.out (by simp [laws_FnDepths.j2])
                      | succ kj30 =>
                        have H := HA.out
                        clear HA
                        simp only [laws_FnDepths.j2] at H
                        have HC34 := Aside0.mk H
                        clear H
                        go_upto_region 16 with (fail)
                        go_cut [93] (fun v93 wc => ∃ (kq : Nat) (x93_33 : Bool), v93 = .bool x93_33 ∧ Aside0 (laws_FnDepths.j3 kq t654 t655 t659 x13_2 x14_2 x15_30 x93_33 = some r) ∧ Aside0 (kq ≤ kj30) ∧ Aside0 (Kd.R (Kd.int .i64) 2 wc w.heap.size (fun _ => True) (.slice (some ad666) t655.length co32) t655) ∧ Aside0 (Below w.heap.size w wc))
                        case first =>
                          have H := HC34.out
                          clear HC34
                          by_cases c35 : 0 ≤ x14_2
                          · rw [if_pos c35] at H
                            have c35b0 : decide (0 ≤ x14_2) = true := decide_eq_true c35
                            clear c35
                            (first | rw [c35b0] | rw [c35b1] | (simp only [i64_w, i32_w]; rw [c35b0]) | skip)
                            by_cases c36 : x14_2 < (t654.size : Int)
                            · rw [if_pos c36] at H
                              have c36b0 : decide (x14_2 < (t654.size : Int)) = true := decide_eq_true c36
                              clear c36
                              replace H := Option.bind_eq_some_iff.mp H
                              obtain ⟨t668, A380, H⟩ := H
                              replace H : (if t668 = true then (laws_FnDepths.j3 kj30 t654 t655 t659 x13_2 x14_2 x15_30 (decide (x15_30 > 0))) else (laws_FnDepths.j3 kj30 t654 t655 t659 x13_2 x14_2 x15_30 false)) = some r := H
                              have A38 := Aside0.mk A380
                              clear A380
                              by_cases c39 : t668 = true
                              · subst c39
                                have H1 : (laws_FnDepths.j3 kj30 t654 t655 t659 x13_2 x14_2 x15_30 (decide (x15_30 > 0))) = some r := by rw [if_pos rfl] at H; exact H
                                clear H
                                have H := H1
                                clear H1
                                have H' := Aside0.mk H
                                clear H
                                have p37 : 0 ≤ (x14_2 : Int) := of_decide_eq_true (by first | (with_reducible assumption) | assumption)
                                have q37 : x14_2 < (t654.size : Int) := of_decide_eq_true (by first | (with_reducible assumption) | assumption)
                                have hx37 := bt_at t654 x14_2
                                replace p37 := eq_true p37
                                replace q37 := eq_true q37
                                go_wp2_with (first | ((with_reducible refine gate_callee (f := 38) rfl ?_); refine goesL_ (some 89) rfl rfl Try.func38 (by kernel_rfl) rfl #[.int .u8 (bt t654 x14_2)] rfl (by (try simp only [List.map_toArray, List.map_cons, List.map_nil]); first | done | rfl | (simp only [List.length_drop, List.length_take]; rfl)) ?_; (with_reducible refine (laws_a2Return.calls (bt t654 x14_2) true _ A38.out).mono ?_); rintro e w' ⟨rfl, ⟨nd, rfl⟩⟩; refine ⟨_, rfl, ?_⟩))
                                go_meet
                                case rel => exact ⟨_, (decide (x15_30 > 0)), (by first | rfl | (simp; done) | (simp [*]; done)), H', ⟨by have := HJ8.out; have := HK2.out; have := HJ30.out; first | omega | exact Nat.le_refl _⟩, ⟨by (with_reducible repeat (first | apply Kd.R_alloc | apply Kd.R_drewN | apply Kd.R_drew)); exact HO_6.out⟩, ⟨by repeat (first | (with_reducible first | exact HB.out | apply below_alloc | apply pw_below_drewN | apply below_drew1) | exact HB.out)⟩⟩
                              · replace c39 := Bool.eq_false_iff.mpr c39
                                subst c39
                                have H1 : (laws_FnDepths.j3 kj30 t654 t655 t659 x13_2 x14_2 x15_30 false) = some r := by rw [if_neg (show ¬ (false = true) by decide)] at H; exact H
                                clear H
                                have H := H1
                                clear H1
                                have H' := Aside0.mk H
                                clear H
                                have p37 : 0 ≤ (x14_2 : Int) := of_decide_eq_true (by first | (with_reducible assumption) | assumption)
                                have q37 : x14_2 < (t654.size : Int) := of_decide_eq_true (by first | (with_reducible assumption) | assumption)
                                have hx37 := bt_at t654 x14_2
                                replace p37 := eq_true p37
                                replace q37 := eq_true q37
                                go_wp2_with (first | ((with_reducible refine gate_callee (f := 38) rfl ?_); refine goesL_ (some 89) rfl rfl Try.func38 (by kernel_rfl) rfl #[.int .u8 (bt t654 x14_2)] rfl (by (try simp only [List.map_toArray, List.map_cons, List.map_nil]); first | done | rfl | (simp only [List.length_drop, List.length_take]; rfl)) ?_; (with_reducible refine (laws_a2Return.calls (bt t654 x14_2) false _ A38.out).mono ?_); rintro e w' ⟨rfl, ⟨nd, rfl⟩⟩; refine ⟨_, rfl, ?_⟩))
                                go_meet
                                case rel => exact ⟨_, (false), (by first | rfl | (simp; done) | (simp [*]; done)), H', ⟨by have := HJ8.out; have := HK2.out; have := HJ30.out; first | omega | exact Nat.le_refl _⟩, ⟨by (with_reducible repeat (first | apply Kd.R_alloc | apply Kd.R_drewN | apply Kd.R_drew)); exact HO_6.out⟩, ⟨by repeat (first | (with_reducible first | exact HB.out | apply below_alloc | apply pw_below_drewN | apply below_drew1) | exact HB.out)⟩⟩
                            · rw [if_neg c36] at H
                              exact absurd H (by simp)
                          · rw [if_neg c35] at H
                            exact absurd H (by simp)
                        case rest =>
                          clear HC34
                          try clear c1
                          try clear c2
                          try clear p2
                          try clear q2
                          try clear hx2
                          try clear c3
                          try clear p3
                          try clear q3
                          try clear hx3
                          try clear c4
                          try clear p6
                          try clear q6
                          try clear hx6
                          try clear qi6
                          try clear c9
                          try clear c14
                          try clear c14b0
                          try clear c14b1
                          try clear c15
                          try clear c15b0
                          try clear c15b1
                          try clear c16
                          try clear c16b0
                          try clear c16b1
                          try clear c17
                          try clear c17b0
                          try clear c17b1
                          try clear c18
                          try clear c18b0
                          try clear c18b1
                          try clear c19
                          try clear c19b0
                          try clear c19b1
                          try clear c20
                          try clear c20b0
                          try clear c20b1
                          try clear c21
                          try clear c21b0
                          try clear c21b1
                          try clear c25
                          try clear c26
                          try clear c26b0
                          try clear c27
                          try clear c27b0
                          try clear c28
                          try clear c28b0
                          try clear p29
                          try clear q29
                          try clear hx29
                          try clear c33
                          try clear c34
                          try clear c35
                          try clear c35b0
                          try clear c35b1
                          try clear c36
                          try clear c36b0
                          try clear c37
                          try clear p37
                          try clear q37
                          try clear hx37
                          try clear c38
                          try clear c39
                          try clear hx664_0
                          try clear hx665_0
                          try clear hx666_0
                          try clear p2
                          try clear p29
                          try clear p37
                          try clear p6
                          try clear p664
                          try clear p665
                          try clear p666
                          try clear q2
                          try clear q29
                          try clear q37
                          try clear q6
                          try clear q664
                          try clear q665
                          try clear q666
                          obtain ⟨kq, x93_33, rfl, HA, HJ33, HO_6, HB⟩ := hcut
                          cases kq with
                          | zero => exact absurd HA.out (by simp [laws_FnDepths.j3])
                          | succ kj33 =>
                            have H := HA.out
                            clear HA
                            simp only [laws_FnDepths.j3] at H
                            have HC40 := Aside0.mk H
                            clear H
                            go_upto_if 93 with (fail)
                            go_cut [15] (fun v15 wc => ∃ (kq : Nat) (x15_39 : Int), v15 = .int .i64 x15_39 ∧ Aside0 (laws_FnDepths.j4 kq t654 t655 t659 x13_2 x14_2 x15_39 = some r) ∧ Aside0 (kq ≤ kj33) ∧ Aside0 (Kd.R (Kd.int .i64) 2 wc w.heap.size (fun _ => True) (.slice (some ad666) t655.length co32) t655) ∧ Aside0 (Below w.heap.size w wc))
                            case first =>
                              have H := HC40.out
                              clear HC40
                              by_cases c41 : x93_33 = true
                              · subst c41
                                have H1 : (laws_FnDepths.j4 kj33 t654 t655 t659 x13_2 x14_2 (wrap64 (x15_30 - 1))) = some r := by rw [if_pos rfl] at H; exact H
                                clear H
                                have H := H1
                                clear H1
                                have H' := Aside0.mk H
                                clear H
                                go_wp2
                                go_meet
                                case rel => exact ⟨_, (wrap64 (x15_30 - 1)), (by first | rfl | (simp; done) | (simp [*]; done)), H', ⟨by have := HJ8.out; have := HK2.out; have := HJ30.out; have := HJ33.out; first | omega | exact Nat.le_refl _⟩, ⟨by (with_reducible repeat (first | apply Kd.R_alloc | apply Kd.R_drewN | apply Kd.R_drew)); exact HO_6.out⟩, ⟨by repeat (first | (with_reducible first | exact HB.out | apply below_alloc | apply pw_below_drewN | apply below_drew1) | exact HB.out)⟩⟩
                              · replace c41 := Bool.eq_false_iff.mpr c41
                                subst c41
                                have H1 : (laws_FnDepths.j4 kj33 t654 t655 t659 x13_2 x14_2 x15_30) = some r := by rw [if_neg (show ¬ (false = true) by decide)] at H; exact H
                                clear H
                                have H := H1
                                clear H1
                                have H' := Aside0.mk H
                                clear H
                                go_wp2
                                go_meet
                                case rel => exact ⟨_, (x15_30), (by first | rfl | (simp; done) | (simp [*]; done)), H', ⟨by have := HJ8.out; have := HK2.out; have := HJ30.out; have := HJ33.out; first | omega | exact Nat.le_refl _⟩, ⟨by (with_reducible repeat (first | apply Kd.R_alloc | apply Kd.R_drewN | apply Kd.R_drew)); exact HO_6.out⟩, ⟨by repeat (first | (with_reducible first | exact HB.out | apply below_alloc | apply pw_below_drewN | apply below_drew1) | exact HB.out)⟩⟩
                            case rest =>
                              clear HC40
                              try clear c1
                              try clear c2
                              try clear p2
                              try clear q2
                              try clear hx2
                              try clear c3
                              try clear p3
                              try clear q3
                              try clear hx3
                              try clear c4
                              try clear p6
                              try clear q6
                              try clear hx6
                              try clear qi6
                              try clear c9
                              try clear c14
                              try clear c14b0
                              try clear c14b1
                              try clear c15
                              try clear c15b0
                              try clear c15b1
                              try clear c16
                              try clear c16b0
                              try clear c16b1
                              try clear c17
                              try clear c17b0
                              try clear c17b1
                              try clear c18
                              try clear c18b0
                              try clear c18b1
                              try clear c19
                              try clear c19b0
                              try clear c19b1
                              try clear c20
                              try clear c20b0
                              try clear c20b1
                              try clear c21
                              try clear c21b0
                              try clear c21b1
                              try clear c25
                              try clear c26
                              try clear c26b0
                              try clear c27
                              try clear c27b0
                              try clear c28
                              try clear c28b0
                              try clear p29
                              try clear q29
                              try clear hx29
                              try clear c33
                              try clear c34
                              try clear c35
                              try clear c35b0
                              try clear c35b1
                              try clear c36
                              try clear c36b0
                              try clear c37
                              try clear p37
                              try clear q37
                              try clear hx37
                              try clear c38
                              try clear c39
                              try clear c41
                              try clear hx664_0
                              try clear hx665_0
                              try clear hx666_0
                              try clear p2
                              try clear p29
                              try clear p3
                              try clear p37
                              try clear p6
                              try clear p664
                              try clear p665
                              try clear p666
                              try clear q2
                              try clear q29
                              try clear q3
                              try clear q37
                              try clear q6
                              try clear q664
                              try clear q665
                              try clear q666
                              obtain ⟨kq, x15_39, rfl, HA, HJ39, HO_6, HB⟩ := hcut
                              cases kq with
                              | zero => exact absurd HA.out (by simp [laws_FnDepths.j4])
                              | succ kj39 =>
                                have H := HA.out
                                clear HA
                                simp only [laws_FnDepths.j4] at H
                                obtain ⟨ji42, hji42⟩ : ∃ j_ : Int, (wrap64 (x14_2 + 1)) = j_ := ⟨_, rfl⟩
                                replace H : (if 0 ≤ (ji42) then (if (ji42) < (t655.length : Int) then (if (rd t655 (ji42)) = x15_39 then (if x15_39 > x13_2 then (laws_FnDepths.l0 kj39 t654 t655 t659 x15_39 ji42) else (laws_FnDepths.l0 kj39 t654 t655 t659 x13_2 ji42)) else (some false)) else (none)) else (none)) = some r := by first | (rw [hji42] at H; exact H) | (simp only [hji42] at H ⊢; exact H)
                                have hji42w : (IntKind.i64.wrap (x14_2 + 1)) = ji42 := (i64_w _).trans hji42
                                by_cases c43 : 0 ≤ (ji42)
                                · rw [if_pos c43] at H
                                  have c43b0 : decide (0 ≤ (ji42)) = true := decide_eq_true c43
                                  clear c43
                                  by_cases c44 : (ji42) < (t655.length : Int)
                                  · rw [if_pos c44] at H
                                    have c44b0 : decide ((ji42) < (t655.length : Int)) = true := decide_eq_true c44
                                    clear c44
                                    by_cases c45 : (rd t655 (ji42)) = x15_39
                                    · rw [if_pos c45] at H
                                      have c45b0 : ((rd t655 (ji42)) == x15_39) = true := beq_iff_eq.mpr c45
                                      have c45b1 : ((rd t655 (ji42)) != x15_39) = false := bne_eq_false_iff_eq.mpr c45
                                      clear c45
                                      by_cases c46 : x15_39 > x13_2
                                      · rw [if_pos c46] at H
                                        have c46b0 : decide (x13_2 < x15_39) = true := decide_eq_true c46
                                        clear c46
                                        have H' := Aside0.mk H
                                        clear H
                                        have p669 : 0 ≤ ((ji42) : Int) := of_decide_eq_true (by first | (with_reducible assumption) | assumption)
                                        have q669 : (ji42) < (t655.length : Int) := of_decide_eq_true (by first | (with_reducible assumption) | assumption)
                                        obtain ⟨ad669, e669, hx669_0⟩ := Kd.at_int (Kd.R_reads' HO_6.out).2.2 (ji42) p669 q669
                                        obtain rfl : ad666 = ad669 := (by injection e669)
                                        replace p669 := eq_true p669
                                        replace q669 := eq_true q669
                                        go_wp2
                                        go_roundg kj39
                                        case measure => have := HJ8.out; have := HK2.out; have := HJ30.out; have := HJ33.out; have := HJ39.out; omega
                                        case rel => exact ⟨(x15_39), (ji42), (by first | rfl | (simp; done) | (simp [*]; done)), (by first | rfl | (simp; done) | (simp only [← hji42] <;> (first | rfl | simp)) | (simp [*]; done)), H', ⟨by have := HJ8.out; have := HK2.out; have := HJ30.out; have := HJ33.out; have := HJ39.out; omega⟩, ⟨by (with_reducible repeat (first | apply Kd.R_alloc | apply Kd.R_drewN | apply Kd.R_drew)); exact HO_6.out⟩, ⟨by repeat (first | (with_reducible first | exact HB.out | apply below_alloc | apply pw_below_drewN | apply below_drew1) | exact HB.out)⟩⟩
                                      · rw [if_neg c46] at H
                                        have c46b0 : decide (x13_2 < x15_39) = false := decide_eq_false c46
                                        clear c46
                                        have H' := Aside0.mk H
                                        clear H
                                        have p669 : 0 ≤ ((ji42) : Int) := of_decide_eq_true (by first | (with_reducible assumption) | assumption)
                                        have q669 : (ji42) < (t655.length : Int) := of_decide_eq_true (by first | (with_reducible assumption) | assumption)
                                        obtain ⟨ad669, e669, hx669_0⟩ := Kd.at_int (Kd.R_reads' HO_6.out).2.2 (ji42) p669 q669
                                        obtain rfl : ad666 = ad669 := (by injection e669)
                                        replace p669 := eq_true p669
                                        replace q669 := eq_true q669
                                        go_wp2
                                        go_roundg kj39
                                        case measure => have := HJ8.out; have := HK2.out; have := HJ30.out; have := HJ33.out; have := HJ39.out; omega
                                        case rel => exact ⟨(x13_2), (ji42), (by first | rfl | (simp; done) | (simp [*]; done)), (by first | rfl | (simp; done) | (simp only [← hji42] <;> (first | rfl | simp)) | (simp [*]; done)), H', ⟨by have := HJ8.out; have := HK2.out; have := HJ30.out; have := HJ33.out; have := HJ39.out; omega⟩, ⟨by (with_reducible repeat (first | apply Kd.R_alloc | apply Kd.R_drewN | apply Kd.R_drew)); exact HO_6.out⟩, ⟨by repeat (first | (with_reducible first | exact HB.out | apply below_alloc | apply pw_below_drewN | apply below_drew1) | exact HB.out)⟩⟩
                                    · rw [if_neg c45] at H
                                      have c45b0 : ((rd t655 (ji42)) == x15_39) = false := beq_eq_false_iff_ne.mpr c45
                                      have c45b1 : ((rd t655 (ji42)) != x15_39) = true := bne_iff_ne.mpr c45
                                      obtain rfl := Option.some.inj H
                                      have p669 : 0 ≤ ((ji42) : Int) := of_decide_eq_true (by first | (with_reducible assumption) | assumption)
                                      have q669 : (ji42) < (t655.length : Int) := of_decide_eq_true (by first | (with_reducible assumption) | assumption)
                                      obtain ⟨ad669, e669, hx669_0⟩ := Kd.at_int (Kd.R_reads' HO_6.out).2.2 (ji42) p669 q669
                                      obtain rfl : ad666 = ad669 := (by injection e669)
                                      replace p669 := eq_true p669
                                      replace q669 := eq_true q669
                                      go_wp2
                                      go_ret
                                      exact ⟨by first | rfl | (simp [errW_none, errW_some] <;> rfl) | (simp only [← hji42]; first | rfl | (simp [errW_none, errW_some] <;> rfl)) | (simp [*, errW_none, errW_some] <;> rfl), by repeat (first | (with_reducible first | exact HB.out | apply below_alloc | apply pw_below_drewN | apply below_drew1) | exact HB.out)⟩
                                  · rw [if_neg c44] at H
                                    exact absurd H (by simp)
                                · rw [if_neg c43] at H
                                  exact absurd H (by simp)
                  · rw [if_neg c28] at H
                    exact absurd H (by simp)
                · rw [if_neg c27] at H
                  exact absurd H (by simp)
              · rw [if_neg c26] at H
                have c26b0 : decide (x14_2 < (t654.size : Int)) = false := decide_eq_false c26
                clear c26
                obtain rfl := Option.some.inj H
                go_wp2
                go_ret
                exact ⟨by first | rfl | (simp [errW_none, errW_some] <;> rfl) | (simp [*, errW_none, errW_some] <;> rfl), by repeat (first | (with_reducible first | exact HB.out | apply below_alloc | apply pw_below_drewN | apply below_drew1) | exact HB.out)⟩

/-- THE ONE PURE STATEMENT of laws_FnDepths: yours. -/
def laws_FnDepths.Pure : Prop := ∀ (l0 : List Int) (l1 : List Int), l0.length ≤ maxLen → l0.length * 1 ≤ 140737488351232 → (∀ x ∈ l0, (Lit.int .u8 x).wf = true) → l1.length ≤ maxLen → l1.length * 1 ≤ 140737488351232 → (∀ x ∈ l1, (Lit.int .u8 x).wf = true) → ∃ k, laws_FnDepths.f k l0 l1 = some true
theorem laws_FnDepths.walk (P : laws_FnDepths.Pure) (a0 : Option Addr) (len0 cap0 : Nat) (z0 : List Int) (a1 : Option Addr) (len1 cap1 : Nat) (z1 : List Int) (w : World) (w0 : (a0 = none ∧ len0 = 0 ∧ cap0 = 0 ∧ z0 = []) ∨ ∃ x, a0 = some x ∧ len0 ≤ cap0 ∧ cap0 ≤ maxLen ∧ z0.length = cap0 ∧ (∀ i, i < z0.length → w.cell? (x.add i) = some (.int .u8 (z0.getD i 0))) ∧ ∀ n ∈ z0, (Lit.int .u8 n).wf = true) (y0 : len0 * 1 ≤ 140737488351232) (w1 : (a1 = none ∧ len1 = 0 ∧ cap1 = 0 ∧ z1 = []) ∨ ∃ x, a1 = some x ∧ len1 ≤ cap1 ∧ cap1 ≤ maxLen ∧ z1.length = cap1 ∧ (∀ i, i < z1.length → w.cell? (x.add i) = some (.int .u8 (z1.getD i 0))) ∧ ∀ n ∈ z1, (Lit.int .u8 n).wf = true) (y1 : len1 * 1 ≤ 140737488351232) :
    Calls Try.prog 9 #[.slice a0 len0 cap0, .slice a1 len1 cap1] w fun e w' => e = .returned (.bool true) ∧ Below w.heap.size w w' := by
  obtain ⟨l0, rfl, hr0, hm0, hw0, hc0⟩ := ReadsInt.ofRowC w0
  obtain ⟨l1, rfl, hr1, hm1, hw1, hc1⟩ := ReadsInt.ofRowC w1
  obtain ⟨k, h⟩ := P l0 l1 hm0 y0 hw0 hm1 y1 hw1
  refine (laws_FnDepths.calls k _ _ l0 _ _ l1 true w (Kd.C_of_reads (d := (0 : Int)) (h1 := fun _ => rfl) hr0) hc0 (Kd.C_of_reads (d := (0 : Int)) (h1 := fun _ => rfl) hr1) hc1 h).mono ?_
  rintro e w' ⟨rfl, hd⟩
  exact ⟨rfl, hd⟩

end Go.Proofs.Ytpbckaimchoplaa.P
