/- Machine side of the laws of this seat: for each Go function that they reach, a Lean function and the proof that a call comes to just its answer. Written by a program of this session. -/
import Derived.Test.YthhmkkclmopkhaaPx0
import Derived.Test.YthhmkkclmopkhaaPx25
import Derived.Test.YthhmkkclmopkhaaPx26
namespace Go.Proofs.Ythhmkkclmopkhaa.P
open Go.RowKit Go.Proofs.YthhmkkclmopkhaaW.PrintWords Go.Proofs.YthhmkkclmopkhaaW.PrintLast Go.Proofs.YthhmkkclmopkhaaW.PrintMore
attribute [local go_sem] max2_int min2_int max_two min_two max_three min_three max_four min_four   -- for this text's walks alone
set_option linter.unusedVariables false
set_option linter.unusedSimpArgs false

/-! ### spec_CountMatched: function 8 -/
def spec_CountMatched.f (k : Nat) (a0 : Int) : Option (Int × Int) := (spec_l00In.f a0 0 20).bind fun t120 => (if t120 = true then ((spec_l01Ways.f k a0).bind fun t121 => (if 0 ≤ a0 then (if a0 < (t121.length : Int) then (if 0 < ((rd_L1 t121 a0).length : Int) then (some (rd (rd_L1 t121 a0) 0, 0)) else (none)) else (none)) else (none))) else (some (0, 2)))
theorem spec_CountMatched.mono : ∀ a0 k, LeO (spec_CountMatched.f k a0) (spec_CountMatched.f (k + 1) a0) := by
  intro a0 k
  unfold spec_CountMatched.f
  repeat' first
      | (with_reducible exact spec_l01Ways.mono _ _)
      | (with_reducible exact LeO.refl _)
      | (with_reducible exact LeO.none _)
      | (with_reducible refine LeO.ite ?_ ?_)
      | (with_reducible refine LeO.bind ?_ (fun _ => ?_))
      | exact spec_l01Ways.mono _ _
      | exact LeO.none _
      | refine LeO.ite ?_ ?_
      | refine LeO.bind ?_ (fun _ => ?_)
set_option maxHeartbeats 8000000 in
set_option maxRecDepth 100000 in
theorem spec_CountMatched.calls (k : Nat) (a0 : Int) (r1 : Int) (r2 : Int) (w : World) (h : spec_CountMatched.f k a0 = some (r1, r2)) :
    Calls Try.prog 8 #[.int .i64 a0] w fun e w' => e = .returned (.tuple #[.int .i64 r1, .int .i64 r2]) ∧ Below w.heap.size w w' := by
  have HB := Aside0.mk (Below.refl w.heap.size w)
  have H : ((spec_l00In.f a0 0 20).bind fun t120 => (if t120 = true then ((spec_l01Ways.f k a0).bind fun t121 => (if 0 ≤ a0 then (if a0 < (t121.length : Int) then (if 0 < ((rd_L1 t121 a0).length : Int) then (some (rd (rd_L1 t121 a0) 0, 0)) else (none)) else (none)) else (none))) else (some (0, 2)))) = some (r1, r2) := h
  clear h
  replace H := Option.bind_eq_some_iff.mp H
  obtain ⟨t120, A20, H⟩ := H
  replace H : (if t120 = true then ((spec_l01Ways.f k a0).bind fun t121 => (if 0 ≤ a0 then (if a0 < (t121.length : Int) then (if 0 < ((rd_L1 t121 a0).length : Int) then (some (rd (rd_L1 t121 a0) 0, 0)) else (none)) else (none)) else (none))) else (some (0, 2))) = some (r1, r2) := H
  have A2 := Aside0.mk A20
  clear A20
  by_cases c3 : t120 = true
  · subst c3
    have H1 : ((spec_l01Ways.f k a0).bind fun t121 => (if 0 ≤ a0 then (if a0 < (t121.length : Int) then (if 0 < ((rd_L1 t121 a0).length : Int) then (some (rd (rd_L1 t121 a0) 0, 0)) else (none)) else (none)) else (none))) = some (r1, r2) := by rw [if_pos rfl] at H; exact H
    clear H
    have H := H1
    clear H1
    replace H := Option.bind_eq_some_iff.mp H
    obtain ⟨t121, A40, H⟩ := H
    replace H : (if 0 ≤ a0 then (if a0 < (t121.length : Int) then (if 0 < ((rd_L1 t121 a0).length : Int) then (some (rd (rd_L1 t121 a0) 0, 0)) else (none)) else (none)) else (none)) = some (r1, r2) := H
    have A4 := Aside0.mk A40
    clear A40
    by_cases c5 : 0 ≤ a0
    · rw [if_pos c5] at H
      have c5b0 : decide (0 ≤ a0) = true := decide_eq_true c5
      clear c5
      by_cases c6 : a0 < (t121.length : Int)
      · rw [if_pos c6] at H
        have c6b0 : decide (a0 < (t121.length : Int)) = true := decide_eq_true c6
        clear c6
        by_cases c7 : 0 < ((rd_L1 t121 a0).length : Int)
        · rw [if_pos c7] at H
          have c7b0 : decide (0 < ((rd_L1 t121 a0).length : Int)) = true := decide_eq_true c7
          have c7b1 : decide (0 < (rd_L1 t121 a0).length) = true := decide_eq_true (by omega)
          clear c7
          simp only [Option.some.injEq, Prod.mk.injEq] at H
          obtain ⟨rfl, rfl⟩ := H
          go_enter Try.func8, Try.ntmps8
          go_wp2_with (first | ((with_reducible refine gate_callee (f := 25) rfl ?_); refine goesL_ (some 5) rfl rfl Try.func25 (by kernel_rfl) rfl #[.int .i64 a0, .int .i64 0, .int .i64 20] rfl (by (try simp only [List.map_toArray, List.map_cons, List.map_nil]); first | done | rfl | (simp only [List.length_drop, List.length_take]; rfl)) ?_; (with_reducible refine (spec_l00In.calls a0 0 20 true _ A2.out).mono ?_); rintro e w' ⟨rfl, ⟨nd, rfl⟩⟩; refine ⟨_, rfl, ?_⟩) | ((with_reducible refine gate_callee (f := 26) rfl ?_); refine goesL_ (some 8) rfl rfl Try.func26 (by kernel_rfl) rfl #[.int .i64 a0] rfl (by (try simp only [List.map_toArray, List.map_cons, List.map_nil]); first | done | rfl | (simp only [List.length_drop, List.length_take]; rfl)) ?_; (with_reducible refine (spec_l01Ways.calls k a0 t121 _ A4.out).mono ?_); rintro e w8 ⟨v122, rfl, ho0, hb⟩; refine ⟨_, rfl, ?_⟩; have n0_ := Aside0.mk (Kd.S_lower ho0 (below_size (by repeat (first | (with_reducible first | exact HB.out | apply below_alloc | apply pw_below_drewN | apply below_drew1) | exact HB.out)))); have n1_ := Aside0.mk (below_step (by repeat (first | (with_reducible first | exact HB.out | apply below_alloc | apply pw_below_drewN | apply below_drew1) | exact HB.out)) hb); clear HB; have HO123 := n0_; have HB := n1_; clear n0_ n1_; (try clear hb); (try clear hb2); (try clear hk); (try clear hi); (try clear ho0); obtain ⟨Ao9, co9, eo9⟩ := Kd.S_slice HO123.out; subst eo9; have p124 : 0 ≤ (a0 : Int) := of_decide_eq_true (by first | (with_reducible assumption) | assumption); have q124 : a0 < (t121.length : Int) := of_decide_eq_true (by first | (with_reducible assumption) | assumption); obtain ⟨ad124, A124_0, c124_0, e124, hx124_0, hl124_0, hi124_0⟩ := at_L1 (Kd.S_reads' HO123.out).2.2 a0 p124 q124; cases e124; obtain ⟨ce124, hce124, hMe124, hcc124⟩ := Kd.S_get HO123.out [] a0 p124 (by first | exact q124 | exact of_decide_eq_true (by first | (with_reducible assumption) | assumption) | (have e_ := (Kd.S_reads' HO123.out).1; omega)); obtain ⟨ve124_0, rfl, ge124_0⟩ := hMe124; have hv124_0 := hcc124 0 _ rfl; rw [Nat.add_zero, show ((Kd.slice 2 (Kd.int .i64))).sz = 1 from rfl, Nat.mul_one] at hv124_0; replace hv124_0 := Option.some.inj (hv124_0.symm.trans hx124_0); rw [hv124_0] at ge124_0; have HL124_0 := Aside0.mk (show Kd.R (Kd.int .i64) 2 _ _ _ _ (rd_L1 t121 a0) from ge124_0); clear hv124_0 ge124_0; clear hcc124 hce124; have HR124_0 := Aside0.mk hi124_0; have HC124_0 := Aside0.mk hl124_0; clear hi124_0 hl124_0; replace p124 := eq_true p124; replace q124 := eq_true q124; have p125 : 0 ≤ (0 : Int) := (by omega); have q125 : 0 < ((rd_L1 t121 a0).length : Int) := of_decide_eq_true (by first | (with_reducible assumption) | assumption); obtain ⟨ad125, e125, hx125_0⟩ := Kd.at_int (by repeat (first | (with_reducible exact HR124_0.out) | (with_reducible refine Kd.C_alloc ?_ _) | (with_reducible refine Kd.C_drewN ?_ _) | (with_reducible refine Kd.C_drew ?_) | exact HR124_0.out)) 0 p125 q125; cases e125; have qi125 : (0 < (rd_L1 t121 a0).length) = True := eq_true (by omega); (try rw [show ((0 : Int)).toNat = 0 from rfl] at hx125_0); (try rw [Addr.add_zero'] at hx125_0); replace p125 := eq_true p125; replace q125 := eq_true q125))
          go_ret2
          exact ⟨by first | rfl | (simp [errW_none, errW_some] <;> rfl) | (simp [*, errW_none, errW_some] <;> rfl), by repeat (first | (with_reducible first | exact HB.out | apply below_alloc | apply pw_below_drewN | apply below_drew1) | exact HB.out)⟩
        · rw [if_neg c7] at H
          exact absurd H (by simp)
      · rw [if_neg c6] at H
        exact absurd H (by simp)
    · rw [if_neg c5] at H
      exact absurd H (by simp)
  · replace c3 := Bool.eq_false_iff.mpr c3
    subst c3
    have H1 : (some (0, 2)) = some (r1, r2) := by rw [if_neg (show ¬ (false = true) by decide)] at H; exact H
    clear H
    have H := H1
    clear H1
    simp only [Option.some.injEq, Prod.mk.injEq] at H
    obtain ⟨rfl, rfl⟩ := H
    go_enter Try.func8, Try.ntmps8
    go_wp2_with (first | ((with_reducible refine gate_callee (f := 25) rfl ?_); refine goesL_ (some 5) rfl rfl Try.func25 (by kernel_rfl) rfl #[.int .i64 a0, .int .i64 0, .int .i64 20] rfl (by (try simp only [List.map_toArray, List.map_cons, List.map_nil]); first | done | rfl | (simp only [List.length_drop, List.length_take]; rfl)) ?_; (with_reducible refine (spec_l00In.calls a0 0 20 false _ A2.out).mono ?_); rintro e w' ⟨rfl, ⟨nd, rfl⟩⟩; refine ⟨_, rfl, ?_⟩))
    go_ret2
    exact ⟨by first | rfl | (simp [errW_none, errW_some] <;> rfl) | (simp [*, errW_none, errW_some] <;> rfl), by repeat (first | (with_reducible first | exact HB.out | apply below_alloc | apply pw_below_drewN | apply below_drew1) | exact HB.out)⟩

end Go.Proofs.Ythhmkkclmopkhaa.P
