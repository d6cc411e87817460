/- Machine side of the laws of this seat: for each Go function that they reach, a Lean function and the proof that a call comes to just its answer. Written by a program of this session. -/
import Derived.Test.YtepkfigcnnfoaaaPx0
namespace Go.Proofs.Ytepkfigcnnfoaaa.P
open Go.RowKit Go.Proofs.YtepkfigcnnfoaaaW.PrintWords Go.Proofs.YtepkfigcnnfoaaaW.PrintLast Go.Proofs.YtepkfigcnnfoaaaW.PrintMore
attribute [local go_sem] max2_int min2_int max_two min_two max_three min_three max_four min_four   -- for this text's walks alone
set_option linter.unusedVariables false
set_option linter.unusedSimpArgs false

/-! ### impl_KindsChecker_3: function 32 -/
def impl_KindsChecker_3.f (a0 : Int) (a1 : Int) (a2 : Int) : Option (Int) := if a2 = (wrap64 (1 - a1)) then (some 1) else (some a0)
set_option maxHeartbeats 8000000 in
set_option maxRecDepth 100000 in
theorem impl_KindsChecker_3.calls (a0 : Int) (a1 : Int) (a2 : Int) (r : Int) (w : World) (h : impl_KindsChecker_3.f a0 a1 a2 = some r) :
    Calls Try.prog 32 #[.int .i64 a0, .int .i64 a1, .int .i64 a2] w fun e w' => e = .returned (.int .i64 r) ∧ Drawn0 w w' := by
  have H : (if a2 = (wrap64 (1 - a1)) then (some 1) else (some a0)) = some r := h
  clear h
  by_cases c4 : a2 = (wrap64 (1 - a1))
  · rw [if_pos c4] at H
    have c4b0 : (a2 == (wrap64 (1 - a1))) = true := beq_iff_eq.mpr c4
    have c4b1 : (a2 != (wrap64 (1 - a1))) = false := bne_eq_false_iff_eq.mpr c4
    clear c4
    obtain rfl := Option.some.inj H
    go_enter Try.func32, Try.ntmps32
    go_wp2
    go_ret
    exact ⟨by first | rfl | (simp; done) | (simp [*]; done), by repeat (first | exact Drawn0.refl _ | apply Drawn0.step)⟩
  · rw [if_neg c4] at H
    have c4b0 : (a2 == (wrap64 (1 - a1))) = false := beq_eq_false_iff_ne.mpr c4
    have c4b1 : (a2 != (wrap64 (1 - a1))) = true := bne_iff_ne.mpr c4
    obtain rfl := Option.some.inj H
    go_enter Try.func32, Try.ntmps32
    go_wp2
    go_ret
    exact ⟨by first | rfl | (simp; done) | (simp [*]; done), by repeat (first | exact Drawn0.refl _ | apply Drawn0.step)⟩

end Go.Proofs.Ytepkfigcnnfoaaa.P
