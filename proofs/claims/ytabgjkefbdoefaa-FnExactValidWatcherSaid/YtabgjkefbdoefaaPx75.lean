/- Machine side of the laws of this seat: for each Go function that they reach, a Lean function and the proof that a call comes to just its answer. Written by a program of this session. -/
import Derived.Test.YtabgjkefbdoefaaPx0
import Derived.Test.YtabgjkefbdoefaaPx91
namespace Go.Proofs.Ytabgjkefbdoefaa.P
open Go.RowKit Go.Proofs.YtabgjkefbdoefaaW.PrintWords Go.Proofs.YtabgjkefbdoefaaW.PrintLast Go.Proofs.YtabgjkefbdoefaaW.PrintMore
attribute [local go_sem] max2_int min2_int max_two min_two max_three min_three max_four min_four   -- for this text's walks alone
set_option linter.unusedVariables false
set_option linter.unusedSimpArgs false

/-! ### impl_isTest: function 75 -/
def impl_isTest.f (a0 : ByteArray) : Option (Bool) := if (a0.size : Int) = 1 then ((strings_Contains.f (⟨#[40, 91, 97, 98, 42, 46]⟩ : ByteArray) a0).bind fun t186 => (some t186)) else (some false)
set_option maxHeartbeats 8000000 in
set_option maxRecDepth 100000 in
theorem impl_isTest.calls (a0 : ByteArray) (r : Bool) (w : World) (h : impl_isTest.f a0 = some r) :
    Calls Try.prog 75 #[.string a0] w fun e w' => e = .returned (.bool r) ∧ Drawn0 w w' := by
  have H : (if (a0.size : Int) = 1 then ((strings_Contains.f (⟨#[40, 91, 97, 98, 42, 46]⟩ : ByteArray) a0).bind fun t186 => (some t186)) else (some false)) = some r := h
  clear h
  by_cases c2 : (a0.size : Int) = 1
  · rw [if_pos c2] at H
    have c2b0 : ((a0.size : Int) == 1) = true := beq_iff_eq.mpr c2
    have c2b1 : ((a0.size : Int) != 1) = false := bne_eq_false_iff_eq.mpr c2
    clear c2
    replace H := Option.bind_eq_some_iff.mp H
    obtain ⟨t186, A30, H⟩ := H
    replace H : (some t186) = some r := H
    have A3 := Aside0.mk A30
    clear A30
    obtain rfl := Option.some.inj H
    go_enter Try.func75, Try.ntmps75
    go_wp2_with (first | (go_at_call 91; (with_reducible refine (strings_Contains.calls (⟨#[40, 91, 97, 98, 42, 46]⟩ : ByteArray) a0 t186 _ A3.out).mono ?_); rintro e w' ⟨rfl, ⟨nd, rfl⟩⟩))
    go_ret
    exact ⟨by first | rfl | (simp; done) | (simp [*]; done), by repeat (first | exact Drawn0.refl _ | apply Drawn0.step)⟩
  · rw [if_neg c2] at H
    have c2b0 : ((a0.size : Int) == 1) = false := beq_eq_false_iff_ne.mpr c2
    have c2b1 : ((a0.size : Int) != 1) = true := bne_iff_ne.mpr c2
    obtain rfl := Option.some.inj H
    go_enter Try.func75, Try.ntmps75
    go_wp2
    go_ret
    exact ⟨by first | rfl | (simp; done) | (simp [*]; done), by repeat (first | exact Drawn0.refl _ | apply Drawn0.step)⟩

end Go.Proofs.Ytabgjkefbdoefaa.P
