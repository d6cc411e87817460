/- Machine side of the laws of this seat: for each Go function that they reach, a Lean function and the proof that a call comes to just its answer. Written by a program of this session. -/
import Derived.Test.YthhmkkclmopkhaaPx0
import Derived.Test.YthhmkkclmopkhaaPx28
namespace Go.Proofs.Ythhmkkclmopkhaa.P
open Go.RowKit Go.Proofs.YthhmkkclmopkhaaW.PrintWords Go.Proofs.YthhmkkclmopkhaaW.PrintLast Go.Proofs.YthhmkkclmopkhaaW.PrintMore
attribute [local go_sem] max2_int min2_int max_two min_two max_three min_three max_four min_four   -- for this text's walks alone
set_option linter.unusedVariables false
set_option linter.unusedSimpArgs false

/-! ### impl_ways: function 29 -/
def waysF (n d : Int) : Option Int := if d < 0 then some 0 else if n < d then some 0 else if n + d ≤ 20 then some (tw n.toNat d.toNat) else none
set_option maxHeartbeats 4000000 in
set_option maxRecDepth 100000 in
theorem ways_calls (g : Nat) (n d r : Int) (w : World) (hb : w.heap[g]? = some (.cells (tc 21 0) 47 (0, 0))) (h : waysF n d = some r) :
    Calls Try.prog 29 #[.pointer (some ⟨g, 0, none⟩), .int .i64 n, .int .i64 d] w fun e w' => e = .returned (.int .i64 r) ∧ Drawn0 w w' := by
  have hu93 := und93
  have hu92 := und92
  unfold waysF at h
  have BK := Aside0.mk hb
  clear hb
  by_cases c1 : d < 0
  · rw [if_pos c1] at h
    obtain rfl := Option.some.inj h
    clear h
    have c1b : decide (d < 0) = true := decide_eq_true c1
    clear c1
    go_enter Try.func29, Try.ntmps29
    go_wp2
    go_ret
    exact ⟨rfl, by repeat (first | exact Drawn0.refl _ | apply Drawn0.step)⟩
  · rw [if_neg c1] at h
    have c1b : decide (d < 0) = false := decide_eq_false c1
    have C1 := Aside0.mk c1
    clear c1
    by_cases c2 : n < d
    · rw [if_pos c2] at h
      obtain rfl := Option.some.inj h
      clear h
      have c2b : decide (n < d) = true := decide_eq_true c2
      clear c2
      go_enter Try.func29, Try.ntmps29
      go_wp2
      go_ret
      exact ⟨rfl, by repeat (first | exact Drawn0.refl _ | apply Drawn0.step)⟩
    · rw [if_neg c2] at h
      have c2b : decide (n < d) = false := decide_eq_false c2
      have C2 := Aside0.mk c2
      clear c2
      by_cases c3 : n + d ≤ 20
      · rw [if_pos c3] at h
        obtain rfl := Option.some.inj h
        clear h
        obtain ⟨D, rfl⟩ := Int.eq_ofNat_of_zero_le (show 0 ≤ d by have := C1.out; omega)
        obtain ⟨N, rfl⟩ := Int.eq_ofNat_of_zero_le (show 0 ≤ n by have := C1.out; have := C2.out; omega)
        have c1c : decide ((D : Int) < 0) = false := c1b
        have q1 : ((N : Int) < 21) = True := eq_true (by omega)
        have q1' : (N < 21) = True := eq_true (by omega)
        have q2 : ((D : Int) < 22) = True := eq_true (by omega)
        have q2' : (D < 22) = True := eq_true (by omega)
        have c2c : decide (N < D) = false := decide_eq_false (by have := C2.out; omega)
        rw [Int.toNat_natCast, Int.toNat_natCast]
        obtain ⟨A, hA⟩ : ∃ A, A = tw N D := ⟨_, rfl⟩
        rw [← hA]
        have hx : w.cell? ⟨g, N * 22 + D, none⟩ = some (.int .i64 A) := by
          rw [hA]; exact (blk_cell BK.out _).trans ((tc_get 21 0 N D (by omega) (by omega)).trans (by rw [cell_all N D (by omega) (by omega)]))
        clear hA c3
        go_enter Try.func29, Try.ntmps29
        go_wp2
        repeat (go_quiet (fail); try go_wp2)
        go_ret
        exact ⟨rfl, by repeat (first | exact Drawn0.refl _ | apply Drawn0.step)⟩
      · rw [if_neg c3] at h
        cases h
def impl_ways.f (a0_0 : Bool) (a1 : Int) (a2 : Int) : Option Int := waysF a1 a2
theorem impl_ways.calls (g0_ : Nat) (a0_0 : Bool) (a1 : Int) (a2 : Int) (r : Int) (w : World) (hbk0_0 : w.heap[g0_]? = some (.cells (tc 21 0) 47 (0, 0))) (h : impl_ways.f a0_0 a1 a2 = some r) :
    Calls Try.prog 29 #[.pointer (some ⟨g0_, 0, none⟩), .int .i64 a1, .int .i64 a2] w fun e w' => e = .returned (.int .i64 r) ∧ Drawn0 w w' := ways_calls g0_ a1 a2 r w hbk0_0 h

end Go.Proofs.Ythhmkkclmopkhaa.P
