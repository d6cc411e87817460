/- Machine side of the laws of this seat: for each Go function that they reach, a Lean function and the proof that a call comes to just its answer. Written by a program of this session. -/
import Derived.Test.YtabgjkefbdoefaaPx0
namespace Go.Proofs.Ytabgjkefbdoefaa.P
open Go.RowKit Go.Proofs.YtabgjkefbdoefaaW.PrintWords Go.Proofs.YtabgjkefbdoefaaW.PrintLast Go.Proofs.YtabgjkefbdoefaaW.PrintMore
attribute [local go_sem] max2_int min2_int max_two min_two max_three min_three max_four min_four   -- for this text's walks alone
set_option linter.unusedVariables false
set_option linter.unusedSimpArgs false

/-! ### slices_Clone_LLint64_Lint64: function 49 -/
def slices_Clone_LLint64_Lint64.f (l0 : List (List Int)) : Option (List (List Int)) := if l0.length < 5864062014805 then some l0 else none
set_option maxHeartbeats 4000000 in
set_option maxRecDepth 100000 in
theorem slices_Clone_LLint64_Lint64.calls (P0_ : Nat → Prop) (A0 : Option Addr) (c0 : Nat) (l0 : List (List Int)) (r : List (List Int)) (w : World) (hs0 : Kd.V (Kd.slice 2 (Kd.int .i64)) 23 w w.heap.size (fun k_ => P0_ k_) (.slice A0 l0.length c0) l0) (h : slices_Clone_LLint64_Lint64.f l0 = some r) :
    Calls Try.prog 49 #[.slice A0 l0.length c0] w fun e w' => ∃ v0_ : Value, e = .returned (v0_) ∧ Kd.N (Kd.slice 2 (Kd.int .i64)) 23 w' w.heap.size (fun k_ => (P0_ k_ ∨ w.heap.size ≤ k_)) v0_ r ∧ Below w.heap.size w w' := by
  unfold slices_Clone_LLint64_Lint64.f at h
  by_cases c2 : l0.length < 5864062014805
  · rw [if_pos c2] at h
    obtain rfl := Option.some.inj h
    clear h
    have hu := Try.underlying22
    have hq : ∀ (w : World) (a : Option Addr) (n c n' c' : Nat), (binOp .eql 22 (.slice a n c) (.slice none n' c')).run Try.prog w = .ok (.bool a.isNone) w := fun w a n c n' c' => Lib.run_eql_slice_nil w _ _ a n c n' c' hu
    have HF := Aside0.mk (Kd.F_bound (Kd.V_at hs0).2.2)
    have LM := Aside0.mk c2
    clear hs0 c2
    rcases A0 with _ | ad
    · have h0 : l0 = [] := by
        by_cases h1 : 0 < l0.length
        · obtain ⟨ad, h, _⟩ := (Kd.F_now HF.out).2.2 h1
          cases h
        · exact List.length_eq_zero_iff.1 (by omega)
      go_enter Try.func49, Try.ntmps49
      go_wp2
      go_ret
      exact ⟨_, rfl, by rw [h0]; exact Kd.N_nil _ _ _ _ _, by repeat (first | exact Below.refl _ _ | apply below_alloc | apply pw_below_drewN | apply below_drew1)⟩
    · have HB := Aside0.mk (Below.refl w.heap.size w)
      go_enter Try.func49, Try.ntmps49
      go_wp2_with (first | ((with_reducible refine gate_dst (N := 5) rfl ?_); refine Kd.N_lit (w0 := w) (Kd.slice 2 (Kd.int .i64)) w.heap.size 23 ?hg (N' := 5) ?hd (xs := ([] : List (List Int))) (inner := []) (ok := fun k_ => (P0_ k_ ∨ w.heap.size ≤ k_)) (okp := fun _ => False) ?hr ?hp (fun _ hk => hk.elim) (.inr (Nat.le_refl _)) HB.out (Nat.le_refl _) (by simp) ?_; (case hd => rfl); (case hg => rfl); (case hr => first | (go_simp; done) | (go_simp; rfl)); (case hp => exact (Reps.none _ _)); intro v5 w5 ho5 hb5 hg_ hat5; have HF5 := Aside0.mk (Kd.F_grown HF.out hg_ (fun _ _ h_ => by cases h_)); have HE5 := Aside0.mk hat5; have HS5 := Aside0.mk hb5.size; clear HF hg_ hat5 HB; have HO5 := Aside0.mk ho5; have HB := Aside0.mk hb5; clear ho5 hb5; obtain ⟨Ao5, co5, eo5⟩ := Kd.N_slice HO5.out; subst eo5) | ((with_reducible refine gate_dst (N := 7) rfl ?_); refine Kd.N_append_rows (Kd.slice 2 (Kd.int .i64)) (w0 := w) w.heap.size rfl (.tmp 5) (.tmp 6) 22 23 (.slice none 0 0) 24 rfl Try.underlying22 info23 rfl (by decide) (by omega) _ ([] : List (List Int)) l0 _ _ _ (fun k_ => (P0_ k_ ∨ w.heap.size ≤ k_)) (fun k_ => P0_ k_ ∧ k_ < w.heap.size) rfl rfl ?aO ?aR ?aK ?aF ?aB ?aS ?aL ?_; (case aR => exact HF5.out); (case aB => exact HB.out); (case aK => exact (fun k hk => ⟨.inl hk.1, fun e_ => by obtain ⟨b, hb, hb2⟩ := HE5.out; have e3 := e_.trans hb; injection e3 with e3; have := hk.2; omega⟩)); (case aF => exact (fun k hk => .inr (Nat.le_trans HS5.out hk))); (case aO => exact HO5.out); (case aS => exact HS5.out); (case aL => have := LM.out; simp; omega); intro v7 w7 ho hb hg hat; have HO7 := Aside0.mk ho; have HB7 := Aside0.mk hb; clear HB HO5 ho hb hg hat; have HB := HB7; clear HB7; obtain ⟨Ao7, co7, eo7⟩ := Kd.N_slice HO7.out; subst eo7))
      go_ret
      exact ⟨_, rfl, HO7.out, HB.out⟩
  · rw [if_neg c2] at h
    cases h


end Go.Proofs.Ytabgjkefbdoefaa.P
