/- Texts that this law leans on, several in one; written by programs of these sessions (print, wip/deep, gather.py). -/
import Derived.Test.YtcoaplkoilhhbaaOa4
import Derived.Test.YtcoaplkoilhhbaaRows
import Derived.WalkKit
import Derived.ProofKit
import Derived.OpenShut
import Derived.ShutString
import Derived.ChangeOld
import Derived.Below
import Derived.SizedLaws
import Derived.Deep.Slices
import Derived.ChangeArms
import Derived.DataReads
namespace Go.Proofs.Ytcoaplkoilhhbaa.P
open Go.RowKit Go.Proofs.YtcoaplkoilhhbaaW.PrintWords Go.Proofs.YtcoaplkoilhhbaaW.PrintLast Go.Proofs.YtcoaplkoilhhbaaW.PrintMore
attribute [local go_sem] max2_int min2_int max_two min_two max_three min_three max_four min_four
set_option linter.unusedVariables false
set_option linter.unusedSimpArgs false
def laws_FnExactValidChoices.f (k : Nat) (a0_0 : Int) (l0_1 : List Int) (l0_2 : List Bool) (l0_3 : List (List (List (S88)))) (l0_4 : List (List (List (List Int)))) (l0_5 : List (List (List Int))) : Option (Bool) := (laws_szChoices.f k a0_0 l0_1 l0_2 l0_3 l0_4 l0_5 1048576).bind fun t305 => (if t305 < 0 then (some true) else ((laws_toChoices.f k a0_0 l0_1 l0_2 l0_3 l0_4 l0_5).bind fun bt306 => ((spec_ValidChoices.f k bt306.1 bt306.2.1 bt306.2.2.1 bt306.2.2.2.1 bt306.2.2.2.2.1 bt306.2.2.2.2.2).bind fun t322 => ((laws_toChoices.f k a0_0 l0_1 l0_2 l0_3 l0_4 l0_5).bind fun bt323 => ((impl_ValidChoices.f k bt323.1 bt323.2.1 bt323.2.2.1 bt323.2.2.2.1 bt323.2.2.2.2.1 bt323.2.2.2.2.2).bind fun t340 => (if (t340 != t322) = true then (some false) else ((laws_toChoices.f k a0_0 l0_1 l0_2 l0_3 l0_4 l0_5).bind fun bt341 => ((laws_eqChoices.f k bt323.1 bt323.2.1 bt323.2.2.1 bt323.2.2.2.1 bt323.2.2.2.2.1 bt323.2.2.2.2.2 bt341.1 bt341.2.1 bt341.2.2.1 bt341.2.2.2.1 bt341.2.2.2.2.1 bt341.2.2.2.2.2).bind fun t357 => (if t357 = true then (some true) else (some false))))))))))
set_option maxHeartbeats 8000000 in
set_option maxRecDepth 100000 in
theorem laws_FnExactValidChoices.calls (k : Nat) (a0_0 : Int) (A0_1 : Option Addr) (c0_1 : Nat) (l0_1 : List Int) (A0_2 : Option Addr) (c0_2 : Nat) (l0_2 : List Bool) (A0_3 : Option Addr) (c0_3 : Nat) (l0_3 : List (List (List (S88)))) (A0_4 : Option Addr) (c0_4 : Nat) (l0_4 : List (List (List (List Int)))) (A0_5 : Option Addr) (c0_5 : Nat) (l0_5 : List (List (List Int))) (r : Bool) (w : World) (hr0_1 : Kd.C (Kd.int .i64) w A0_1 l0_1.length l0_1) (hc0_1 : l0_1.length ≤ c0_1) (hr0_2 : Kd.C Kd.bool w A0_2 l0_2.length l0_2) (hc0_2 : l0_2.length ≤ c0_2) (hr0_3 : Kd.C (Kd.slice 82 (Kd.slice 88 k88)) w A0_3 l0_3.length l0_3) (hc0_3 : l0_3.length ≤ c0_3) (hr0_4 : Kd.C (Kd.slice 56 (Kd.slice 22 (Kd.slice 2 (Kd.int .i64)))) w A0_4 l0_4.length l0_4) (hc0_4 : l0_4.length ≤ c0_4) (hr0_5 : Kd.C (Kd.slice 22 (Kd.slice 2 (Kd.int .i64))) w A0_5 l0_5.length l0_5) (hc0_5 : l0_5.length ≤ c0_5) (h : laws_FnExactValidChoices.f k a0_0 l0_1 l0_2 l0_3 l0_4 l0_5 = some r) :
  Calls Try.prog 3 #[.agg #[.int .i64 a0_0, .slice A0_1 l0_1.length c0_1, .slice A0_2 l0_2.length c0_2, .slice A0_3 l0_3.length c0_3, .slice A0_4 l0_4.length c0_4, .slice A0_5 l0_5.length c0_5]] w fun e w' => e = .returned (.bool r) ∧ Below w.heap.size w w' := by
 have hu28 := Try.underlying28
 have hu33 := Try.underlying33
 have HR0_1 := AZ.mk hr0_1
 have HC0_1 := AZ.mk hc0_1
 clear hr0_1 hc0_1
 have HR0_2 := AZ.mk hr0_2
 have HC0_2 := AZ.mk hc0_2
 clear hr0_2 hc0_2
 have HR0_3 := AZ.mk hr0_3
 have HC0_3 := AZ.mk hc0_3
 clear hr0_3 hc0_3
 have HR0_4 := AZ.mk hr0_4
 have HC0_4 := AZ.mk hc0_4
 clear hr0_4 hc0_4
 have HR0_5 := AZ.mk hr0_5
 have HC0_5 := AZ.mk hc0_5
 clear hr0_5 hc0_5
 have HB := AZ.mk (Below.refl w.heap.size w)
 have H : ((laws_szChoices.f k a0_0 l0_1 l0_2 l0_3 l0_4 l0_5 1048576).bind fun t305 => (if t305 < 0 then (some true) else ((laws_toChoices.f k a0_0 l0_1 l0_2 l0_3 l0_4 l0_5).bind fun bt306 => ((spec_ValidChoices.f k bt306.1 bt306.2.1 bt306.2.2.1 bt306.2.2.2.1 bt306.2.2.2.2.1 bt306.2.2.2.2.2).bind fun t322 => ((laws_toChoices.f k a0_0 l0_1 l0_2 l0_3 l0_4 l0_5).bind fun bt323 => ((impl_ValidChoices.f k bt323.1 bt323.2.1 bt323.2.2.1 bt323.2.2.2.1 bt323.2.2.2.2.1 bt323.2.2.2.2.2).bind fun t340 => (if (t340 != t322) = true then (some false) else ((laws_toChoices.f k a0_0 l0_1 l0_2 l0_3 l0_4 l0_5).bind fun bt341 => ((laws_eqChoices.f k bt323.1 bt323.2.1 bt323.2.2.1 bt323.2.2.2.1 bt323.2.2.2.2.1 bt323.2.2.2.2.2 bt341.1 bt341.2.1 bt341.2.2.1 bt341.2.2.2.1 bt341.2.2.2.2.1 bt341.2.2.2.2.2).bind fun t357 => (if t357 = true then (some true) else (some false))))))))))) = some r := h
 clear h
 replace H := Option.bind_eq_some_iff.mp H
 obtain ⟨t305, A20, H⟩ := H
 replace H : (if t305 < 0 then (some true) else ((laws_toChoices.f k a0_0 l0_1 l0_2 l0_3 l0_4 l0_5).bind fun bt306 => ((spec_ValidChoices.f k bt306.1 bt306.2.1 bt306.2.2.1 bt306.2.2.2.1 bt306.2.2.2.2.1 bt306.2.2.2.2.2).bind fun t322 => ((laws_toChoices.f k a0_0 l0_1 l0_2 l0_3 l0_4 l0_5).bind fun bt323 => ((impl_ValidChoices.f k bt323.1 bt323.2.1 bt323.2.2.1 bt323.2.2.2.1 bt323.2.2.2.2.1 bt323.2.2.2.2.2).bind fun t340 => (if (t340 != t322) = true then (some false) else ((laws_toChoices.f k a0_0 l0_1 l0_2 l0_3 l0_4 l0_5).bind fun bt341 => ((laws_eqChoices.f k bt323.1 bt323.2.1 bt323.2.2.1 bt323.2.2.2.1 bt323.2.2.2.2.1 bt323.2.2.2.2.2 bt341.1 bt341.2.1 bt341.2.2.1 bt341.2.2.2.1 bt341.2.2.2.2.1 bt341.2.2.2.2.2).bind fun t357 => (if t357 = true then (some true) else (some false)))))))))) = some r := H
 have A2 := AZ.mk A20
 clear A20
 by_cases c3 : t305 < 0
 ·rw [if_pos c3] at H
  have c3b0 : decide (t305 < 0) = true := decide_eq_true c3
  clear c3
  obtain rfl := Option.some.inj H
  go_enter Try.func3, Try.ntmps3
  go_wp2_with (first | ((with_reducible refine gate_dst (N := 1) rfl ?_); refine box_event ?hg (N := 1) ?hd (cs := #[.int .i64 a0_0, .slice A0_1 l0_1.length c0_1, .slice A0_2 l0_2.length c0_2, .slice A0_3 l0_3.length c0_3, .slice A0_4 l0_4.length c0_4, .slice A0_5 l0_5.length c0_5]) (t := 28) ?hr ?_; (case hd => rfl); (case hg => rfl); (case hr => first | (go_simp; done) | (go_simp; rfl)); intro gb304 hg w4 hbox hb; have n0_ := AZ.mk (pT (by repeat (first | (with_reducible first | exact HB.out | apply pA | apply pN | apply pD) | exact HB.out)) hb); have n1_ := AZ.mk (hbox); have n2_ := AZ.mk ((by rw [hg]; exact (pZ (by repeat (first | (with_reducible first | exact HB.out | apply pA | apply pN | apply pD) | exact HB.out))) : w.heap.size ≤ gb304)); have n3_ := AZ.mk ((by rw [hg]; exact (pZ (by repeat (first | (with_reducible first | exact HB.out | apply pA | apply pN | apply pD) | exact HB.out))) : w.heap.size ≤ gb304)); clear HB; have HB := n0_; have BK304 := n1_; have GW304 := n2_; have GE304 := n3_; clear n0_ n1_ n2_ n3_; clear hb hbox hg; obtain ⟨hcz5_0, hcz5_1, hcz5_2, hcz5_3, hcz5_4, hcz5_5⟩ := c6 BK304.out; obtain ⟨hfz5_0, hfz5_1, hfz5_2, hfz5_3, hfz5_4, hfz5_5⟩ := f6 BK304.out) | ((with_reducible refine gate_callee (f := 4) rfl ?_); refine goesL_ (some 9) rfl rfl Try.func4 (by kernel_rfl) rfl #[.agg #[.int .i64 a0_0, .slice A0_1 l0_1.length c0_1, .slice A0_2 l0_2.length c0_2, .slice A0_3 l0_3.length c0_3, .slice A0_4 l0_4.length c0_4, .slice A0_5 l0_5.length c0_5], .int .i64 1048576] rfl (by (try simp only [List.map_toArray, List.map_cons, List.map_nil]); first | done | rfl | (simp only [List.length_drop, List.length_take]; rfl)) ?_; (with_reducible refine (laws_szChoices.calls k a0_0 _ _ l0_1 _ _ l0_2 _ _ l0_3 _ _ l0_4 _ _ l0_5 1048576 t305 _ ?side1 ?side2 ?side3 ?side4 ?side5 ?side6 ?side7 ?side8 ?side9 ?side10 A2.out).mono ?_); (case side1 => repeat (first | exact (Kd.C_below HR0_1.out HB.out) | (with_reducible refine Kd.C_alloc ?_ _) | (with_reducible refine Kd.C_drewN ?_ _) | (with_reducible refine Kd.C_drew ?_))); (case side2 => exact HC0_1.out); (case side3 => repeat (first | exact (Kd.C_below HR0_2.out HB.out) | (with_reducible refine Kd.C_alloc ?_ _) | (with_reducible refine Kd.C_drewN ?_ _) | (with_reducible refine Kd.C_drew ?_))); (case side4 => exact HC0_2.out); (case side5 => repeat (first | exact (Kd.C_below HR0_3.out HB.out) | (with_reducible refine Kd.C_alloc ?_ _) | (with_reducible refine Kd.C_drewN ?_ _) | (with_reducible refine Kd.C_drew ?_))); (case side6 => exact HC0_3.out); (case side7 => repeat (first | exact (Kd.C_below HR0_4.out HB.out) | (with_reducible refine Kd.C_alloc ?_ _) | (with_reducible refine Kd.C_drewN ?_ _) | (with_reducible refine Kd.C_drew ?_))); (case side8 => exact HC0_4.out); (case side9 => repeat (first | exact (Kd.C_below HR0_5.out HB.out) | (with_reducible refine Kd.C_alloc ?_ _) | (with_reducible refine Kd.C_drewN ?_ _) | (with_reducible refine Kd.C_drew ?_))); (case side10 => exact HC0_5.out); rintro e w6 ⟨rfl, hb⟩; refine ⟨_, rfl, ?_⟩; have n0_ := AZ.mk (bb_ (g := gb304) (o := .cells #[.int .i64 a0_0, .slice A0_1 l0_1.length c0_1, .slice A0_2 l0_2.length c0_2, .slice A0_3 l0_3.length c0_3, .slice A0_4 l0_4.length c0_4, .slice A0_5 l0_5.length c0_5] 28 (0, 0)) (by (with_reducible repeat (first | refine bn_ ?_ _ | refine bd_ ?_ | refine ba_ ?_ _)); exact BK304.out) hb); have n1_ := AZ.mk (pT (by repeat (first | (with_reducible first | exact HB.out | apply pA | apply pN | apply pD | refine pS ?_ GE304.out) | exact HB.out)) hb); clear BK304; clear HB; have BK304 := n0_; have HB := n1_; clear n0_ n1_; (try clear hb); (try clear hb2); (try clear hk); (try clear hi)))
  go_ret
  exact ⟨by first | rfl | (simp [errW_none, errW_some] <;> rfl) | (simp [*, errW_none, errW_some] <;> rfl), by repeat (first | (with_reducible first | exact HB.out | apply pA | apply pN | apply pD | refine pS ?_ GE304.out) | exact HB.out)⟩
 rw [if_neg c3] at H
 have c3b0 : decide (t305 < 0) = false := decide_eq_false c3
 clear c3
 replace H := Option.bind_eq_some_iff.mp H
 obtain ⟨⟨t306, t307, t310, t313, t316, t319⟩, A70, H⟩ := H
 replace H : ((spec_ValidChoices.f k t306 t307 t310 t313 t316 t319).bind fun t322 => ((laws_toChoices.f k a0_0 l0_1 l0_2 l0_3 l0_4 l0_5).bind fun bt323 => ((impl_ValidChoices.f k bt323.1 bt323.2.1 bt323.2.2.1 bt323.2.2.2.1 bt323.2.2.2.2.1 bt323.2.2.2.2.2).bind fun t340 => (if (t340 != t322) = true then (some false) else ((laws_toChoices.f k a0_0 l0_1 l0_2 l0_3 l0_4 l0_5).bind fun bt341 => ((laws_eqChoices.f k bt323.1 bt323.2.1 bt323.2.2.1 bt323.2.2.2.1 bt323.2.2.2.2.1 bt323.2.2.2.2.2 bt341.1 bt341.2.1 bt341.2.2.1 bt341.2.2.2.1 bt341.2.2.2.2.1 bt341.2.2.2.2.2).bind fun t357 => (if t357 = true then (some true) else (some false)))))))) = some r := H
 have A7 := AZ.mk A70
 clear A70
 replace H := Option.bind_eq_some_iff.mp H
 obtain ⟨t322, A80, H⟩ := H
 replace H : ((laws_toChoices.f k a0_0 l0_1 l0_2 l0_3 l0_4 l0_5).bind fun bt323 => ((impl_ValidChoices.f k bt323.1 bt323.2.1 bt323.2.2.1 bt323.2.2.2.1 bt323.2.2.2.2.1 bt323.2.2.2.2.2).bind fun t340 => (if (t340 != t322) = true then (some false) else ((laws_toChoices.f k a0_0 l0_1 l0_2 l0_3 l0_4 l0_5).bind fun bt341 => ((laws_eqChoices.f k bt323.1 bt323.2.1 bt323.2.2.1 bt323.2.2.2.1 bt323.2.2.2.2.1 bt323.2.2.2.2.2 bt341.1 bt341.2.1 bt341.2.2.1 bt341.2.2.2.1 bt341.2.2.2.2.1 bt341.2.2.2.2.2).bind fun t357 => (if t357 = true then (some true) else (some false))))))) = some r := H
 have A8 := AZ.mk A80
 clear A80
 replace H := Option.bind_eq_some_iff.mp H
 obtain ⟨⟨t323, t324, t327, t330, t333, t336⟩, A90, H⟩ := H
 replace H : ((impl_ValidChoices.f k t323 t324 t327 t330 t333 t336).bind fun t340 => (if (t340 != t322) = true then (some false) else ((laws_toChoices.f k a0_0 l0_1 l0_2 l0_3 l0_4 l0_5).bind fun bt341 => ((laws_eqChoices.f k t323 t324 t327 t330 t333 t336 bt341.1 bt341.2.1 bt341.2.2.1 bt341.2.2.2.1 bt341.2.2.2.2.1 bt341.2.2.2.2.2).bind fun t357 => (if t357 = true then (some true) else (some false)))))) = some r := H
 have A9 := AZ.mk A90
 clear A90
 replace H := Option.bind_eq_some_iff.mp H
 obtain ⟨t340, A100, H⟩ := H
 replace H : (if (t340 != t322) = true then (some false) else ((laws_toChoices.f k a0_0 l0_1 l0_2 l0_3 l0_4 l0_5).bind fun bt341 => ((laws_eqChoices.f k t323 t324 t327 t330 t333 t336 bt341.1 bt341.2.1 bt341.2.2.1 bt341.2.2.2.1 bt341.2.2.2.2.1 bt341.2.2.2.2.2).bind fun t357 => (if t357 = true then (some true) else (some false))))) = some r := H
 have A10 := AZ.mk A100
 clear A100
 by_cases c11 : (t340 != t322) = true
 ·rw [if_pos c11] at H
  have c11b0 : (t340 != t322) = true := c11
  (try (have c11b1 : decide (t340 = t322) = false := by simpa using c11))
  (try (have c11b2 : (t340 == t322) = false := by simpa using c11))
  (try (have c11b3 : ¬ (t340 = t322) := by simpa using c11))
  clear c11
  obtain rfl := Option.some.inj H
  go_enter Try.func3, Try.ntmps3
  go_wp2_with (first | ((with_reducible refine gate_dst (N := 1) rfl ?_); refine box_event ?hg (N := 1) ?hd (cs := #[.int .i64 a0_0, .slice A0_1 l0_1.length c0_1, .slice A0_2 l0_2.length c0_2, .slice A0_3 l0_3.length c0_3, .slice A0_4 l0_4.length c0_4, .slice A0_5 l0_5.length c0_5]) (t := 28) ?hr ?_; (case hd => rfl); (case hg => rfl); (case hr => first | (go_simp; done) | (go_simp; rfl)); intro gb304 hg w12 hbox hb; have n0_ := AZ.mk (pT (by repeat (first | (with_reducible first | exact HB.out | apply pA | apply pN | apply pD) | exact HB.out)) hb); have n1_ := AZ.mk (hbox); have n2_ := AZ.mk ((by rw [hg]; exact (pZ (by repeat (first | (with_reducible first | exact HB.out | apply pA | apply pN | apply pD) | exact HB.out))) : w.heap.size ≤ gb304)); have n3_ := AZ.mk ((by rw [hg]; exact (pZ (by repeat (first | (with_reducible first | exact HB.out | apply pA | apply pN | apply pD) | exact HB.out))) : w.heap.size ≤ gb304)); clear HB; have HB := n0_; have BK304 := n1_; have GW304 := n2_; have GE304 := n3_; clear n0_ n1_ n2_ n3_; clear hb hbox hg; obtain ⟨hcz13_0, hcz13_1, hcz13_2, hcz13_3, hcz13_4, hcz13_5⟩ := c6 BK304.out; obtain ⟨hfz13_0, hfz13_1, hfz13_2, hfz13_3, hfz13_4, hfz13_5⟩ := f6 BK304.out) | ((with_reducible refine gate_callee (f := 4) rfl ?_); refine goesL_ (some 9) rfl rfl Try.func4 (by kernel_rfl) rfl #[.agg #[.int .i64 a0_0, .slice A0_1 l0_1.length c0_1, .slice A0_2 l0_2.length c0_2, .slice A0_3 l0_3.length c0_3, .slice A0_4 l0_4.length c0_4, .slice A0_5 l0_5.length c0_5], .int .i64 1048576] rfl (by (try simp only [List.map_toArray, List.map_cons, List.map_nil]); first | done | rfl | (simp only [List.length_drop, List.length_take]; rfl)) ?_; (with_reducible refine (laws_szChoices.calls k a0_0 _ _ l0_1 _ _ l0_2 _ _ l0_3 _ _ l0_4 _ _ l0_5 1048576 t305 _ ?side1 ?side2 ?side3 ?side4 ?side5 ?side6 ?side7 ?side8 ?side9 ?side10 A2.out).mono ?_); (case side1 => repeat (first | exact (Kd.C_below HR0_1.out HB.out) | (with_reducible refine Kd.C_alloc ?_ _) | (with_reducible refine Kd.C_drewN ?_ _) | (with_reducible refine Kd.C_drew ?_))); (case side2 => exact HC0_1.out); (case side3 => repeat (first | exact (Kd.C_below HR0_2.out HB.out) | (with_reducible refine Kd.C_alloc ?_ _) | (with_reducible refine Kd.C_drewN ?_ _) | (with_reducible refine Kd.C_drew ?_))); (case side4 => exact HC0_2.out); (case side5 => repeat (first | exact (Kd.C_below HR0_3.out HB.out) | (with_reducible refine Kd.C_alloc ?_ _) | (with_reducible refine Kd.C_drewN ?_ _) | (with_reducible refine Kd.C_drew ?_))); (case side6 => exact HC0_3.out); (case side7 => repeat (first | exact (Kd.C_below HR0_4.out HB.out) | (with_reducible refine Kd.C_alloc ?_ _) | (with_reducible refine Kd.C_drewN ?_ _) | (with_reducible refine Kd.C_drew ?_))); (case side8 => exact HC0_4.out); (case side9 => repeat (first | exact (Kd.C_below HR0_5.out HB.out) | (with_reducible refine Kd.C_alloc ?_ _) | (with_reducible refine Kd.C_drewN ?_ _) | (with_reducible refine Kd.C_drew ?_))); (case side10 => exact HC0_5.out); rintro e w14 ⟨rfl, hb⟩; refine ⟨_, rfl, ?_⟩; have n0_ := AZ.mk (bb_ (g := gb304) (o := .cells #[.int .i64 a0_0, .slice A0_1 l0_1.length c0_1, .slice A0_2 l0_2.length c0_2, .slice A0_3 l0_3.length c0_3, .slice A0_4 l0_4.length c0_4, .slice A0_5 l0_5.length c0_5] 28 (0, 0)) (by (with_reducible repeat (first | refine bn_ ?_ _ | refine bd_ ?_ | refine ba_ ?_ _)); exact BK304.out) hb); have n1_ := AZ.mk (pT (by repeat (first | (with_reducible first | exact HB.out | apply pA | apply pN | apply pD | refine pS ?_ GE304.out) | exact HB.out)) hb); clear BK304; clear HB; have BK304 := n0_; have HB := n1_; clear n0_ n1_; (try clear hb); (try clear hb2); (try clear hk); (try clear hi); obtain ⟨hcz15_0, hcz15_1, hcz15_2, hcz15_3, hcz15_4, hcz15_5⟩ := c6 BK304.out; obtain ⟨hfz15_0, hfz15_1, hfz15_2, hfz15_3, hfz15_4, hfz15_5⟩ := f6 BK304.out) | ((with_reducible refine gate_callee (f := 6) rfl ?_); refine goesL_ (some 13) rfl rfl Try.func6 (by kernel_rfl) rfl #[.agg #[.int .i64 a0_0, .slice A0_1 l0_1.length c0_1, .slice A0_2 l0_2.length c0_2, .slice A0_3 l0_3.length c0_3, .slice A0_4 l0_4.length c0_4, .slice A0_5 l0_5.length c0_5]] rfl (by (try simp only [List.map_toArray, List.map_cons, List.map_nil]); first | done | rfl | (simp only [List.length_drop, List.length_take]; rfl)) ?_; (with_reducible refine (laws_toChoices.calls k a0_0 _ _ l0_1 _ _ l0_2 _ _ l0_3 _ _ l0_4 _ _ l0_5 t306 t307 t310 t313 t316 t319 _ ?side1 ?side2 ?side3 ?side4 ?side5 ?side6 ?side7 ?side8 ?side9 ?side10 A7.out).mono ?_); (case side1 => repeat (first | exact (Kd.C_below HR0_1.out HB.out) | (with_reducible refine Kd.C_alloc ?_ _) | (with_reducible refine Kd.C_drewN ?_ _) | (with_reducible refine Kd.C_drew ?_))); (case side2 => exact HC0_1.out); (case side3 => repeat (first | exact (Kd.C_below HR0_2.out HB.out) | (with_reducible refine Kd.C_alloc ?_ _) | (with_reducible refine Kd.C_drewN ?_ _) | (with_reducible refine Kd.C_drew ?_))); (case side4 => exact HC0_2.out); (case side5 => repeat (first | exact (Kd.C_below HR0_3.out HB.out) | (with_reducible refine Kd.C_alloc ?_ _) | (with_reducible refine Kd.C_drewN ?_ _) | (with_reducible refine Kd.C_drew ?_))); (case side6 => exact HC0_3.out); (case side7 => repeat (first | exact (Kd.C_below HR0_4.out HB.out) | (with_reducible refine Kd.C_alloc ?_ _) | (with_reducible refine Kd.C_drewN ?_ _) | (with_reducible refine Kd.C_drew ?_))); (case side8 => exact HC0_4.out); (case side9 => repeat (first | exact (Kd.C_below HR0_5.out HB.out) | (with_reducible refine Kd.C_alloc ?_ _) | (with_reducible refine Kd.C_drewN ?_ _) | (with_reducible refine Kd.C_drew ?_))); (case side10 => exact HC0_5.out); rintro e w16 ⟨v308, v311, v314, v317, v320, rfl, ho0, ho1, ho2, ho3, ho4, hb⟩; refine ⟨_, rfl, ?_⟩; have n0_ := AZ.mk (Kd.R_lower ho0 (pZ (by repeat (first | (with_reducible first | exact HB.out | apply pA | apply pN | apply pD | refine pS ?_ GE304.out) | exact HB.out)))); have n1_ := AZ.mk (Kd.R_lower ho1 (pZ (by repeat (first | (with_reducible first | exact HB.out | apply pA | apply pN | apply pD | refine pS ?_ GE304.out) | exact HB.out)))); have n2_ := AZ.mk (Kd.R_lower ho2 (pZ (by repeat (first | (with_reducible first | exact HB.out | apply pA | apply pN | apply pD | refine pS ?_ GE304.out) | exact HB.out)))); have n3_ := AZ.mk (Kd.R_lower ho3 (pZ (by repeat (first | (with_reducible first | exact HB.out | apply pA | apply pN | apply pD | refine pS ?_ GE304.out) | exact HB.out)))); have n4_ := AZ.mk (Kd.R_lower ho4 (pZ (by repeat (first | (with_reducible first | exact HB.out | apply pA | apply pN | apply pD | refine pS ?_ GE304.out) | exact HB.out)))); have n5_ := AZ.mk (bb_ (g := gb304) (o := .cells #[.int .i64 a0_0, .slice A0_1 l0_1.length c0_1, .slice A0_2 l0_2.length c0_2, .slice A0_3 l0_3.length c0_3, .slice A0_4 l0_4.length c0_4, .slice A0_5 l0_5.length c0_5] 28 (0, 0)) (by (with_reducible repeat (first | refine bn_ ?_ _ | refine bd_ ?_ | refine ba_ ?_ _)); exact BK304.out) hb); have n6_ := AZ.mk (pT (by repeat (first | (with_reducible first | exact HB.out | apply pA | apply pN | apply pD | refine pS ?_ GE304.out) | exact HB.out)) hb); clear BK304; clear HB; have HO309 := n0_; have HO312 := n1_; have HO315 := n2_; have HO318 := n3_; have HO321 := n4_; have BK304 := n5_; have HB := n6_; clear n0_ n1_ n2_ n3_ n4_ n5_ n6_; (try clear hb); (try clear hb2); (try clear hk); (try clear hi); (try clear ho0); (try clear ho1); (try clear ho2); (try clear ho3); (try clear ho4); obtain ⟨Ao17, co17, eo17⟩ := Kd.R_slice HO309.out; subst eo17; obtain ⟨Ao18, co18, eo18⟩ := Kd.R_slice HO312.out; subst eo18; obtain ⟨Ao19, co19, eo19⟩ := Kd.R_slice HO315.out; subst eo19; obtain ⟨Ao20, co20, eo20⟩ := Kd.R_slice HO318.out; subst eo20; obtain ⟨Ao21, co21, eo21⟩ := Kd.R_slice HO321.out; subst eo21) | ((with_reducible refine gate_callee (f := 5) rfl ?_); refine goesL_ (some 14) rfl rfl Try.func5 (by kernel_rfl) rfl #[.agg #[.int .i64 t306, .slice Ao17 t307.length co17, .slice Ao18 t310.length co18, .slice Ao19 t313.length co19, .slice Ao20 t316.length co20, .slice Ao21 t319.length co21]] rfl (by (try simp only [List.map_toArray, List.map_cons, List.map_nil]); first | done | rfl | (simp only [List.length_drop, List.length_take]; rfl)) ?_; (with_reducible refine (spec_ValidChoices.calls k t306 _ _ t307 _ _ t310 _ _ t313 _ _ t316 _ _ t319 t322 _ ?side1 ?side2 ?side3 ?side4 ?side5 ?side6 ?side7 ?side8 ?side9 ?side10 A8.out).mono ?_); (case side1 => repeat (first | exact (Kd.R_reads' HO309.out).2.2 | (with_reducible refine Kd.C_alloc ?_ _) | (with_reducible refine Kd.C_drewN ?_ _) | (with_reducible refine Kd.C_drew ?_))); (case side2 => exact (Kd.R_reads' HO309.out).2.1); (case side3 => repeat (first | exact (Kd.R_reads' HO312.out).2.2 | (with_reducible refine Kd.C_alloc ?_ _) | (with_reducible refine Kd.C_drewN ?_ _) | (with_reducible refine Kd.C_drew ?_))); (case side4 => exact (Kd.R_reads' HO312.out).2.1); (case side5 => repeat (first | exact (Kd.R_reads' HO315.out).2.2 | (with_reducible refine Kd.C_alloc ?_ _) | (with_reducible refine Kd.C_drewN ?_ _) | (with_reducible refine Kd.C_drew ?_))); (case side6 => exact (Kd.R_reads' HO315.out).2.1); (case side7 => repeat (first | exact (Kd.R_reads' HO318.out).2.2 | (with_reducible refine Kd.C_alloc ?_ _) | (with_reducible refine Kd.C_drewN ?_ _) | (with_reducible refine Kd.C_drew ?_))); (case side8 => exact (Kd.R_reads' HO318.out).2.1); (case side9 => repeat (first | exact (Kd.R_reads' HO321.out).2.2 | (with_reducible refine Kd.C_alloc ?_ _) | (with_reducible refine Kd.C_drewN ?_ _) | (with_reducible refine Kd.C_drew ?_))); (case side10 => exact (Kd.R_reads' HO321.out).2.1); rintro e w22 ⟨rfl, hb⟩; refine ⟨_, rfl, ?_⟩; have n0_ := AZ.mk (Kd.R_below (by (with_reducible repeat (first | apply Kd.R_alloc | apply Kd.R_drewN | apply Kd.R_drew)); exact HO309.out) hb); have n1_ := AZ.mk (Kd.R_below (by (with_reducible repeat (first | apply Kd.R_alloc | apply Kd.R_drewN | apply Kd.R_drew)); exact HO312.out) hb); have n2_ := AZ.mk (Kd.R_below (by (with_reducible repeat (first | apply Kd.R_alloc | apply Kd.R_drewN | apply Kd.R_drew)); exact HO315.out) hb); have n3_ := AZ.mk (Kd.R_below (by (with_reducible repeat (first | apply Kd.R_alloc | apply Kd.R_drewN | apply Kd.R_drew)); exact HO318.out) hb); have n4_ := AZ.mk (Kd.R_below (by (with_reducible repeat (first | apply Kd.R_alloc | apply Kd.R_drewN | apply Kd.R_drew)); exact HO321.out) hb); have n5_ := AZ.mk (bb_ (g := gb304) (o := .cells #[.int .i64 a0_0, .slice A0_1 l0_1.length c0_1, .slice A0_2 l0_2.length c0_2, .slice A0_3 l0_3.length c0_3, .slice A0_4 l0_4.length c0_4, .slice A0_5 l0_5.length c0_5] 28 (0, 0)) (by (with_reducible repeat (first | refine bn_ ?_ _ | refine bd_ ?_ | refine ba_ ?_ _)); exact BK304.out) hb); have n6_ := AZ.mk (pT (by repeat (first | (with_reducible first | exact HB.out | apply pA | apply pN | apply pD | refine pS ?_ GE304.out) | exact HB.out)) hb); clear HO309; clear HO312; clear HO315; clear HO318; clear HO321; clear BK304; clear HB; have HO309 := n0_; have HO312 := n1_; have HO315 := n2_; have HO318 := n3_; have HO321 := n4_; have BK304 := n5_; have HB := n6_; clear n0_ n1_ n2_ n3_ n4_ n5_ n6_; (try clear hb); (try clear hb2); (try clear hk); (try clear hi); obtain ⟨hcz23_0, hcz23_1, hcz23_2, hcz23_3, hcz23_4, hcz23_5⟩ := c6 BK304.out; obtain ⟨hfz23_0, hfz23_1, hfz23_2, hfz23_3, hfz23_4, hfz23_5⟩ := f6 BK304.out) | ((with_reducible refine gate_callee (f := 6) rfl ?_); refine goesL_ (some 16) rfl rfl Try.func6 (by kernel_rfl) rfl #[.agg #[.int .i64 a0_0, .slice A0_1 l0_1.length c0_1, .slice A0_2 l0_2.length c0_2, .slice A0_3 l0_3.length c0_3, .slice A0_4 l0_4.length c0_4, .slice A0_5 l0_5.length c0_5]] rfl (by (try simp only [List.map_toArray, List.map_cons, List.map_nil]); first | done | rfl | (simp only [List.length_drop, List.length_take]; rfl)) ?_; (with_reducible refine (laws_toChoices.calls k a0_0 _ _ l0_1 _ _ l0_2 _ _ l0_3 _ _ l0_4 _ _ l0_5 t323 t324 t327 t330 t333 t336 _ ?side1 ?side2 ?side3 ?side4 ?side5 ?side6 ?side7 ?side8 ?side9 ?side10 A9.out).mono ?_); (case side1 => repeat (first | exact (Kd.C_below HR0_1.out HB.out) | (with_reducible refine Kd.C_alloc ?_ _) | (with_reducible refine Kd.C_drewN ?_ _) | (with_reducible refine Kd.C_drew ?_))); (case side2 => exact HC0_1.out); (case side3 => repeat (first | exact (Kd.C_below HR0_2.out HB.out) | (with_reducible refine Kd.C_alloc ?_ _) | (with_reducible refine Kd.C_drewN ?_ _) | (with_reducible refine Kd.C_drew ?_))); (case side4 => exact HC0_2.out); (case side5 => repeat (first | exact (Kd.C_below HR0_3.out HB.out) | (with_reducible refine Kd.C_alloc ?_ _) | (with_reducible refine Kd.C_drewN ?_ _) | (with_reducible refine Kd.C_drew ?_))); (case side6 => exact HC0_3.out); (case side7 => repeat (first | exact (Kd.C_below HR0_4.out HB.out) | (with_reducible refine Kd.C_alloc ?_ _) | (with_reducible refine Kd.C_drewN ?_ _) | (with_reducible refine Kd.C_drew ?_))); (case side8 => exact HC0_4.out); (case side9 => repeat (first | exact (Kd.C_below HR0_5.out HB.out) | (with_reducible refine Kd.C_alloc ?_ _) | (with_reducible refine Kd.C_drewN ?_ _) | (with_reducible refine Kd.C_drew ?_))); (case side10 => exact HC0_5.out); rintro e w24 ⟨v325, v328, v331, v334, v337, rfl, ho0, ho1, ho2, ho3, ho4, hb⟩; refine ⟨_, rfl, ?_⟩; have n0_ := AZ.mk (Kd.R_elder' (by (with_reducible repeat (first | apply Kd.R_alloc | apply Kd.R_drewN | apply Kd.R_drew)); exact HO309.out) (Kd.R_base ho0) hb); have n1_ := AZ.mk (Kd.R_elder' (by (with_reducible repeat (first | apply Kd.R_alloc | apply Kd.R_drewN | apply Kd.R_drew)); exact HO312.out) (Kd.R_base ho1) hb); have n2_ := AZ.mk (Kd.R_elder' (by (with_reducible repeat (first | apply Kd.R_alloc | apply Kd.R_drewN | apply Kd.R_drew)); exact HO315.out) (Kd.R_base ho2) hb); have n3_ := AZ.mk (Kd.R_mono (Kd.R_told (Kd.R_told (Kd.R_told (Kd.R_old (by (with_reducible repeat (first | apply Kd.R_alloc | apply Kd.R_drewN | apply Kd.R_drew)); exact HO318.out) hb) (Kd.R_base ho0)) (Kd.R_base ho3)) (Kd.R_base ho4)) (fun _ h_ => h_.1)); have n4_ := AZ.mk (Kd.R_mono (Kd.R_told (Kd.R_told (Kd.R_old (by (with_reducible repeat (first | apply Kd.R_alloc | apply Kd.R_drewN | apply Kd.R_drew)); exact HO321.out) hb) (Kd.R_base ho0)) (Kd.R_base ho4)) (fun _ h_ => h_.1)); have n5_ := AZ.mk (Kd.R_lower (Kd.R_new' ho0 (Kd.R_lt (by (with_reducible repeat (first | apply Kd.R_alloc | apply Kd.R_drewN | apply Kd.R_drew)); exact HO309.out))) (pZ (by repeat (first | (with_reducible first | exact HB.out | apply pA | apply pN | apply pD | refine pS ?_ GE304.out) | exact HB.out)))); have n6_ := AZ.mk (Kd.R_lower (Kd.R_new' ho1 (Kd.R_lt (by (with_reducible repeat (first | apply Kd.R_alloc | apply Kd.R_drewN | apply Kd.R_drew)); exact HO312.out))) (pZ (by repeat (first | (with_reducible first | exact HB.out | apply pA | apply pN | apply pD | refine pS ?_ GE304.out) | exact HB.out)))); have n7_ := AZ.mk (Kd.R_lower (Kd.R_new' ho2 (Kd.R_lt (by (with_reducible repeat (first | apply Kd.R_alloc | apply Kd.R_drewN | apply Kd.R_drew)); exact HO315.out))) (pZ (by repeat (first | (with_reducible first | exact HB.out | apply pA | apply pN | apply pD | refine pS ?_ GE304.out) | exact HB.out)))); have n8_ := AZ.mk (Kd.R_lower (Kd.R_new' (Kd.R_new' (Kd.R_new' ho3 (Kd.R_lt (by (with_reducible repeat (first | apply Kd.R_alloc | apply Kd.R_drewN | apply Kd.R_drew)); exact HO309.out))) (Kd.R_lt (by (with_reducible repeat (first | apply Kd.R_alloc | apply Kd.R_drewN | apply Kd.R_drew)); exact HO318.out))) (Kd.R_lt (by (with_reducible repeat (first | apply Kd.R_alloc | apply Kd.R_drewN | apply Kd.R_drew)); exact HO321.out))) (pZ (by repeat (first | (with_reducible first | exact HB.out | apply pA | apply pN | apply pD | refine pS ?_ GE304.out) | exact HB.out)))); have n9_ := AZ.mk (Kd.R_lower (Kd.R_new' (Kd.R_new' ho4 (Kd.R_lt (by (with_reducible repeat (first | apply Kd.R_alloc | apply Kd.R_drewN | apply Kd.R_drew)); exact HO309.out))) (Kd.R_lt (by (with_reducible repeat (first | apply Kd.R_alloc | apply Kd.R_drewN | apply Kd.R_drew)); exact HO321.out))) (pZ (by repeat (first | (with_reducible first | exact HB.out | apply pA | apply pN | apply pD | refine pS ?_ GE304.out) | exact HB.out)))); have n10_ := AZ.mk (bb_ (g := gb304) (o := .cells #[.int .i64 a0_0, .slice A0_1 l0_1.length c0_1, .slice A0_2 l0_2.length c0_2, .slice A0_3 l0_3.length c0_3, .slice A0_4 l0_4.length c0_4, .slice A0_5 l0_5.length c0_5] 28 (0, 0)) (by (with_reducible repeat (first | refine bn_ ?_ _ | refine bd_ ?_ | refine ba_ ?_ _)); exact BK304.out) hb); have n11_ := AZ.mk (pT (by repeat (first | (with_reducible first | exact HB.out | apply pA | apply pN | apply pD | refine pS ?_ GE304.out) | exact HB.out)) hb); clear HO309; clear HO312; clear HO315; clear HO318; clear HO321; clear BK304; clear HB; have HO309 := n0_; have HO312 := n1_; have HO315 := n2_; have HO318 := n3_; have HO321 := n4_; have HO326 := n5_; have HO329 := n6_; have HO332 := n7_; have HO335 := n8_; have HO338 := n9_; have BK304 := n10_; have HB := n11_; clear n0_ n1_ n2_ n3_ n4_ n5_ n6_ n7_ n8_ n9_ n10_ n11_; (try clear hb); (try clear hb2); (try clear hk); (try clear hi); (try clear ho0); (try clear ho1); (try clear ho2); (try clear ho3); (try clear ho4)) | ((with_reducible refine gate_dst (N := 5) rfl ?_); refine box_event ?hg (N := 5) ?hd (cs := #[.int .i64 0, .slice none 0 0, .slice none 0 0, .slice none 0 0, .slice none 0 0, .slice none 0 0]) (t := 33) ?hr ?_; (case hd => rfl); (case hg => rfl); (case hr => first | (go_simp; done) | (go_simp; rfl)); intro gb339 hg w25 hbox hb; have n0_ := AZ.mk (Kd.R_below (by (with_reducible repeat (first | apply Kd.R_alloc | apply Kd.R_drewN | apply Kd.R_drew)); exact HO309.out) hb); have n1_ := AZ.mk (Kd.R_below (by (with_reducible repeat (first | apply Kd.R_alloc | apply Kd.R_drewN | apply Kd.R_drew)); exact HO312.out) hb); have n2_ := AZ.mk (Kd.R_below (by (with_reducible repeat (first | apply Kd.R_alloc | apply Kd.R_drewN | apply Kd.R_drew)); exact HO315.out) hb); have n3_ := AZ.mk (Kd.R_below (by (with_reducible repeat (first | apply Kd.R_alloc | apply Kd.R_drewN | apply Kd.R_drew)); exact HO318.out) hb); have n4_ := AZ.mk (Kd.R_below (by (with_reducible repeat (first | apply Kd.R_alloc | apply Kd.R_drewN | apply Kd.R_drew)); exact HO321.out) hb); have n5_ := AZ.mk (Kd.R_below (by (with_reducible repeat (first | apply Kd.R_alloc | apply Kd.R_drewN | apply Kd.R_drew)); exact HO326.out) hb); have n6_ := AZ.mk (Kd.R_below (by (with_reducible repeat (first | apply Kd.R_alloc | apply Kd.R_drewN | apply Kd.R_drew)); exact HO329.out) hb); have n7_ := AZ.mk (Kd.R_below (by (with_reducible repeat (first | apply Kd.R_alloc | apply Kd.R_drewN | apply Kd.R_drew)); exact HO332.out) hb); have n8_ := AZ.mk (Kd.R_below (by (with_reducible repeat (first | apply Kd.R_alloc | apply Kd.R_drewN | apply Kd.R_drew)); exact HO335.out) hb); have n9_ := AZ.mk (Kd.R_below (by (with_reducible repeat (first | apply Kd.R_alloc | apply Kd.R_drewN | apply Kd.R_drew)); exact HO338.out) hb); have n10_ := AZ.mk (bb_ (g := gb304) (o := .cells #[.int .i64 a0_0, .slice A0_1 l0_1.length c0_1, .slice A0_2 l0_2.length c0_2, .slice A0_3 l0_3.length c0_3, .slice A0_4 l0_4.length c0_4, .slice A0_5 l0_5.length c0_5] 28 (0, 0)) (by (with_reducible repeat (first | refine bn_ ?_ _ | refine bd_ ?_ | refine ba_ ?_ _)); exact BK304.out) hb); have n11_ := AZ.mk (pT (by repeat (first | (with_reducible first | exact HB.out | apply pA | apply pN | apply pD | refine pS ?_ GE304.out) | exact HB.out)) hb); have n12_ := AZ.mk (hbox); have n13_ := AZ.mk ((by rw [hg]; exact (pZ (by repeat (first | (with_reducible first | exact HB.out | apply pA | apply pN | apply pD | refine pS ?_ GE304.out) | exact HB.out))) : w.heap.size ≤ gb339)); have n14_ := AZ.mk ((by rw [hg]; exact (pZ (by repeat (first | (with_reducible first | exact HB.out | apply pA | apply pN | apply pD | refine pS ?_ GE304.out) | exact HB.out))) : w.heap.size ≤ gb339)); have n15_ := AZ.mk ((by rw [hg]; exact Nat.ne_of_lt (blk_lt (g := gb304) (o := .cells #[.int .i64 a0_0, .slice A0_1 l0_1.length c0_1, .slice A0_2 l0_2.length c0_2, .slice A0_3 l0_3.length c0_3, .slice A0_4 l0_4.length c0_4, .slice A0_5 l0_5.length c0_5] 28 (0, 0)) (by (with_reducible repeat (first | refine bn_ ?_ _ | refine bd_ ?_ | refine ba_ ?_ _)); exact BK304.out)) : gb304 ≠ gb339)); have n16_ := AZ.mk ((by rw [hg]; exact Nat.ne_of_gt (blk_lt (g := gb304) (o := .cells #[.int .i64 a0_0, .slice A0_1 l0_1.length c0_1, .slice A0_2 l0_2.length c0_2, .slice A0_3 l0_3.length c0_3, .slice A0_4 l0_4.length c0_4, .slice A0_5 l0_5.length c0_5] 28 (0, 0)) (by (with_reducible repeat (first | refine bn_ ?_ _ | refine bd_ ?_ | refine ba_ ?_ _)); exact BK304.out)) : gb339 ≠ gb304)); clear HO309; clear HO312; clear HO315; clear HO318; clear HO321; clear HO326; clear HO329; clear HO332; clear HO335; clear HO338; clear BK304; clear HB; have HO309 := n0_; have HO312 := n1_; have HO315 := n2_; have HO318 := n3_; have HO321 := n4_; have HO326 := n5_; have HO329 := n6_; have HO332 := n7_; have HO335 := n8_; have HO338 := n9_; have BK304 := n10_; have HB := n11_; have BK339 := n12_; have GW339 := n13_; have GE339 := n14_; have NB304_339 := n15_; have NB339_304 := n16_; clear n0_ n1_ n2_ n3_ n4_ n5_ n6_ n7_ n8_ n9_ n10_ n11_ n12_ n13_ n14_ n15_ n16_; clear hb hbox hg; have hnb26 := NB339_304.out; have hnc26 := NB304_339.out; obtain ⟨hcz27_0, hcz27_1, hcz27_2, hcz27_3, hcz27_4, hcz27_5⟩ := c6 BK339.out; obtain ⟨hfz27_0, hfz27_1, hfz27_2, hfz27_3, hfz27_4, hfz27_5⟩ := f6 BK339.out; obtain ⟨Ao28, co28, eo28⟩ := Kd.R_slice HO326.out; subst eo28; obtain ⟨Ao29, co29, eo29⟩ := Kd.R_slice HO329.out; subst eo29; obtain ⟨Ao30, co30, eo30⟩ := Kd.R_slice HO332.out; subst eo30; obtain ⟨Ao31, co31, eo31⟩ := Kd.R_slice HO335.out; subst eo31; obtain ⟨Ao32, co32, eo32⟩ := Kd.R_slice HO338.out; subst eo32) | ((with_reducible refine gate_callee (f := 7) rfl ?_); refine goesL_ (some 18) rfl rfl Try.func7 (by kernel_rfl) rfl #[.agg #[.int .i64 t323, .slice Ao28 t324.length co28, .slice Ao29 t327.length co29, .slice Ao30 t330.length co30, .slice Ao31 t333.length co31, .slice Ao32 t336.length co32]] rfl (by (try simp only [List.map_toArray, List.map_cons, List.map_nil]); first | done | rfl | (simp only [List.length_drop, List.length_take]; rfl)) ?_; (with_reducible refine (impl_ValidChoices.calls k t323 _ _ t324 _ _ t327 _ _ t330 _ _ t333 _ _ t336 t340 _ ?side1 ?side2 ?side3 ?side4 ?side5 ?side6 ?side7 ?side8 ?side9 ?side10 A10.out).mono ?_); (case side1 => refine (Kd.R_reads' (e := 2) (base := w.heap.size) (ok := fun k_ => (True ∧ some k_ ≠ (.slice Ao17 t307.length co17 : Value).ownBlock)) (n := t324.length) (c := co28) ?_).2.2; exact (by (with_reducible repeat (first | apply Kd.R_alloc | apply Kd.R_drewN | apply Kd.R_drew)); exact (Kd.R_mono (Kd.R_far (p := ⟨gb339, 5, none⟩) (Kd.R_far (p := ⟨gb339, 4, none⟩) (Kd.R_far (p := ⟨gb339, 3, none⟩) (Kd.R_far (p := ⟨gb339, 2, none⟩) (Kd.R_far (p := ⟨gb339, 1, none⟩) (Kd.R_far (p := ⟨gb339, 0, none⟩) (Kd.R_types HO326.out BK339.out (by decide)) (fun _ hk => hk.2) (.int .i64 t323)) (fun _ hk => hk.2) (.slice Ao28 t324.length co28)) (fun _ hk => hk.2) (.slice Ao29 t327.length co29)) (fun _ hk => hk.2) (.slice Ao30 t330.length co30)) (fun _ hk => hk.2) (.slice Ao31 t333.length co31)) (fun _ hk => hk.2) (.slice Ao32 t336.length co32)) (fun _ h_ => h_.1)))); (case side2 => exact (Kd.R_reads' HO326.out).2.1); (case side3 => refine (Kd.R_reads' (e := 4) (base := w.heap.size) (ok := fun k_ => (True ∧ some k_ ≠ (.slice Ao18 t310.length co18 : Value).ownBlock)) (n := t327.length) (c := co29) ?_).2.2; exact (by (with_reducible repeat (first | apply Kd.R_alloc | apply Kd.R_drewN | apply Kd.R_drew)); exact (Kd.R_mono (Kd.R_far (p := ⟨gb339, 5, none⟩) (Kd.R_far (p := ⟨gb339, 4, none⟩) (Kd.R_far (p := ⟨gb339, 3, none⟩) (Kd.R_far (p := ⟨gb339, 2, none⟩) (Kd.R_far (p := ⟨gb339, 1, none⟩) (Kd.R_far (p := ⟨gb339, 0, none⟩) (Kd.R_types HO329.out BK339.out (by decide)) (fun _ hk => hk.2) (.int .i64 t323)) (fun _ hk => hk.2) (.slice Ao28 t324.length co28)) (fun _ hk => hk.2) (.slice Ao29 t327.length co29)) (fun _ hk => hk.2) (.slice Ao30 t330.length co30)) (fun _ hk => hk.2) (.slice Ao31 t333.length co31)) (fun _ hk => hk.2) (.slice Ao32 t336.length co32)) (fun _ h_ => h_.1)))); (case side4 => exact (Kd.R_reads' HO329.out).2.1); (case side5 => refine (Kd.R_reads' (e := 53) (base := w.heap.size) (ok := fun k_ => (True ∧ some k_ ≠ (.slice Ao19 t313.length co19 : Value).ownBlock)) (n := t330.length) (c := co30) ?_).2.2; exact (by (with_reducible repeat (first | apply Kd.R_alloc | apply Kd.R_drewN | apply Kd.R_drew)); exact (Kd.R_mono (Kd.R_far (p := ⟨gb339, 5, none⟩) (Kd.R_far (p := ⟨gb339, 4, none⟩) (Kd.R_far (p := ⟨gb339, 3, none⟩) (Kd.R_far (p := ⟨gb339, 2, none⟩) (Kd.R_far (p := ⟨gb339, 1, none⟩) (Kd.R_far (p := ⟨gb339, 0, none⟩) (Kd.R_types HO332.out BK339.out (by decide)) (fun _ hk => hk.2) (.int .i64 t323)) (fun _ hk => hk.2) (.slice Ao28 t324.length co28)) (fun _ hk => hk.2) (.slice Ao29 t327.length co29)) (fun _ hk => hk.2) (.slice Ao30 t330.length co30)) (fun _ hk => hk.2) (.slice Ao31 t333.length co31)) (fun _ hk => hk.2) (.slice Ao32 t336.length co32)) (fun _ h_ => h_.1)))); (case side6 => exact (Kd.R_reads' HO332.out).2.1); (case side7 => refine (Kd.R_reads' (e := 26) (base := w.heap.size) (ok := fun k_ => ((((some k_ ≠ (.slice Ao28 t324.length co28 : Value).ownBlock ∧ some k_ ≠ (.slice Ao32 t336.length co32 : Value).ownBlock) ∧ some k_ ≠ (.slice Ao17 t307.length co17 : Value).ownBlock) ∧ some k_ ≠ (.slice Ao20 t316.length co20 : Value).ownBlock) ∧ some k_ ≠ (.slice Ao21 t319.length co21 : Value).ownBlock)) (n := t333.length) (c := co31) ?_).2.2; exact (by (with_reducible repeat (first | apply Kd.R_alloc | apply Kd.R_drewN | apply Kd.R_drew)); exact (Kd.R_mono (Kd.R_far (p := ⟨gb339, 5, none⟩) (Kd.R_far (p := ⟨gb339, 4, none⟩) (Kd.R_far (p := ⟨gb339, 3, none⟩) (Kd.R_far (p := ⟨gb339, 2, none⟩) (Kd.R_far (p := ⟨gb339, 1, none⟩) (Kd.R_far (p := ⟨gb339, 0, none⟩) (Kd.R_types HO335.out BK339.out (by decide)) (fun _ hk => hk.2) (.int .i64 t323)) (fun _ hk => hk.2) (.slice Ao28 t324.length co28)) (fun _ hk => hk.2) (.slice Ao29 t327.length co29)) (fun _ hk => hk.2) (.slice Ao30 t330.length co30)) (fun _ hk => hk.2) (.slice Ao31 t333.length co31)) (fun _ hk => hk.2) (.slice Ao32 t336.length co32)) (fun _ h_ => h_.1)))); (case side8 => exact (Kd.R_reads' HO335.out).2.1); (case side9 => refine (Kd.R_reads' (e := 56) (base := w.heap.size) (ok := fun k_ => ((some k_ ≠ (.slice Ao28 t324.length co28 : Value).ownBlock ∧ some k_ ≠ (.slice Ao17 t307.length co17 : Value).ownBlock) ∧ some k_ ≠ (.slice Ao21 t319.length co21 : Value).ownBlock)) (n := t336.length) (c := co32) ?_).2.2; exact (by (with_reducible repeat (first | apply Kd.R_alloc | apply Kd.R_drewN | apply Kd.R_drew)); exact (Kd.R_mono (Kd.R_far (p := ⟨gb339, 5, none⟩) (Kd.R_far (p := ⟨gb339, 4, none⟩) (Kd.R_far (p := ⟨gb339, 3, none⟩) (Kd.R_far (p := ⟨gb339, 2, none⟩) (Kd.R_far (p := ⟨gb339, 1, none⟩) (Kd.R_far (p := ⟨gb339, 0, none⟩) (Kd.R_types HO338.out BK339.out (by decide)) (fun _ hk => hk.2) (.int .i64 t323)) (fun _ hk => hk.2) (.slice Ao28 t324.length co28)) (fun _ hk => hk.2) (.slice Ao29 t327.length co29)) (fun _ hk => hk.2) (.slice Ao30 t330.length co30)) (fun _ hk => hk.2) (.slice Ao31 t333.length co31)) (fun _ hk => hk.2) (.slice Ao32 t336.length co32)) (fun _ h_ => h_.1)))); (case side10 => exact (Kd.R_reads' HO338.out).2.1); rintro e w33 ⟨rfl, hb⟩; refine ⟨_, rfl, ?_⟩; have n0_ := AZ.mk (Kd.R_below (by (with_reducible repeat (first | apply Kd.R_alloc | apply Kd.R_drewN | apply Kd.R_drew)); exact (Kd.R_mono (Kd.R_far (p := ⟨gb339, 5, none⟩) (Kd.R_far (p := ⟨gb339, 4, none⟩) (Kd.R_far (p := ⟨gb339, 3, none⟩) (Kd.R_far (p := ⟨gb339, 2, none⟩) (Kd.R_far (p := ⟨gb339, 1, none⟩) (Kd.R_far (p := ⟨gb339, 0, none⟩) (Kd.R_types HO309.out BK339.out (by decide)) (fun _ hk => hk.2) (.int .i64 t323)) (fun _ hk => hk.2) (.slice Ao28 t324.length co28)) (fun _ hk => hk.2) (.slice Ao29 t327.length co29)) (fun _ hk => hk.2) (.slice Ao30 t330.length co30)) (fun _ hk => hk.2) (.slice Ao31 t333.length co31)) (fun _ hk => hk.2) (.slice Ao32 t336.length co32)) (fun _ h_ => h_.1))) hb); have n1_ := AZ.mk (Kd.R_below (by (with_reducible repeat (first | apply Kd.R_alloc | apply Kd.R_drewN | apply Kd.R_drew)); exact (Kd.R_mono (Kd.R_far (p := ⟨gb339, 5, none⟩) (Kd.R_far (p := ⟨gb339, 4, none⟩) (Kd.R_far (p := ⟨gb339, 3, none⟩) (Kd.R_far (p := ⟨gb339, 2, none⟩) (Kd.R_far (p := ⟨gb339, 1, none⟩) (Kd.R_far (p := ⟨gb339, 0, none⟩) (Kd.R_types HO312.out BK339.out (by decide)) (fun _ hk => hk.2) (.int .i64 t323)) (fun _ hk => hk.2) (.slice Ao28 t324.length co28)) (fun _ hk => hk.2) (.slice Ao29 t327.length co29)) (fun _ hk => hk.2) (.slice Ao30 t330.length co30)) (fun _ hk => hk.2) (.slice Ao31 t333.length co31)) (fun _ hk => hk.2) (.slice Ao32 t336.length co32)) (fun _ h_ => h_.1))) hb); have n2_ := AZ.mk (Kd.R_below (by (with_reducible repeat (first | apply Kd.R_alloc | apply Kd.R_drewN | apply Kd.R_drew)); exact (Kd.R_mono (Kd.R_far (p := ⟨gb339, 5, none⟩) (Kd.R_far (p := ⟨gb339, 4, none⟩) (Kd.R_far (p := ⟨gb339, 3, none⟩) (Kd.R_far (p := ⟨gb339, 2, none⟩) (Kd.R_far (p := ⟨gb339, 1, none⟩) (Kd.R_far (p := ⟨gb339, 0, none⟩) (Kd.R_types HO315.out BK339.out (by decide)) (fun _ hk => hk.2) (.int .i64 t323)) (fun _ hk => hk.2) (.slice Ao28 t324.length co28)) (fun _ hk => hk.2) (.slice Ao29 t327.length co29)) (fun _ hk => hk.2) (.slice Ao30 t330.length co30)) (fun _ hk => hk.2) (.slice Ao31 t333.length co31)) (fun _ hk => hk.2) (.slice Ao32 t336.length co32)) (fun _ h_ => h_.1))) hb); have n3_ := AZ.mk (Kd.R_below (by (with_reducible repeat (first | apply Kd.R_alloc | apply Kd.R_drewN | apply Kd.R_drew)); exact (Kd.R_mono (Kd.R_far (p := ⟨gb339, 5, none⟩) (Kd.R_far (p := ⟨gb339, 4, none⟩) (Kd.R_far (p := ⟨gb339, 3, none⟩) (Kd.R_far (p := ⟨gb339, 2, none⟩) (Kd.R_far (p := ⟨gb339, 1, none⟩) (Kd.R_far (p := ⟨gb339, 0, none⟩) (Kd.R_types HO318.out BK339.out (by decide)) (fun _ hk => hk.2) (.int .i64 t323)) (fun _ hk => hk.2) (.slice Ao28 t324.length co28)) (fun _ hk => hk.2) (.slice Ao29 t327.length co29)) (fun _ hk => hk.2) (.slice Ao30 t330.length co30)) (fun _ hk => hk.2) (.slice Ao31 t333.length co31)) (fun _ hk => hk.2) (.slice Ao32 t336.length co32)) (fun _ h_ => h_.1))) hb); have n4_ := AZ.mk (Kd.R_below (by (with_reducible repeat (first | apply Kd.R_alloc | apply Kd.R_drewN | apply Kd.R_drew)); exact (Kd.R_mono (Kd.R_far (p := ⟨gb339, 5, none⟩) (Kd.R_far (p := ⟨gb339, 4, none⟩) (Kd.R_far (p := ⟨gb339, 3, none⟩) (Kd.R_far (p := ⟨gb339, 2, none⟩) (Kd.R_far (p := ⟨gb339, 1, none⟩) (Kd.R_far (p := ⟨gb339, 0, none⟩) (Kd.R_types HO321.out BK339.out (by decide)) (fun _ hk => hk.2) (.int .i64 t323)) (fun _ hk => hk.2) (.slice Ao28 t324.length co28)) (fun _ hk => hk.2) (.slice Ao29 t327.length co29)) (fun _ hk => hk.2) (.slice Ao30 t330.length co30)) (fun _ hk => hk.2) (.slice Ao31 t333.length co31)) (fun _ hk => hk.2) (.slice Ao32 t336.length co32)) (fun _ h_ => h_.1))) hb); have n5_ := AZ.mk (Kd.R_below (by (with_reducible repeat (first | apply Kd.R_alloc | apply Kd.R_drewN | apply Kd.R_drew)); exact (Kd.R_mono (Kd.R_far (p := ⟨gb339, 5, none⟩) (Kd.R_far (p := ⟨gb339, 4, none⟩) (Kd.R_far (p := ⟨gb339, 3, none⟩) (Kd.R_far (p := ⟨gb339, 2, none⟩) (Kd.R_far (p := ⟨gb339, 1, none⟩) (Kd.R_far (p := ⟨gb339, 0, none⟩) (Kd.R_types HO326.out BK339.out (by decide)) (fun _ hk => hk.2) (.int .i64 t323)) (fun _ hk => hk.2) (.slice Ao28 t324.length co28)) (fun _ hk => hk.2) (.slice Ao29 t327.length co29)) (fun _ hk => hk.2) (.slice Ao30 t330.length co30)) (fun _ hk => hk.2) (.slice Ao31 t333.length co31)) (fun _ hk => hk.2) (.slice Ao32 t336.length co32)) (fun _ h_ => h_.1))) hb); have n6_ := AZ.mk (Kd.R_below (by (with_reducible repeat (first | apply Kd.R_alloc | apply Kd.R_drewN | apply Kd.R_drew)); exact (Kd.R_mono (Kd.R_far (p := ⟨gb339, 5, none⟩) (Kd.R_far (p := ⟨gb339, 4, none⟩) (Kd.R_far (p := ⟨gb339, 3, none⟩) (Kd.R_far (p := ⟨gb339, 2, none⟩) (Kd.R_far (p := ⟨gb339, 1, none⟩) (Kd.R_far (p := ⟨gb339, 0, none⟩) (Kd.R_types HO329.out BK339.out (by decide)) (fun _ hk => hk.2) (.int .i64 t323)) (fun _ hk => hk.2) (.slice Ao28 t324.length co28)) (fun _ hk => hk.2) (.slice Ao29 t327.length co29)) (fun _ hk => hk.2) (.slice Ao30 t330.length co30)) (fun _ hk => hk.2) (.slice Ao31 t333.length co31)) (fun _ hk => hk.2) (.slice Ao32 t336.length co32)) (fun _ h_ => h_.1))) hb); have n7_ := AZ.mk (Kd.R_below (by (with_reducible repeat (first | apply Kd.R_alloc | apply Kd.R_drewN | apply Kd.R_drew)); exact (Kd.R_mono (Kd.R_far (p := ⟨gb339, 5, none⟩) (Kd.R_far (p := ⟨gb339, 4, none⟩) (Kd.R_far (p := ⟨gb339, 3, none⟩) (Kd.R_far (p := ⟨gb339, 2, none⟩) (Kd.R_far (p := ⟨gb339, 1, none⟩) (Kd.R_far (p := ⟨gb339, 0, none⟩) (Kd.R_types HO332.out BK339.out (by decide)) (fun _ hk => hk.2) (.int .i64 t323)) (fun _ hk => hk.2) (.slice Ao28 t324.length co28)) (fun _ hk => hk.2) (.slice Ao29 t327.length co29)) (fun _ hk => hk.2) (.slice Ao30 t330.length co30)) (fun _ hk => hk.2) (.slice Ao31 t333.length co31)) (fun _ hk => hk.2) (.slice Ao32 t336.length co32)) (fun _ h_ => h_.1))) hb); have n8_ := AZ.mk (Kd.R_below (by (with_reducible repeat (first | apply Kd.R_alloc | apply Kd.R_drewN | apply Kd.R_drew)); exact (Kd.R_mono (Kd.R_far (p := ⟨gb339, 5, none⟩) (Kd.R_far (p := ⟨gb339, 4, none⟩) (Kd.R_far (p := ⟨gb339, 3, none⟩) (Kd.R_far (p := ⟨gb339, 2, none⟩) (Kd.R_far (p := ⟨gb339, 1, none⟩) (Kd.R_far (p := ⟨gb339, 0, none⟩) (Kd.R_types HO335.out BK339.out (by decide)) (fun _ hk => hk.2) (.int .i64 t323)) (fun _ hk => hk.2) (.slice Ao28 t324.length co28)) (fun _ hk => hk.2) (.slice Ao29 t327.length co29)) (fun _ hk => hk.2) (.slice Ao30 t330.length co30)) (fun _ hk => hk.2) (.slice Ao31 t333.length co31)) (fun _ hk => hk.2) (.slice Ao32 t336.length co32)) (fun _ h_ => h_.1))) hb); have n9_ := AZ.mk (Kd.R_below (by (with_reducible repeat (first | apply Kd.R_alloc | apply Kd.R_drewN | apply Kd.R_drew)); exact (Kd.R_mono (Kd.R_far (p := ⟨gb339, 5, none⟩) (Kd.R_far (p := ⟨gb339, 4, none⟩) (Kd.R_far (p := ⟨gb339, 3, none⟩) (Kd.R_far (p := ⟨gb339, 2, none⟩) (Kd.R_far (p := ⟨gb339, 1, none⟩) (Kd.R_far (p := ⟨gb339, 0, none⟩) (Kd.R_types HO338.out BK339.out (by decide)) (fun _ hk => hk.2) (.int .i64 t323)) (fun _ hk => hk.2) (.slice Ao28 t324.length co28)) (fun _ hk => hk.2) (.slice Ao29 t327.length co29)) (fun _ hk => hk.2) (.slice Ao30 t330.length co30)) (fun _ hk => hk.2) (.slice Ao31 t333.length co31)) (fun _ hk => hk.2) (.slice Ao32 t336.length co32)) (fun _ h_ => h_.1))) hb); have n10_ := AZ.mk (bb_ (g := gb304) (o := .cells #[.int .i64 a0_0, .slice A0_1 l0_1.length c0_1, .slice A0_2 l0_2.length c0_2, .slice A0_3 l0_3.length c0_3, .slice A0_4 l0_4.length c0_4, .slice A0_5 l0_5.length c0_5] 28 (0, 0)) (by (with_reducible repeat (first | refine bn_ ?_ _ | refine bd_ ?_ | refine ba_ ?_ _)); refine blk_far ?_ NB304_339.out _; (with_reducible repeat (first | refine bn_ ?_ _ | refine bd_ ?_ | refine ba_ ?_ _)); refine blk_far ?_ NB304_339.out _; (with_reducible repeat (first | refine bn_ ?_ _ | refine bd_ ?_ | refine ba_ ?_ _)); refine blk_far ?_ NB304_339.out _; (with_reducible repeat (first | refine bn_ ?_ _ | refine bd_ ?_ | refine ba_ ?_ _)); refine blk_far ?_ NB304_339.out _; (with_reducible repeat (first | refine bn_ ?_ _ | refine bd_ ?_ | refine ba_ ?_ _)); refine blk_far ?_ NB304_339.out _; (with_reducible repeat (first | refine bn_ ?_ _ | refine bd_ ?_ | refine ba_ ?_ _)); refine blk_far ?_ NB304_339.out _; (with_reducible repeat (first | refine bn_ ?_ _ | refine bd_ ?_ | refine ba_ ?_ _)); exact BK304.out) hb); have n11_ := AZ.mk (bb_ (g := gb339) (o := .cells #[.int .i64 t323, .slice Ao28 t324.length co28, .slice Ao29 t327.length co29, .slice Ao30 t330.length co30, .slice Ao31 t333.length co31, .slice Ao32 t336.length co32] 33 (0, 0)) (by (with_reducible repeat (first | refine bn_ ?_ _ | refine bd_ ?_ | refine ba_ ?_ _)); refine blk_put (cs := #[.int .i64 t323, .slice Ao28 t324.length co28, .slice Ao29 t327.length co29, .slice Ao30 t330.length co30, .slice Ao31 t333.length co31, .slice none 0 0]) ?_ 5 _ rfl; (with_reducible repeat (first | refine bn_ ?_ _ | refine bd_ ?_ | refine ba_ ?_ _)); refine blk_put (cs := #[.int .i64 t323, .slice Ao28 t324.length co28, .slice Ao29 t327.length co29, .slice Ao30 t330.length co30, .slice none 0 0, .slice none 0 0]) ?_ 4 _ rfl; (with_reducible repeat (first | refine bn_ ?_ _ | refine bd_ ?_ | refine ba_ ?_ _)); refine blk_put (cs := #[.int .i64 t323, .slice Ao28 t324.length co28, .slice Ao29 t327.length co29, .slice none 0 0, .slice none 0 0, .slice none 0 0]) ?_ 3 _ rfl; (with_reducible repeat (first | refine bn_ ?_ _ | refine bd_ ?_ | refine ba_ ?_ _)); refine blk_put (cs := #[.int .i64 t323, .slice Ao28 t324.length co28, .slice none 0 0, .slice none 0 0, .slice none 0 0, .slice none 0 0]) ?_ 2 _ rfl; (with_reducible repeat (first | refine bn_ ?_ _ | refine bd_ ?_ | refine ba_ ?_ _)); refine blk_put (cs := #[.int .i64 t323, .slice none 0 0, .slice none 0 0, .slice none 0 0, .slice none 0 0, .slice none 0 0]) ?_ 1 _ rfl; (with_reducible repeat (first | refine bn_ ?_ _ | refine bd_ ?_ | refine ba_ ?_ _)); refine blk_put (cs := #[.int .i64 0, .slice none 0 0, .slice none 0 0, .slice none 0 0, .slice none 0 0, .slice none 0 0]) ?_ 0 _ rfl; (with_reducible repeat (first | refine bn_ ?_ _ | refine bd_ ?_ | refine ba_ ?_ _)); exact BK339.out) hb); have n12_ := AZ.mk (pT (by repeat (first | (with_reducible first | exact HB.out | apply pA | apply pN | apply pD | refine pS ?_ GE304.out | refine pS ?_ GE339.out) | exact HB.out)) hb); clear HO309; clear HO312; clear HO315; clear HO318; clear HO321; clear HO326; clear HO329; clear HO332; clear HO335; clear HO338; clear BK304; clear BK339; clear HB; have HO309 := n0_; have HO312 := n1_; have HO315 := n2_; have HO318 := n3_; have HO321 := n4_; have HO326 := n5_; have HO329 := n6_; have HO332 := n7_; have HO335 := n8_; have HO338 := n9_; have BK304 := n10_; have BK339 := n11_; have HB := n12_; clear n0_ n1_ n2_ n3_ n4_ n5_ n6_ n7_ n8_ n9_ n10_ n11_ n12_; (try clear hb); (try clear hb2); (try clear hk); (try clear hi)))
  go_ret
  exact ⟨by first | rfl | (simp [errW_none, errW_some] <;> rfl) | (simp [*, errW_none, errW_some] <;> rfl), by repeat (first | (with_reducible first | exact HB.out | apply pA | apply pN | apply pD | refine pS ?_ GE304.out | refine pS ?_ GE339.out) | exact HB.out)⟩
 rw [if_neg c11] at H
 have c11b0 : (t340 != t322) = false := by simpa using c11
 (try (have c11b1 : decide (t340 = t322) = true := by simpa using c11))
 (try (have c11b2 : (t340 == t322) = true := by simpa using c11))
 clear c11
 replace H := Option.bind_eq_some_iff.mp H
 obtain ⟨⟨t341, t342, t345, t348, t351, t354⟩, A340, H⟩ := H
 replace H : ((laws_eqChoices.f k t323 t324 t327 t330 t333 t336 t341 t342 t345 t348 t351 t354).bind fun t357 => (if t357 = true then (some true) else (some false))) = some r := H
 have A34 := AZ.mk A340
 clear A340
 replace H := Option.bind_eq_some_iff.mp H
 obtain ⟨t357, A350, H⟩ := H
 replace H : (if t357 = true then (some true) else (some false)) = some r := H
 have A35 := AZ.mk A350
 clear A350
 by_cases c36 : t357 = true
 ·subst c36
  have H1 : (some true) = some r := by rw [if_pos rfl] at H; exact H
  clear H
  have H := H1
  clear H1
  obtain rfl := Option.some.inj H
  go_enter Try.func3, Try.ntmps3
  try go_wp2_with (first | ((with_reducible refine gate_dst (N := 1) rfl ?_); refine box_event ?hg (N := 1) ?hd (cs := #[.int .i64 a0_0, .slice A0_1 l0_1.length c0_1, .slice A0_2 l0_2.length c0_2, .slice A0_3 l0_3.length c0_3, .slice A0_4 l0_4.length c0_4, .slice A0_5 l0_5.length c0_5]) (t := 28) ?hr ?_; (case hd => rfl); (case hg => rfl); (case hr => first | (go_simp; done) | (go_simp; rfl)); intro gb304 hg w37 hbox hb; have n0_ := AZ.mk (pT (by repeat (first | (with_reducible first | exact HB.out | apply pA | apply pN | apply pD) | exact HB.out)) hb); have n1_ := AZ.mk (hbox); have n2_ := AZ.mk ((by rw [hg]; exact (pZ (by repeat (first | (with_reducible first | exact HB.out | apply pA | apply pN | apply pD) | exact HB.out))) : w.heap.size ≤ gb304)); have n3_ := AZ.mk ((by rw [hg]; exact (pZ (by repeat (first | (with_reducible first | exact HB.out | apply pA | apply pN | apply pD) | exact HB.out))) : w.heap.size ≤ gb304)); clear HB; have HB := n0_; have BK304 := n1_; have GW304 := n2_; have GE304 := n3_; clear n0_ n1_ n2_ n3_; clear hb hbox hg; obtain ⟨hcz38_0, hcz38_1, hcz38_2, hcz38_3, hcz38_4, hcz38_5⟩ := c6 BK304.out; obtain ⟨hfz38_0, hfz38_1, hfz38_2, hfz38_3, hfz38_4, hfz38_5⟩ := f6 BK304.out) | ((with_reducible refine gate_callee (f := 4) rfl ?_); refine goesL_ (some 9) rfl rfl Try.func4 (by kernel_rfl) rfl #[.agg #[.int .i64 a0_0, .slice A0_1 l0_1.length c0_1, .slice A0_2 l0_2.length c0_2, .slice A0_3 l0_3.length c0_3, .slice A0_4 l0_4.length c0_4, .slice A0_5 l0_5.length c0_5], .int .i64 1048576] rfl (by (try simp only [List.map_toArray, List.map_cons, List.map_nil]); first | done | rfl | (simp only [List.length_drop, List.length_take]; rfl)) ?_; (with_reducible refine (laws_szChoices.calls k a0_0 _ _ l0_1 _ _ l0_2 _ _ l0_3 _ _ l0_4 _ _ l0_5 1048576 t305 _ ?side1 ?side2 ?side3 ?side4 ?side5 ?side6 ?side7 ?side8 ?side9 ?side10 A2.out).mono ?_); (case side1 => repeat (first | exact (Kd.C_below HR0_1.out HB.out) | (with_reducible refine Kd.C_alloc ?_ _) | (with_reducible refine Kd.C_drewN ?_ _) | (with_reducible refine Kd.C_drew ?_))); (case side2 => exact HC0_1.out); (case side3 => repeat (first | exact (Kd.C_below HR0_2.out HB.out) | (with_reducible refine Kd.C_alloc ?_ _) | (with_reducible refine Kd.C_drewN ?_ _) | (with_reducible refine Kd.C_drew ?_))); (case side4 => exact HC0_2.out); (case side5 => repeat (first | exact (Kd.C_below HR0_3.out HB.out) | (with_reducible refine Kd.C_alloc ?_ _) | (with_reducible refine Kd.C_drewN ?_ _) | (with_reducible refine Kd.C_drew ?_))); (case side6 => exact HC0_3.out); (case side7 => repeat (first | exact (Kd.C_below HR0_4.out HB.out) | (with_reducible refine Kd.C_alloc ?_ _) | (with_reducible refine Kd.C_drewN ?_ _) | (with_reducible refine Kd.C_drew ?_))); (case side8 => exact HC0_4.out); (case side9 => repeat (first | exact (Kd.C_below HR0_5.out HB.out) | (with_reducible refine Kd.C_alloc ?_ _) | (with_reducible refine Kd.C_drewN ?_ _) | (with_reducible refine Kd.C_drew ?_))); (case side10 => exact HC0_5.out); rintro e w39 ⟨rfl, hb⟩; refine ⟨_, rfl, ?_⟩; have n0_ := AZ.mk (bb_ (g := gb304) (o := .cells #[.int .i64 a0_0, .slice A0_1 l0_1.length c0_1, .slice A0_2 l0_2.length c0_2, .slice A0_3 l0_3.length c0_3, .slice A0_4 l0_4.length c0_4, .slice A0_5 l0_5.length c0_5] 28 (0, 0)) (by (with_reducible repeat (first | refine bn_ ?_ _ | refine bd_ ?_ | refine ba_ ?_ _)); exact BK304.out) hb); have n1_ := AZ.mk (pT (by repeat (first | (with_reducible first | exact HB.out | apply pA | apply pN | apply pD | refine pS ?_ GE304.out) | exact HB.out)) hb); clear BK304; clear HB; have BK304 := n0_; have HB := n1_; clear n0_ n1_; (try clear hb); (try clear hb2); (try clear hk); (try clear hi); obtain ⟨hcz40_0, hcz40_1, hcz40_2, hcz40_3, hcz40_4, hcz40_5⟩ := c6 BK304.out; obtain ⟨hfz40_0, hfz40_1, hfz40_2, hfz40_3, hfz40_4, hfz40_5⟩ := f6 BK304.out) | ((with_reducible refine gate_callee (f := 6) rfl ?_); refine goesL_ (some 13) rfl rfl Try.func6 (by kernel_rfl) rfl #[.agg #[.int .i64 a0_0, .slice A0_1 l0_1.length c0_1, .slice A0_2 l0_2.length c0_2, .slice A0_3 l0_3.length c0_3, .slice A0_4 l0_4.length c0_4, .slice A0_5 l0_5.length c0_5]] rfl (by (try simp only [List.map_toArray, List.map_cons, List.map_nil]); first | done | rfl | (simp only [List.length_drop, List.length_take]; rfl)) ?_; (with_reducible refine (laws_toChoices.calls k a0_0 _ _ l0_1 _ _ l0_2 _ _ l0_3 _ _ l0_4 _ _ l0_5 t306 t307 t310 t313 t316 t319 _ ?side1 ?side2 ?side3 ?side4 ?side5 ?side6 ?side7 ?side8 ?side9 ?side10 A7.out).mono ?_); (case side1 => repeat (first | exact (Kd.C_below HR0_1.out HB.out) | (with_reducible refine Kd.C_alloc ?_ _) | (with_reducible refine Kd.C_drewN ?_ _) | (with_reducible refine Kd.C_drew ?_))); (case side2 => exact HC0_1.out); (case side3 => repeat (first | exact (Kd.C_below HR0_2.out HB.out) | (with_reducible refine Kd.C_alloc ?_ _) | (with_reducible refine Kd.C_drewN ?_ _) | (with_reducible refine Kd.C_drew ?_))); (case side4 => exact HC0_2.out); (case side5 => repeat (first | exact (Kd.C_below HR0_3.out HB.out) | (with_reducible refine Kd.C_alloc ?_ _) | (with_reducible refine Kd.C_drewN ?_ _) | (with_reducible refine Kd.C_drew ?_))); (case side6 => exact HC0_3.out); (case side7 => repeat (first | exact (Kd.C_below HR0_4.out HB.out) | (with_reducible refine Kd.C_alloc ?_ _) | (with_reducible refine Kd.C_drewN ?_ _) | (with_reducible refine Kd.C_drew ?_))); (case side8 => exact HC0_4.out); (case side9 => repeat (first | exact (Kd.C_below HR0_5.out HB.out) | (with_reducible refine Kd.C_alloc ?_ _) | (with_reducible refine Kd.C_drewN ?_ _) | (with_reducible refine Kd.C_drew ?_))); (case side10 => exact HC0_5.out); rintro e w41 ⟨v308, v311, v314, v317, v320, rfl, ho0, ho1, ho2, ho3, ho4, hb⟩; refine ⟨_, rfl, ?_⟩; have n0_ := AZ.mk (Kd.R_lower ho0 (pZ (by repeat (first | (with_reducible first | exact HB.out | apply pA | apply pN | apply pD | refine pS ?_ GE304.out) | exact HB.out)))); have n1_ := AZ.mk (Kd.R_lower ho1 (pZ (by repeat (first | (with_reducible first | exact HB.out | apply pA | apply pN | apply pD | refine pS ?_ GE304.out) | exact HB.out)))); have n2_ := AZ.mk (Kd.R_lower ho2 (pZ (by repeat (first | (with_reducible first | exact HB.out | apply pA | apply pN | apply pD | refine pS ?_ GE304.out) | exact HB.out)))); have n3_ := AZ.mk (Kd.R_lower ho3 (pZ (by repeat (first | (with_reducible first | exact HB.out | apply pA | apply pN | apply pD | refine pS ?_ GE304.out) | exact HB.out)))); have n4_ := AZ.mk (Kd.R_lower ho4 (pZ (by repeat (first | (with_reducible first | exact HB.out | apply pA | apply pN | apply pD | refine pS ?_ GE304.out) | exact HB.out)))); have n5_ := AZ.mk (bb_ (g := gb304) (o := .cells #[.int .i64 a0_0, .slice A0_1 l0_1.length c0_1, .slice A0_2 l0_2.length c0_2, .slice A0_3 l0_3.length c0_3, .slice A0_4 l0_4.length c0_4, .slice A0_5 l0_5.length c0_5] 28 (0, 0)) (by (with_reducible repeat (first | refine bn_ ?_ _ | refine bd_ ?_ | refine ba_ ?_ _)); exact BK304.out) hb); have n6_ := AZ.mk (pT (by repeat (first | (with_reducible first | exact HB.out | apply pA | apply pN | apply pD | refine pS ?_ GE304.out) | exact HB.out)) hb); clear BK304; clear HB; have HO309 := n0_; have HO312 := n1_; have HO315 := n2_; have HO318 := n3_; have HO321 := n4_; have BK304 := n5_; have HB := n6_; clear n0_ n1_ n2_ n3_ n4_ n5_ n6_; (try clear hb); (try clear hb2); (try clear hk); (try clear hi); (try clear ho0); (try clear ho1); (try clear ho2); (try clear ho3); (try clear ho4); obtain ⟨Ao42, co42, eo42⟩ := Kd.R_slice HO309.out; subst eo42; obtain ⟨Ao43, co43, eo43⟩ := Kd.R_slice HO312.out; subst eo43; obtain ⟨Ao44, co44, eo44⟩ := Kd.R_slice HO315.out; subst eo44; obtain ⟨Ao45, co45, eo45⟩ := Kd.R_slice HO318.out; subst eo45; obtain ⟨Ao46, co46, eo46⟩ := Kd.R_slice HO321.out; subst eo46) | ((with_reducible refine gate_callee (f := 5) rfl ?_); refine goesL_ (some 14) rfl rfl Try.func5 (by kernel_rfl) rfl #[.agg #[.int .i64 t306, .slice Ao42 t307.length co42, .slice Ao43 t310.length co43, .slice Ao44 t313.length co44, .slice Ao45 t316.length co45, .slice Ao46 t319.length co46]] rfl (by (try simp only [List.map_toArray, List.map_cons, List.map_nil]); first | done | rfl | (simp only [List.length_drop, List.length_take]; rfl)) ?_; (with_reducible refine (spec_ValidChoices.calls k t306 _ _ t307 _ _ t310 _ _ t313 _ _ t316 _ _ t319 t322 _ ?side1 ?side2 ?side3 ?side4 ?side5 ?side6 ?side7 ?side8 ?side9 ?side10 A8.out).mono ?_); (case side1 => repeat (first | exact (Kd.R_reads' HO309.out).2.2 | (with_reducible refine Kd.C_alloc ?_ _) | (with_reducible refine Kd.C_drewN ?_ _) | (with_reducible refine Kd.C_drew ?_))); (case side2 => exact (Kd.R_reads' HO309.out).2.1); (case side3 => repeat (first | exact (Kd.R_reads' HO312.out).2.2 | (with_reducible refine Kd.C_alloc ?_ _) | (with_reducible refine Kd.C_drewN ?_ _) | (with_reducible refine Kd.C_drew ?_))); (case side4 => exact (Kd.R_reads' HO312.out).2.1); (case side5 => repeat (first | exact (Kd.R_reads' HO315.out).2.2 | (with_reducible refine Kd.C_alloc ?_ _) | (with_reducible refine Kd.C_drewN ?_ _) | (with_reducible refine Kd.C_drew ?_))); (case side6 => exact (Kd.R_reads' HO315.out).2.1); (case side7 => repeat (first | exact (Kd.R_reads' HO318.out).2.2 | (with_reducible refine Kd.C_alloc ?_ _) | (with_reducible refine Kd.C_drewN ?_ _) | (with_reducible refine Kd.C_drew ?_))); (case side8 => exact (Kd.R_reads' HO318.out).2.1); (case side9 => repeat (first | exact (Kd.R_reads' HO321.out).2.2 | (with_reducible refine Kd.C_alloc ?_ _) | (with_reducible refine Kd.C_drewN ?_ _) | (with_reducible refine Kd.C_drew ?_))); (case side10 => exact (Kd.R_reads' HO321.out).2.1); rintro e w47 ⟨rfl, hb⟩; refine ⟨_, rfl, ?_⟩; have n0_ := AZ.mk (Kd.R_below (by (with_reducible repeat (first | apply Kd.R_alloc | apply Kd.R_drewN | apply Kd.R_drew)); exact HO309.out) hb); have n1_ := AZ.mk (Kd.R_below (by (with_reducible repeat (first | apply Kd.R_alloc | apply Kd.R_drewN | apply Kd.R_drew)); exact HO312.out) hb); have n2_ := AZ.mk (Kd.R_below (by (with_reducible repeat (first | apply Kd.R_alloc | apply Kd.R_drewN | apply Kd.R_drew)); exact HO315.out) hb); have n3_ := AZ.mk (Kd.R_below (by (with_reducible repeat (first | apply Kd.R_alloc | apply Kd.R_drewN | apply Kd.R_drew)); exact HO318.out) hb); have n4_ := AZ.mk (Kd.R_below (by (with_reducible repeat (first | apply Kd.R_alloc | apply Kd.R_drewN | apply Kd.R_drew)); exact HO321.out) hb); have n5_ := AZ.mk (bb_ (g := gb304) (o := .cells #[.int .i64 a0_0, .slice A0_1 l0_1.length c0_1, .slice A0_2 l0_2.length c0_2, .slice A0_3 l0_3.length c0_3, .slice A0_4 l0_4.length c0_4, .slice A0_5 l0_5.length c0_5] 28 (0, 0)) (by (with_reducible repeat (first | refine bn_ ?_ _ | refine bd_ ?_ | refine ba_ ?_ _)); exact BK304.out) hb); have n6_ := AZ.mk (pT (by repeat (first | (with_reducible first | exact HB.out | apply pA | apply pN | apply pD | refine pS ?_ GE304.out) | exact HB.out)) hb); clear HO309; clear HO312; clear HO315; clear HO318; clear HO321; clear BK304; clear HB; have HO309 := n0_; have HO312 := n1_; have HO315 := n2_; have HO318 := n3_; have HO321 := n4_; have BK304 := n5_; have HB := n6_; clear n0_ n1_ n2_ n3_ n4_ n5_ n6_; (try clear hb); (try clear hb2); (try clear hk); (try clear hi); obtain ⟨hcz48_0, hcz48_1, hcz48_2, hcz48_3, hcz48_4, hcz48_5⟩ := c6 BK304.out; obtain ⟨hfz48_0, hfz48_1, hfz48_2, hfz48_3, hfz48_4, hfz48_5⟩ := f6 BK304.out) | ((with_reducible refine gate_callee (f := 6) rfl ?_); refine goesL_ (some 16) rfl rfl Try.func6 (by kernel_rfl) rfl #[.agg #[.int .i64 a0_0, .slice A0_1 l0_1.length c0_1, .slice A0_2 l0_2.length c0_2, .slice A0_3 l0_3.length c0_3, .slice A0_4 l0_4.length c0_4, .slice A0_5 l0_5.length c0_5]] rfl (by (try simp only [List.map_toArray, List.map_cons, List.map_nil]); first | done | rfl | (simp only [List.length_drop, List.length_take]; rfl)) ?_; (with_reducible refine (laws_toChoices.calls k a0_0 _ _ l0_1 _ _ l0_2 _ _ l0_3 _ _ l0_4 _ _ l0_5 t323 t324 t327 t330 t333 t336 _ ?side1 ?side2 ?side3 ?side4 ?side5 ?side6 ?side7 ?side8 ?side9 ?side10 A9.out).mono ?_); (case side1 => repeat (first | exact (Kd.C_below HR0_1.out HB.out) | (with_reducible refine Kd.C_alloc ?_ _) | (with_reducible refine Kd.C_drewN ?_ _) | (with_reducible refine Kd.C_drew ?_))); (case side2 => exact HC0_1.out); (case side3 => repeat (first | exact (Kd.C_below HR0_2.out HB.out) | (with_reducible refine Kd.C_alloc ?_ _) | (with_reducible refine Kd.C_drewN ?_ _) | (with_reducible refine Kd.C_drew ?_))); (case side4 => exact HC0_2.out); (case side5 => repeat (first | exact (Kd.C_below HR0_3.out HB.out) | (with_reducible refine Kd.C_alloc ?_ _) | (with_reducible refine Kd.C_drewN ?_ _) | (with_reducible refine Kd.C_drew ?_))); (case side6 => exact HC0_3.out); (case side7 => repeat (first | exact (Kd.C_below HR0_4.out HB.out) | (with_reducible refine Kd.C_alloc ?_ _) | (with_reducible refine Kd.C_drewN ?_ _) | (with_reducible refine Kd.C_drew ?_))); (case side8 => exact HC0_4.out); (case side9 => repeat (first | exact (Kd.C_below HR0_5.out HB.out) | (with_reducible refine Kd.C_alloc ?_ _) | (with_reducible refine Kd.C_drewN ?_ _) | (with_reducible refine Kd.C_drew ?_))); (case side10 => exact HC0_5.out); rintro e w49 ⟨v325, v328, v331, v334, v337, rfl, ho0, ho1, ho2, ho3, ho4, hb⟩; refine ⟨_, rfl, ?_⟩; have n0_ := AZ.mk (Kd.R_elder' (by (with_reducible repeat (first | apply Kd.R_alloc | apply Kd.R_drewN | apply Kd.R_drew)); exact HO309.out) (Kd.R_base ho0) hb); have n1_ := AZ.mk (Kd.R_elder' (by (with_reducible repeat (first | apply Kd.R_alloc | apply Kd.R_drewN | apply Kd.R_drew)); exact HO312.out) (Kd.R_base ho1) hb); have n2_ := AZ.mk (Kd.R_elder' (by (with_reducible repeat (first | apply Kd.R_alloc | apply Kd.R_drewN | apply Kd.R_drew)); exact HO315.out) (Kd.R_base ho2) hb); have n3_ := AZ.mk (Kd.R_mono (Kd.R_told (Kd.R_told (Kd.R_told (Kd.R_old (by (with_reducible repeat (first | apply Kd.R_alloc | apply Kd.R_drewN | apply Kd.R_drew)); exact HO318.out) hb) (Kd.R_base ho0)) (Kd.R_base ho3)) (Kd.R_base ho4)) (fun _ h_ => h_.1)); have n4_ := AZ.mk (Kd.R_mono (Kd.R_told (Kd.R_told (Kd.R_old (by (with_reducible repeat (first | apply Kd.R_alloc | apply Kd.R_drewN | apply Kd.R_drew)); exact HO321.out) hb) (Kd.R_base ho0)) (Kd.R_base ho4)) (fun _ h_ => h_.1)); have n5_ := AZ.mk (Kd.R_lower (Kd.R_new' ho0 (Kd.R_lt (by (with_reducible repeat (first | apply Kd.R_alloc | apply Kd.R_drewN | apply Kd.R_drew)); exact HO309.out))) (pZ (by repeat (first | (with_reducible first | exact HB.out | apply pA | apply pN | apply pD | refine pS ?_ GE304.out) | exact HB.out)))); have n6_ := AZ.mk (Kd.R_lower (Kd.R_new' ho1 (Kd.R_lt (by (with_reducible repeat (first | apply Kd.R_alloc | apply Kd.R_drewN | apply Kd.R_drew)); exact HO312.out))) (pZ (by repeat (first | (with_reducible first | exact HB.out | apply pA | apply pN | apply pD | refine pS ?_ GE304.out) | exact HB.out)))); have n7_ := AZ.mk (Kd.R_lower (Kd.R_new' ho2 (Kd.R_lt (by (with_reducible repeat (first | apply Kd.R_alloc | apply Kd.R_drewN | apply Kd.R_drew)); exact HO315.out))) (pZ (by repeat (first | (with_reducible first | exact HB.out | apply pA | apply pN | apply pD | refine pS ?_ GE304.out) | exact HB.out)))); have n8_ := AZ.mk (Kd.R_lower (Kd.R_new' (Kd.R_new' (Kd.R_new' ho3 (Kd.R_lt (by (with_reducible repeat (first | apply Kd.R_alloc | apply Kd.R_drewN | apply Kd.R_drew)); exact HO309.out))) (Kd.R_lt (by (with_reducible repeat (first | apply Kd.R_alloc | apply Kd.R_drewN | apply Kd.R_drew)); exact HO318.out))) (Kd.R_lt (by (with_reducible repeat (first | apply Kd.R_alloc | apply Kd.R_drewN | apply Kd.R_drew)); exact HO321.out))) (pZ (by repeat (first | (with_reducible first | exact HB.out | apply pA | apply pN | apply pD | refine pS ?_ GE304.out) | exact HB.out)))); have n9_ := AZ.mk (Kd.R_lower (Kd.R_new' (Kd.R_new' ho4 (Kd.R_lt (by (with_reducible repeat (first | apply Kd.R_alloc | apply Kd.R_drewN | apply Kd.R_drew)); exact HO309.out))) (Kd.R_lt (by (with_reducible repeat (first | apply Kd.R_alloc | apply Kd.R_drewN | apply Kd.R_drew)); exact HO321.out))) (pZ (by repeat (first | (with_reducible first | exact HB.out | apply pA | apply pN | apply pD | refine pS ?_ GE304.out) | exact HB.out)))); have n10_ := AZ.mk (bb_ (g := gb304) (o := .cells #[.int .i64 a0_0, .slice A0_1 l0_1.length c0_1, .slice A0_2 l0_2.length c0_2, .slice A0_3 l0_3.length c0_3, .slice A0_4 l0_4.length c0_4, .slice A0_5 l0_5.length c0_5] 28 (0, 0)) (by (with_reducible repeat (first | refine bn_ ?_ _ | refine bd_ ?_ | refine ba_ ?_ _)); exact BK304.out) hb); have n11_ := AZ.mk (pT (by repeat (first | (with_reducible first | exact HB.out | apply pA | apply pN | apply pD | refine pS ?_ GE304.out) | exact HB.out)) hb); clear HO309; clear HO312; clear HO315; clear HO318; clear HO321; clear BK304; clear HB; have HO309 := n0_; have HO312 := n1_; have HO315 := n2_; have HO318 := n3_; have HO321 := n4_; have HO326 := n5_; have HO329 := n6_; have HO332 := n7_; have HO335 := n8_; have HO338 := n9_; have BK304 := n10_; have HB := n11_; clear n0_ n1_ n2_ n3_ n4_ n5_ n6_ n7_ n8_ n9_ n10_ n11_; (try clear hb); (try clear hb2); (try clear hk); (try clear hi); (try clear ho0); (try clear ho1); (try clear ho2); (try clear ho3); (try clear ho4)) | ((with_reducible refine gate_dst (N := 5) rfl ?_); refine box_event ?hg (N := 5) ?hd (cs := #[.int .i64 0, .slice none 0 0, .slice none 0 0, .slice none 0 0, .slice none 0 0, .slice none 0 0]) (t := 33) ?hr ?_; (case hd => rfl); (case hg => rfl); (case hr => first | (go_simp; done) | (go_simp; rfl)); intro gb339 hg w50 hbox hb; have n0_ := AZ.mk (Kd.R_below (by (with_reducible repeat (first | apply Kd.R_alloc | apply Kd.R_drewN | apply Kd.R_drew)); exact HO309.out) hb); have n1_ := AZ.mk (Kd.R_below (by (with_reducible repeat (first | apply Kd.R_alloc | apply Kd.R_drewN | apply Kd.R_drew)); exact HO312.out) hb); have n2_ := AZ.mk (Kd.R_below (by (with_reducible repeat (first | apply Kd.R_alloc | apply Kd.R_drewN | apply Kd.R_drew)); exact HO315.out) hb); have n3_ := AZ.mk (Kd.R_below (by (with_reducible repeat (first | apply Kd.R_alloc | apply Kd.R_drewN | apply Kd.R_drew)); exact HO318.out) hb); have n4_ := AZ.mk (Kd.R_below (by (with_reducible repeat (first | apply Kd.R_alloc | apply Kd.R_drewN | apply Kd.R_drew)); exact HO321.out) hb); have n5_ := AZ.mk (Kd.R_below (by (with_reducible repeat (first | apply Kd.R_alloc | apply Kd.R_drewN | apply Kd.R_drew)); exact HO326.out) hb); have n6_ := AZ.mk (Kd.R_below (by (with_reducible repeat (first | apply Kd.R_alloc | apply Kd.R_drewN | apply Kd.R_drew)); exact HO329.out) hb); have n7_ := AZ.mk (Kd.R_below (by (with_reducible repeat (first | apply Kd.R_alloc | apply Kd.R_drewN | apply Kd.R_drew)); exact HO332.out) hb); have n8_ := AZ.mk (Kd.R_below (by (with_reducible repeat (first | apply Kd.R_alloc | apply Kd.R_drewN | apply Kd.R_drew)); exact HO335.out) hb); have n9_ := AZ.mk (Kd.R_below (by (with_reducible repeat (first | apply Kd.R_alloc | apply Kd.R_drewN | apply Kd.R_drew)); exact HO338.out) hb); have n10_ := AZ.mk (bb_ (g := gb304) (o := .cells #[.int .i64 a0_0, .slice A0_1 l0_1.length c0_1, .slice A0_2 l0_2.length c0_2, .slice A0_3 l0_3.length c0_3, .slice A0_4 l0_4.length c0_4, .slice A0_5 l0_5.length c0_5] 28 (0, 0)) (by (with_reducible repeat (first | refine bn_ ?_ _ | refine bd_ ?_ | refine ba_ ?_ _)); exact BK304.out) hb); have n11_ := AZ.mk (pT (by repeat (first | (with_reducible first | exact HB.out | apply pA | apply pN | apply pD | refine pS ?_ GE304.out) | exact HB.out)) hb); have n12_ := AZ.mk (hbox); have n13_ := AZ.mk ((by rw [hg]; exact (pZ (by repeat (first | (with_reducible first | exact HB.out | apply pA | apply pN | apply pD | refine pS ?_ GE304.out) | exact HB.out))) : w.heap.size ≤ gb339)); have n14_ := AZ.mk ((by rw [hg]; exact (pZ (by repeat (first | (with_reducible first | exact HB.out | apply pA | apply pN | apply pD | refine pS ?_ GE304.out) | exact HB.out))) : w.heap.size ≤ gb339)); have n15_ := AZ.mk ((by rw [hg]; exact Nat.ne_of_lt (blk_lt (g := gb304) (o := .cells #[.int .i64 a0_0, .slice A0_1 l0_1.length c0_1, .slice A0_2 l0_2.length c0_2, .slice A0_3 l0_3.length c0_3, .slice A0_4 l0_4.length c0_4, .slice A0_5 l0_5.length c0_5] 28 (0, 0)) (by (with_reducible repeat (first | refine bn_ ?_ _ | refine bd_ ?_ | refine ba_ ?_ _)); exact BK304.out)) : gb304 ≠ gb339)); have n16_ := AZ.mk ((by rw [hg]; exact Nat.ne_of_gt (blk_lt (g := gb304) (o := .cells #[.int .i64 a0_0, .slice A0_1 l0_1.length c0_1, .slice A0_2 l0_2.length c0_2, .slice A0_3 l0_3.length c0_3, .slice A0_4 l0_4.length c0_4, .slice A0_5 l0_5.length c0_5] 28 (0, 0)) (by (with_reducible repeat (first | refine bn_ ?_ _ | refine bd_ ?_ | refine ba_ ?_ _)); exact BK304.out)) : gb339 ≠ gb304)); clear HO309; clear HO312; clear HO315; clear HO318; clear HO321; clear HO326; clear HO329; clear HO332; clear HO335; clear HO338; clear BK304; clear HB; have HO309 := n0_; have HO312 := n1_; have HO315 := n2_; have HO318 := n3_; have HO321 := n4_; have HO326 := n5_; have HO329 := n6_; have HO332 := n7_; have HO335 := n8_; have HO338 := n9_; have BK304 := n10_; have HB := n11_; have BK339 := n12_; have GW339 := n13_; have GE339 := n14_; have NB304_339 := n15_; have NB339_304 := n16_; clear n0_ n1_ n2_ n3_ n4_ n5_ n6_ n7_ n8_ n9_ n10_ n11_ n12_ n13_ n14_ n15_ n16_; clear hb hbox hg; have hnb51 := NB339_304.out; have hnc51 := NB304_339.out; obtain ⟨hcz52_0, hcz52_1, hcz52_2, hcz52_3, hcz52_4, hcz52_5⟩ := c6 BK339.out; obtain ⟨hfz52_0, hfz52_1, hfz52_2, hfz52_3, hfz52_4, hfz52_5⟩ := f6 BK339.out; obtain ⟨Ao53, co53, eo53⟩ := Kd.R_slice HO326.out; subst eo53; obtain ⟨Ao54, co54, eo54⟩ := Kd.R_slice HO329.out; subst eo54; obtain ⟨Ao55, co55, eo55⟩ := Kd.R_slice HO332.out; subst eo55; obtain ⟨Ao56, co56, eo56⟩ := Kd.R_slice HO335.out; subst eo56; obtain ⟨Ao57, co57, eo57⟩ := Kd.R_slice HO338.out; subst eo57) | ((with_reducible refine gate_callee (f := 7) rfl ?_); refine goesL_ (some 18) rfl rfl Try.func7 (by kernel_rfl) rfl #[.agg #[.int .i64 t323, .slice Ao53 t324.length co53, .slice Ao54 t327.length co54, .slice Ao55 t330.length co55, .slice Ao56 t333.length co56, .slice Ao57 t336.length co57]] rfl (by (try simp only [List.map_toArray, List.map_cons, List.map_nil]); first | done | rfl | (simp only [List.length_drop, List.length_take]; rfl)) ?_; (with_reducible refine (impl_ValidChoices.calls k t323 _ _ t324 _ _ t327 _ _ t330 _ _ t333 _ _ t336 t340 _ ?side1 ?side2 ?side3 ?side4 ?side5 ?side6 ?side7 ?side8 ?side9 ?side10 A10.out).mono ?_); (case side1 => refine (Kd.R_reads' (e := 2) (base := w.heap.size) (ok := fun k_ => (True ∧ some k_ ≠ (.slice Ao42 t307.length co42 : Value).ownBlock)) (n := t324.length) (c := co53) ?_).2.2; exact (by (with_reducible repeat (first | apply Kd.R_alloc | apply Kd.R_drewN | apply Kd.R_drew)); exact (Kd.R_mono (Kd.R_far (p := ⟨gb339, 5, none⟩) (Kd.R_far (p := ⟨gb339, 4, none⟩) (Kd.R_far (p := ⟨gb339, 3, none⟩) (Kd.R_far (p := ⟨gb339, 2, none⟩) (Kd.R_far (p := ⟨gb339, 1, none⟩) (Kd.R_far (p := ⟨gb339, 0, none⟩) (Kd.R_types HO326.out BK339.out (by decide)) (fun _ hk => hk.2) (.int .i64 t323)) (fun _ hk => hk.2) (.slice Ao53 t324.length co53)) (fun _ hk => hk.2) (.slice Ao54 t327.length co54)) (fun _ hk => hk.2) (.slice Ao55 t330.length co55)) (fun _ hk => hk.2) (.slice Ao56 t333.length co56)) (fun _ hk => hk.2) (.slice Ao57 t336.length co57)) (fun _ h_ => h_.1)))); (case side2 => exact (Kd.R_reads' HO326.out).2.1); (case side3 => refine (Kd.R_reads' (e := 4) (base := w.heap.size) (ok := fun k_ => (True ∧ some k_ ≠ (.slice Ao43 t310.length co43 : Value).ownBlock)) (n := t327.length) (c := co54) ?_).2.2; exact (by (with_reducible repeat (first | apply Kd.R_alloc | apply Kd.R_drewN | apply Kd.R_drew)); exact (Kd.R_mono (Kd.R_far (p := ⟨gb339, 5, none⟩) (Kd.R_far (p := ⟨gb339, 4, none⟩) (Kd.R_far (p := ⟨gb339, 3, none⟩) (Kd.R_far (p := ⟨gb339, 2, none⟩) (Kd.R_far (p := ⟨gb339, 1, none⟩) (Kd.R_far (p := ⟨gb339, 0, none⟩) (Kd.R_types HO329.out BK339.out (by decide)) (fun _ hk => hk.2) (.int .i64 t323)) (fun _ hk => hk.2) (.slice Ao53 t324.length co53)) (fun _ hk => hk.2) (.slice Ao54 t327.length co54)) (fun _ hk => hk.2) (.slice Ao55 t330.length co55)) (fun _ hk => hk.2) (.slice Ao56 t333.length co56)) (fun _ hk => hk.2) (.slice Ao57 t336.length co57)) (fun _ h_ => h_.1)))); (case side4 => exact (Kd.R_reads' HO329.out).2.1); (case side5 => refine (Kd.R_reads' (e := 53) (base := w.heap.size) (ok := fun k_ => (True ∧ some k_ ≠ (.slice Ao44 t313.length co44 : Value).ownBlock)) (n := t330.length) (c := co55) ?_).2.2; exact (by (with_reducible repeat (first | apply Kd.R_alloc | apply Kd.R_drewN | apply Kd.R_drew)); exact (Kd.R_mono (Kd.R_far (p := ⟨gb339, 5, none⟩) (Kd.R_far (p := ⟨gb339, 4, none⟩) (Kd.R_far (p := ⟨gb339, 3, none⟩) (Kd.R_far (p := ⟨gb339, 2, none⟩) (Kd.R_far (p := ⟨gb339, 1, none⟩) (Kd.R_far (p := ⟨gb339, 0, none⟩) (Kd.R_types HO332.out BK339.out (by decide)) (fun _ hk => hk.2) (.int .i64 t323)) (fun _ hk => hk.2) (.slice Ao53 t324.length co53)) (fun _ hk => hk.2) (.slice Ao54 t327.length co54)) (fun _ hk => hk.2) (.slice Ao55 t330.length co55)) (fun _ hk => hk.2) (.slice Ao56 t333.length co56)) (fun _ hk => hk.2) (.slice Ao57 t336.length co57)) (fun _ h_ => h_.1)))); (case side6 => exact (Kd.R_reads' HO332.out).2.1); (case side7 => refine (Kd.R_reads' (e := 26) (base := w.heap.size) (ok := fun k_ => ((((some k_ ≠ (.slice Ao53 t324.length co53 : Value).ownBlock ∧ some k_ ≠ (.slice Ao57 t336.length co57 : Value).ownBlock) ∧ some k_ ≠ (.slice Ao42 t307.length co42 : Value).ownBlock) ∧ some k_ ≠ (.slice Ao45 t316.length co45 : Value).ownBlock) ∧ some k_ ≠ (.slice Ao46 t319.length co46 : Value).ownBlock)) (n := t333.length) (c := co56) ?_).2.2; exact (by (with_reducible repeat (first | apply Kd.R_alloc | apply Kd.R_drewN | apply Kd.R_drew)); exact (Kd.R_mono (Kd.R_far (p := ⟨gb339, 5, none⟩) (Kd.R_far (p := ⟨gb339, 4, none⟩) (Kd.R_far (p := ⟨gb339, 3, none⟩) (Kd.R_far (p := ⟨gb339, 2, none⟩) (Kd.R_far (p := ⟨gb339, 1, none⟩) (Kd.R_far (p := ⟨gb339, 0, none⟩) (Kd.R_types HO335.out BK339.out (by decide)) (fun _ hk => hk.2) (.int .i64 t323)) (fun _ hk => hk.2) (.slice Ao53 t324.length co53)) (fun _ hk => hk.2) (.slice Ao54 t327.length co54)) (fun _ hk => hk.2) (.slice Ao55 t330.length co55)) (fun _ hk => hk.2) (.slice Ao56 t333.length co56)) (fun _ hk => hk.2) (.slice Ao57 t336.length co57)) (fun _ h_ => h_.1)))); (case side8 => exact (Kd.R_reads' HO335.out).2.1); (case side9 => refine (Kd.R_reads' (e := 56) (base := w.heap.size) (ok := fun k_ => ((some k_ ≠ (.slice Ao53 t324.length co53 : Value).ownBlock ∧ some k_ ≠ (.slice Ao42 t307.length co42 : Value).ownBlock) ∧ some k_ ≠ (.slice Ao46 t319.length co46 : Value).ownBlock)) (n := t336.length) (c := co57) ?_).2.2; exact (by (with_reducible repeat (first | apply Kd.R_alloc | apply Kd.R_drewN | apply Kd.R_drew)); exact (Kd.R_mono (Kd.R_far (p := ⟨gb339, 5, none⟩) (Kd.R_far (p := ⟨gb339, 4, none⟩) (Kd.R_far (p := ⟨gb339, 3, none⟩) (Kd.R_far (p := ⟨gb339, 2, none⟩) (Kd.R_far (p := ⟨gb339, 1, none⟩) (Kd.R_far (p := ⟨gb339, 0, none⟩) (Kd.R_types HO338.out BK339.out (by decide)) (fun _ hk => hk.2) (.int .i64 t323)) (fun _ hk => hk.2) (.slice Ao53 t324.length co53)) (fun _ hk => hk.2) (.slice Ao54 t327.length co54)) (fun _ hk => hk.2) (.slice Ao55 t330.length co55)) (fun _ hk => hk.2) (.slice Ao56 t333.length co56)) (fun _ hk => hk.2) (.slice Ao57 t336.length co57)) (fun _ h_ => h_.1)))); (case side10 => exact (Kd.R_reads' HO338.out).2.1); rintro e w58 ⟨rfl, hb⟩; refine ⟨_, rfl, ?_⟩; have n0_ := AZ.mk (Kd.R_below (by (with_reducible repeat (first | apply Kd.R_alloc | apply Kd.R_drewN | apply Kd.R_drew)); exact (Kd.R_mono (Kd.R_far (p := ⟨gb339, 5, none⟩) (Kd.R_far (p := ⟨gb339, 4, none⟩) (Kd.R_far (p := ⟨gb339, 3, none⟩) (Kd.R_far (p := ⟨gb339, 2, none⟩) (Kd.R_far (p := ⟨gb339, 1, none⟩) (Kd.R_far (p := ⟨gb339, 0, none⟩) (Kd.R_types HO309.out BK339.out (by decide)) (fun _ hk => hk.2) (.int .i64 t323)) (fun _ hk => hk.2) (.slice Ao53 t324.length co53)) (fun _ hk => hk.2) (.slice Ao54 t327.length co54)) (fun _ hk => hk.2) (.slice Ao55 t330.length co55)) (fun _ hk => hk.2) (.slice Ao56 t333.length co56)) (fun _ hk => hk.2) (.slice Ao57 t336.length co57)) (fun _ h_ => h_.1))) hb); have n1_ := AZ.mk (Kd.R_below (by (with_reducible repeat (first | apply Kd.R_alloc | apply Kd.R_drewN | apply Kd.R_drew)); exact (Kd.R_mono (Kd.R_far (p := ⟨gb339, 5, none⟩) (Kd.R_far (p := ⟨gb339, 4, none⟩) (Kd.R_far (p := ⟨gb339, 3, none⟩) (Kd.R_far (p := ⟨gb339, 2, none⟩) (Kd.R_far (p := ⟨gb339, 1, none⟩) (Kd.R_far (p := ⟨gb339, 0, none⟩) (Kd.R_types HO312.out BK339.out (by decide)) (fun _ hk => hk.2) (.int .i64 t323)) (fun _ hk => hk.2) (.slice Ao53 t324.length co53)) (fun _ hk => hk.2) (.slice Ao54 t327.length co54)) (fun _ hk => hk.2) (.slice Ao55 t330.length co55)) (fun _ hk => hk.2) (.slice Ao56 t333.length co56)) (fun _ hk => hk.2) (.slice Ao57 t336.length co57)) (fun _ h_ => h_.1))) hb); have n2_ := AZ.mk (Kd.R_below (by (with_reducible repeat (first | apply Kd.R_alloc | apply Kd.R_drewN | apply Kd.R_drew)); exact (Kd.R_mono (Kd.R_far (p := ⟨gb339, 5, none⟩) (Kd.R_far (p := ⟨gb339, 4, none⟩) (Kd.R_far (p := ⟨gb339, 3, none⟩) (Kd.R_far (p := ⟨gb339, 2, none⟩) (Kd.R_far (p := ⟨gb339, 1, none⟩) (Kd.R_far (p := ⟨gb339, 0, none⟩) (Kd.R_types HO315.out BK339.out (by decide)) (fun _ hk => hk.2) (.int .i64 t323)) (fun _ hk => hk.2) (.slice Ao53 t324.length co53)) (fun _ hk => hk.2) (.slice Ao54 t327.length co54)) (fun _ hk => hk.2) (.slice Ao55 t330.length co55)) (fun _ hk => hk.2) (.slice Ao56 t333.length co56)) (fun _ hk => hk.2) (.slice Ao57 t336.length co57)) (fun _ h_ => h_.1))) hb); have n3_ := AZ.mk (Kd.R_below (by (with_reducible repeat (first | apply Kd.R_alloc | apply Kd.R_drewN | apply Kd.R_drew)); exact (Kd.R_mono (Kd.R_far (p := ⟨gb339, 5, none⟩) (Kd.R_far (p := ⟨gb339, 4, none⟩) (Kd.R_far (p := ⟨gb339, 3, none⟩) (Kd.R_far (p := ⟨gb339, 2, none⟩) (Kd.R_far (p := ⟨gb339, 1, none⟩) (Kd.R_far (p := ⟨gb339, 0, none⟩) (Kd.R_types HO318.out BK339.out (by decide)) (fun _ hk => hk.2) (.int .i64 t323)) (fun _ hk => hk.2) (.slice Ao53 t324.length co53)) (fun _ hk => hk.2) (.slice Ao54 t327.length co54)) (fun _ hk => hk.2) (.slice Ao55 t330.length co55)) (fun _ hk => hk.2) (.slice Ao56 t333.length co56)) (fun _ hk => hk.2) (.slice Ao57 t336.length co57)) (fun _ h_ => h_.1))) hb); have n4_ := AZ.mk (Kd.R_below (by (with_reducible repeat (first | apply Kd.R_alloc | apply Kd.R_drewN | apply Kd.R_drew)); exact (Kd.R_mono (Kd.R_far (p := ⟨gb339, 5, none⟩) (Kd.R_far (p := ⟨gb339, 4, none⟩) (Kd.R_far (p := ⟨gb339, 3, none⟩) (Kd.R_far (p := ⟨gb339, 2, none⟩) (Kd.R_far (p := ⟨gb339, 1, none⟩) (Kd.R_far (p := ⟨gb339, 0, none⟩) (Kd.R_types HO321.out BK339.out (by decide)) (fun _ hk => hk.2) (.int .i64 t323)) (fun _ hk => hk.2) (.slice Ao53 t324.length co53)) (fun _ hk => hk.2) (.slice Ao54 t327.length co54)) (fun _ hk => hk.2) (.slice Ao55 t330.length co55)) (fun _ hk => hk.2) (.slice Ao56 t333.length co56)) (fun _ hk => hk.2) (.slice Ao57 t336.length co57)) (fun _ h_ => h_.1))) hb); have n5_ := AZ.mk (Kd.R_below (by (with_reducible repeat (first | apply Kd.R_alloc | apply Kd.R_drewN | apply Kd.R_drew)); exact (Kd.R_mono (Kd.R_far (p := ⟨gb339, 5, none⟩) (Kd.R_far (p := ⟨gb339, 4, none⟩) (Kd.R_far (p := ⟨gb339, 3, none⟩) (Kd.R_far (p := ⟨gb339, 2, none⟩) (Kd.R_far (p := ⟨gb339, 1, none⟩) (Kd.R_far (p := ⟨gb339, 0, none⟩) (Kd.R_types HO326.out BK339.out (by decide)) (fun _ hk => hk.2) (.int .i64 t323)) (fun _ hk => hk.2) (.slice Ao53 t324.length co53)) (fun _ hk => hk.2) (.slice Ao54 t327.length co54)) (fun _ hk => hk.2) (.slice Ao55 t330.length co55)) (fun _ hk => hk.2) (.slice Ao56 t333.length co56)) (fun _ hk => hk.2) (.slice Ao57 t336.length co57)) (fun _ h_ => h_.1))) hb); have n6_ := AZ.mk (Kd.R_below (by (with_reducible repeat (first | apply Kd.R_alloc | apply Kd.R_drewN | apply Kd.R_drew)); exact (Kd.R_mono (Kd.R_far (p := ⟨gb339, 5, none⟩) (Kd.R_far (p := ⟨gb339, 4, none⟩) (Kd.R_far (p := ⟨gb339, 3, none⟩) (Kd.R_far (p := ⟨gb339, 2, none⟩) (Kd.R_far (p := ⟨gb339, 1, none⟩) (Kd.R_far (p := ⟨gb339, 0, none⟩) (Kd.R_types HO329.out BK339.out (by decide)) (fun _ hk => hk.2) (.int .i64 t323)) (fun _ hk => hk.2) (.slice Ao53 t324.length co53)) (fun _ hk => hk.2) (.slice Ao54 t327.length co54)) (fun _ hk => hk.2) (.slice Ao55 t330.length co55)) (fun _ hk => hk.2) (.slice Ao56 t333.length co56)) (fun _ hk => hk.2) (.slice Ao57 t336.length co57)) (fun _ h_ => h_.1))) hb); have n7_ := AZ.mk (Kd.R_below (by (with_reducible repeat (first | apply Kd.R_alloc | apply Kd.R_drewN | apply Kd.R_drew)); exact (Kd.R_mono (Kd.R_far (p := ⟨gb339, 5, none⟩) (Kd.R_far (p := ⟨gb339, 4, none⟩) (Kd.R_far (p := ⟨gb339, 3, none⟩) (Kd.R_far (p := ⟨gb339, 2, none⟩) (Kd.R_far (p := ⟨gb339, 1, none⟩) (Kd.R_far (p := ⟨gb339, 0, none⟩) (Kd.R_types HO332.out BK339.out (by decide)) (fun _ hk => hk.2) (.int .i64 t323)) (fun _ hk => hk.2) (.slice Ao53 t324.length co53)) (fun _ hk => hk.2) (.slice Ao54 t327.length co54)) (fun _ hk => hk.2) (.slice Ao55 t330.length co55)) (fun _ hk => hk.2) (.slice Ao56 t333.length co56)) (fun _ hk => hk.2) (.slice Ao57 t336.length co57)) (fun _ h_ => h_.1))) hb); have n8_ := AZ.mk (Kd.R_below (by (with_reducible repeat (first | apply Kd.R_alloc | apply Kd.R_drewN | apply Kd.R_drew)); exact (Kd.R_mono (Kd.R_far (p := ⟨gb339, 5, none⟩) (Kd.R_far (p := ⟨gb339, 4, none⟩) (Kd.R_far (p := ⟨gb339, 3, none⟩) (Kd.R_far (p := ⟨gb339, 2, none⟩) (Kd.R_far (p := ⟨gb339, 1, none⟩) (Kd.R_far (p := ⟨gb339, 0, none⟩) (Kd.R_types HO335.out BK339.out (by decide)) (fun _ hk => hk.2) (.int .i64 t323)) (fun _ hk => hk.2) (.slice Ao53 t324.length co53)) (fun _ hk => hk.2) (.slice Ao54 t327.length co54)) (fun _ hk => hk.2) (.slice Ao55 t330.length co55)) (fun _ hk => hk.2) (.slice Ao56 t333.length co56)) (fun _ hk => hk.2) (.slice Ao57 t336.length co57)) (fun _ h_ => h_.1))) hb); have n9_ := AZ.mk (Kd.R_below (by (with_reducible repeat (first | apply Kd.R_alloc | apply Kd.R_drewN | apply Kd.R_drew)); exact (Kd.R_mono (Kd.R_far (p := ⟨gb339, 5, none⟩) (Kd.R_far (p := ⟨gb339, 4, none⟩) (Kd.R_far (p := ⟨gb339, 3, none⟩) (Kd.R_far (p := ⟨gb339, 2, none⟩) (Kd.R_far (p := ⟨gb339, 1, none⟩) (Kd.R_far (p := ⟨gb339, 0, none⟩) (Kd.R_types HO338.out BK339.out (by decide)) (fun _ hk => hk.2) (.int .i64 t323)) (fun _ hk => hk.2) (.slice Ao53 t324.length co53)) (fun _ hk => hk.2) (.slice Ao54 t327.length co54)) (fun _ hk => hk.2) (.slice Ao55 t330.length co55)) (fun _ hk => hk.2) (.slice Ao56 t333.length co56)) (fun _ hk => hk.2) (.slice Ao57 t336.length co57)) (fun _ h_ => h_.1))) hb); have n10_ := AZ.mk (bb_ (g := gb304) (o := .cells #[.int .i64 a0_0, .slice A0_1 l0_1.length c0_1, .slice A0_2 l0_2.length c0_2, .slice A0_3 l0_3.length c0_3, .slice A0_4 l0_4.length c0_4, .slice A0_5 l0_5.length c0_5] 28 (0, 0)) (by (with_reducible repeat (first | refine bn_ ?_ _ | refine bd_ ?_ | refine ba_ ?_ _)); refine blk_far ?_ NB304_339.out _; (with_reducible repeat (first | refine bn_ ?_ _ | refine bd_ ?_ | refine ba_ ?_ _)); refine blk_far ?_ NB304_339.out _; (with_reducible repeat (first | refine bn_ ?_ _ | refine bd_ ?_ | refine ba_ ?_ _)); refine blk_far ?_ NB304_339.out _; (with_reducible repeat (first | refine bn_ ?_ _ | refine bd_ ?_ | refine ba_ ?_ _)); refine blk_far ?_ NB304_339.out _; (with_reducible repeat (first | refine bn_ ?_ _ | refine bd_ ?_ | refine ba_ ?_ _)); refine blk_far ?_ NB304_339.out _; (with_reducible repeat (first | refine bn_ ?_ _ | refine bd_ ?_ | refine ba_ ?_ _)); refine blk_far ?_ NB304_339.out _; (with_reducible repeat (first | refine bn_ ?_ _ | refine bd_ ?_ | refine ba_ ?_ _)); exact BK304.out) hb); have n11_ := AZ.mk (bb_ (g := gb339) (o := .cells #[.int .i64 t323, .slice Ao53 t324.length co53, .slice Ao54 t327.length co54, .slice Ao55 t330.length co55, .slice Ao56 t333.length co56, .slice Ao57 t336.length co57] 33 (0, 0)) (by (with_reducible repeat (first | refine bn_ ?_ _ | refine bd_ ?_ | refine ba_ ?_ _)); refine blk_put (cs := #[.int .i64 t323, .slice Ao53 t324.length co53, .slice Ao54 t327.length co54, .slice Ao55 t330.length co55, .slice Ao56 t333.length co56, .slice none 0 0]) ?_ 5 _ rfl; (with_reducible repeat (first | refine bn_ ?_ _ | refine bd_ ?_ | refine ba_ ?_ _)); refine blk_put (cs := #[.int .i64 t323, .slice Ao53 t324.length co53, .slice Ao54 t327.length co54, .slice Ao55 t330.length co55, .slice none 0 0, .slice none 0 0]) ?_ 4 _ rfl; (with_reducible repeat (first | refine bn_ ?_ _ | refine bd_ ?_ | refine ba_ ?_ _)); refine blk_put (cs := #[.int .i64 t323, .slice Ao53 t324.length co53, .slice Ao54 t327.length co54, .slice none 0 0, .slice none 0 0, .slice none 0 0]) ?_ 3 _ rfl; (with_reducible repeat (first | refine bn_ ?_ _ | refine bd_ ?_ | refine ba_ ?_ _)); refine blk_put (cs := #[.int .i64 t323, .slice Ao53 t324.length co53, .slice none 0 0, .slice none 0 0, .slice none 0 0, .slice none 0 0]) ?_ 2 _ rfl; (with_reducible repeat (first | refine bn_ ?_ _ | refine bd_ ?_ | refine ba_ ?_ _)); refine blk_put (cs := #[.int .i64 t323, .slice none 0 0, .slice none 0 0, .slice none 0 0, .slice none 0 0, .slice none 0 0]) ?_ 1 _ rfl; (with_reducible repeat (first | refine bn_ ?_ _ | refine bd_ ?_ | refine ba_ ?_ _)); refine blk_put (cs := #[.int .i64 0, .slice none 0 0, .slice none 0 0, .slice none 0 0, .slice none 0 0, .slice none 0 0]) ?_ 0 _ rfl; (with_reducible repeat (first | refine bn_ ?_ _ | refine bd_ ?_ | refine ba_ ?_ _)); exact BK339.out) hb); have n12_ := AZ.mk (pT (by repeat (first | (with_reducible first | exact HB.out | apply pA | apply pN | apply pD | refine pS ?_ GE304.out | refine pS ?_ GE339.out) | exact HB.out)) hb); clear HO309; clear HO312; clear HO315; clear HO318; clear HO321; clear HO326; clear HO329; clear HO332; clear HO335; clear HO338; clear BK304; clear BK339; clear HB; have HO309 := n0_; have HO312 := n1_; have HO315 := n2_; have HO318 := n3_; have HO321 := n4_; have HO326 := n5_; have HO329 := n6_; have HO332 := n7_; have HO335 := n8_; have HO338 := n9_; have BK304 := n10_; have BK339 := n11_; have HB := n12_; clear n0_ n1_ n2_ n3_ n4_ n5_ n6_ n7_ n8_ n9_ n10_ n11_ n12_; (try clear hb); (try clear hb2); (try clear hk); (try clear hi)))
  have n0_ := AZ.mk (Kd.R_drew HO309.out)
  have n1_ := AZ.mk (Kd.R_drew HO312.out)
  have n2_ := AZ.mk (Kd.R_drew HO315.out)
  have n3_ := AZ.mk (Kd.R_drew HO318.out)
  have n4_ := AZ.mk (Kd.R_drew HO321.out)
  have n5_ := AZ.mk (Kd.R_drew HO326.out)
  have n6_ := AZ.mk (Kd.R_drew HO329.out)
  have n7_ := AZ.mk (Kd.R_drew HO332.out)
  have n8_ := AZ.mk (Kd.R_drew HO335.out)
  have n9_ := AZ.mk (Kd.R_drew HO338.out)
  have n10_ := AZ.mk (bd_ BK304.out)
  have n11_ := AZ.mk (bd_ BK339.out)
  have n12_ := AZ.mk (pD HB.out)
  clear HO309
  clear HO312
  clear HO315
  clear HO318
  clear HO321
  clear HO326
  clear HO329
  clear HO332
  clear HO335
  clear HO338
  clear BK304
  clear BK339
  clear HB
  have HO309 := n0_
  have HO312 := n1_
  have HO315 := n2_
  have HO318 := n3_
  have HO321 := n4_
  have HO326 := n5_
  have HO329 := n6_
  have HO332 := n7_
  have HO335 := n8_
  have HO338 := n9_
  have BK304 := n10_
  have BK339 := n11_
  have HB := n12_
  clear n0_ n1_ n2_ n3_ n4_ n5_ n6_ n7_ n8_ n9_ n10_ n11_ n12_
  refine start_ (n := 5) (S := fun w' => w'.cell? ⟨gb339, 0, none⟩ = some (.int .i64 t323) ∧ w'.cell? ⟨gb339, 1, none⟩ = some (.slice Ao53 t324.length co53) ∧ w'.cell? ⟨gb339, 2, none⟩ = some (.slice Ao54 t327.length co54) ∧ w'.cell? ⟨gb339, 3, none⟩ = some (.slice Ao55 t330.length co55) ∧ w'.cell? ⟨gb339, 4, none⟩ = some (.slice Ao56 t333.length co56) ∧ w'.cell? ⟨gb339, 5, none⟩ = some (.slice Ao57 t336.length co57) ∧ w'.cell? ⟨gb304, 0, none⟩ = some (.int .i64 a0_0) ∧ w'.cell? ⟨gb304, 1, none⟩ = some (.slice A0_1 l0_1.length c0_1) ∧ w'.cell? ⟨gb304, 2, none⟩ = some (.slice A0_2 l0_2.length c0_2) ∧ w'.cell? ⟨gb304, 3, none⟩ = some (.slice A0_3 l0_3.length c0_3) ∧ w'.cell? ⟨gb304, 4, none⟩ = some (.slice A0_4 l0_4.length c0_4) ∧ w'.cell? ⟨gb304, 5, none⟩ = some (.slice A0_5 l0_5.length c0_5)) (ds := []) #[false, false, false, false, false] (by kernel_rfl) rfl rfl ⟨(bc BK339.out 0).trans rfl, (bc BK339.out 1).trans rfl, (bc BK339.out 2).trans rfl, (bc BK339.out 3).trans rfl, (bc BK339.out 4).trans rfl, (bc BK339.out 5).trans rfl, (bc BK304.out 0).trans rfl, (bc BK304.out 1).trans rfl, (bc BK304.out 2).trans rfl, (bc BK304.out 3).trans rfl, (bc BK304.out 4).trans rfl, (bc BK304.out 5).trans rfl⟩ (fun hHeld => ?_)
  generalize w58.drew = w59 at HO309 HO312 HO315 HO318 HO321 HO326 HO329 HO332 HO335 HO338 BK304 BK339 HB hHeld ⊢
  refine take_ (i := 0) (N := some 22) (v := ?_) (a' := ?_) #[true, false, false, false, false] rfl rfl (by kernel_rfl) (fun _ _ _ h => h) (Or.inl ⟨by rfl, ?_⟩) hHeld ?_ ?_
  rotate_left
  ·rintro w' ⟨s0, s1, s2, s3, s4, s5, s6, s7, s8, s9, s10, s11⟩
   go_simp
   with_reducible rfl
  rotate_left
  ·simp only [Act.put, sA, sB, sC, i64_w, i32_w]
   rfl
  refine take_ (i := 1) (N := some 23) (v := ?_) (a' := ?_) #[true, true, false, false, false] rfl rfl (by kernel_rfl) (fun _ _ _ h => h) (Or.inl ⟨by rfl, ?_⟩) hHeld ?_ ?_
  rotate_left
  ·rintro w' ⟨s0, s1, s2, s3, s4, s5, s6, s7, s8, s9, s10, s11⟩
   go_simp
   with_reducible rfl
  rotate_left
  ·simp only [Act.put, sA, sB, sC, i64_w, i32_w]
   rfl
  refine one_ (i := 2) (N := some 24) #[true, true, true, false, false] rfl rfl (by kernel_rfl) (by decide) (fun K hK => ?_)
  refine goes_ Try.func6 (by kernel_rfl) rfl #[.agg #[.int .i64 a0_0, .slice A0_1 l0_1.length c0_1, .slice A0_2 l0_2.length c0_2, .slice A0_3 l0_3.length c0_3, .slice A0_4 l0_4.length c0_4, .slice A0_5 l0_5.length c0_5]] (by rfl) rfl rfl (by (try simp only [List.map_toArray, List.map_cons, List.map_nil]); first | done | rfl | (simp only [List.length_drop, List.length_take]; rfl)) ?_
  with_reducible refine (laws_toChoices.calls k a0_0 _ _ l0_1 _ _ l0_2 _ _ l0_3 _ _ l0_4 _ _ l0_5 t341 t342 t345 t348 t351 t354 _ ?side1 ?side2 ?side3 ?side4 ?side5 ?side6 ?side7 ?side8 ?side9 ?side10 A34.out).mono ?_
  (case side1 => repeat (first | exact (Kd.C_below HR0_1.out HB.out) | (with_reducible refine Kd.C_alloc ?_ _) | (with_reducible refine Kd.C_drewN ?_ _) | (with_reducible refine Kd.C_drew ?_)))
  (case side2 => exact HC0_1.out)
  (case side3 => repeat (first | exact (Kd.C_below HR0_2.out HB.out) | (with_reducible refine Kd.C_alloc ?_ _) | (with_reducible refine Kd.C_drewN ?_ _) | (with_reducible refine Kd.C_drew ?_)))
  (case side4 => exact HC0_2.out)
  (case side5 => repeat (first | exact (Kd.C_below HR0_3.out HB.out) | (with_reducible refine Kd.C_alloc ?_ _) | (with_reducible refine Kd.C_drewN ?_ _) | (with_reducible refine Kd.C_drew ?_)))
  (case side6 => exact HC0_3.out)
  (case side7 => repeat (first | exact (Kd.C_below HR0_4.out HB.out) | (with_reducible refine Kd.C_alloc ?_ _) | (with_reducible refine Kd.C_drewN ?_ _) | (with_reducible refine Kd.C_drew ?_)))
  (case side8 => exact HC0_4.out)
  (case side9 => repeat (first | exact (Kd.C_below HR0_5.out HB.out) | (with_reducible refine Kd.C_alloc ?_ _) | (with_reducible refine Kd.C_drewN ?_ _) | (with_reducible refine Kd.C_drew ?_)))
  (case side10 => exact HC0_5.out)
  rintro e w60 ⟨v343, v346, v349, v352, v355, rfl, ho0, ho1, ho2, ho3, ho4, hb⟩
  refine ⟨_, rfl, ?_⟩
  have n0_ := AZ.mk (Kd.R_elder' (by (with_reducible repeat (first | apply Kd.R_alloc | apply Kd.R_drewN | apply Kd.R_drew)); exact HO309.out) (Kd.R_base ho0) hb)
  have n1_ := AZ.mk (Kd.R_elder' (by (with_reducible repeat (first | apply Kd.R_alloc | apply Kd.R_drewN | apply Kd.R_drew)); exact HO312.out) (Kd.R_base ho1) hb)
  have n2_ := AZ.mk (Kd.R_elder' (by (with_reducible repeat (first | apply Kd.R_alloc | apply Kd.R_drewN | apply Kd.R_drew)); exact HO315.out) (Kd.R_base ho2) hb)
  have n3_ := AZ.mk (Kd.R_mono (Kd.R_told (Kd.R_told (Kd.R_told (Kd.R_old (by (with_reducible repeat (first | apply Kd.R_alloc | apply Kd.R_drewN | apply Kd.R_drew)); exact HO318.out) hb) (Kd.R_base ho0)) (Kd.R_base ho3)) (Kd.R_base ho4)) (fun _ h_ => h_.1))
  have n4_ := AZ.mk (Kd.R_mono (Kd.R_told (Kd.R_told (Kd.R_old (by (with_reducible repeat (first | apply Kd.R_alloc | apply Kd.R_drewN | apply Kd.R_drew)); exact HO321.out) hb) (Kd.R_base ho0)) (Kd.R_base ho4)) (fun _ h_ => h_.1))
  have n5_ := AZ.mk (Kd.R_elder' (by (with_reducible repeat (first | apply Kd.R_alloc | apply Kd.R_drewN | apply Kd.R_drew)); exact HO326.out) (Kd.R_base ho0) hb)
  have n6_ := AZ.mk (Kd.R_elder' (by (with_reducible repeat (first | apply Kd.R_alloc | apply Kd.R_drewN | apply Kd.R_drew)); exact HO329.out) (Kd.R_base ho1) hb)
  have n7_ := AZ.mk (Kd.R_elder' (by (with_reducible repeat (first | apply Kd.R_alloc | apply Kd.R_drewN | apply Kd.R_drew)); exact HO332.out) (Kd.R_base ho2) hb)
  have n8_ := AZ.mk (Kd.R_mono (Kd.R_told (Kd.R_told (Kd.R_told (Kd.R_old (by (with_reducible repeat (first | apply Kd.R_alloc | apply Kd.R_drewN | apply Kd.R_drew)); exact HO335.out) hb) (Kd.R_base ho0)) (Kd.R_base ho3)) (Kd.R_base ho4)) (fun _ h_ => h_.1))
  have n9_ := AZ.mk (Kd.R_mono (Kd.R_told (Kd.R_told (Kd.R_old (by (with_reducible repeat (first | apply Kd.R_alloc | apply Kd.R_drewN | apply Kd.R_drew)); exact HO338.out) hb) (Kd.R_base ho0)) (Kd.R_base ho4)) (fun _ h_ => h_.1))
  have n10_ := AZ.mk (Kd.R_lower (Kd.R_new' (Kd.R_new' ho0 (Kd.R_lt (by (with_reducible repeat (first | apply Kd.R_alloc | apply Kd.R_drewN | apply Kd.R_drew)); exact HO309.out))) (Kd.R_lt (by (with_reducible repeat (first | apply Kd.R_alloc | apply Kd.R_drewN | apply Kd.R_drew)); exact HO326.out))) (pZ (by repeat (first | (with_reducible first | exact HB.out | apply pA | apply pN | apply pD | refine pS ?_ GE304.out | refine pS ?_ GE339.out) | exact HB.out))))
  have n11_ := AZ.mk (Kd.R_lower (Kd.R_new' (Kd.R_new' ho1 (Kd.R_lt (by (with_reducible repeat (first | apply Kd.R_alloc | apply Kd.R_drewN | apply Kd.R_drew)); exact HO312.out))) (Kd.R_lt (by (with_reducible repeat (first | apply Kd.R_alloc | apply Kd.R_drewN | apply Kd.R_drew)); exact HO329.out))) (pZ (by repeat (first | (with_reducible first | exact HB.out | apply pA | apply pN | apply pD | refine pS ?_ GE304.out | refine pS ?_ GE339.out) | exact HB.out))))
  have n12_ := AZ.mk (Kd.R_lower (Kd.R_new' (Kd.R_new' ho2 (Kd.R_lt (by (with_reducible repeat (first | apply Kd.R_alloc | apply Kd.R_drewN | apply Kd.R_drew)); exact HO315.out))) (Kd.R_lt (by (with_reducible repeat (first | apply Kd.R_alloc | apply Kd.R_drewN | apply Kd.R_drew)); exact HO332.out))) (pZ (by repeat (first | (with_reducible first | exact HB.out | apply pA | apply pN | apply pD | refine pS ?_ GE304.out | refine pS ?_ GE339.out) | exact HB.out))))
  have n13_ := AZ.mk (Kd.R_lower (Kd.R_new' (Kd.R_new' (Kd.R_new' (Kd.R_new' (Kd.R_new' (Kd.R_new' ho3 (Kd.R_lt (by (with_reducible repeat (first | apply Kd.R_alloc | apply Kd.R_drewN | apply Kd.R_drew)); exact HO309.out))) (Kd.R_lt (by (with_reducible repeat (first | apply Kd.R_alloc | apply Kd.R_drewN | apply Kd.R_drew)); exact HO318.out))) (Kd.R_lt (by (with_reducible repeat (first | apply Kd.R_alloc | apply Kd.R_drewN | apply Kd.R_drew)); exact HO321.out))) (Kd.R_lt (by (with_reducible repeat (first | apply Kd.R_alloc | apply Kd.R_drewN | apply Kd.R_drew)); exact HO326.out))) (Kd.R_lt (by (with_reducible repeat (first | apply Kd.R_alloc | apply Kd.R_drewN | apply Kd.R_drew)); exact HO335.out))) (Kd.R_lt (by (with_reducible repeat (first | apply Kd.R_alloc | apply Kd.R_drewN | apply Kd.R_drew)); exact HO338.out))) (pZ (by repeat (first | (with_reducible first | exact HB.out | apply pA | apply pN | apply pD | refine pS ?_ GE304.out | refine pS ?_ GE339.out) | exact HB.out))))
  have n14_ := AZ.mk (Kd.R_lower (Kd.R_new' (Kd.R_new' (Kd.R_new' (Kd.R_new' ho4 (Kd.R_lt (by (with_reducible repeat (first | apply Kd.R_alloc | apply Kd.R_drewN | apply Kd.R_drew)); exact HO309.out))) (Kd.R_lt (by (with_reducible repeat (first | apply Kd.R_alloc | apply Kd.R_drewN | apply Kd.R_drew)); exact HO321.out))) (Kd.R_lt (by (with_reducible repeat (first | apply Kd.R_alloc | apply Kd.R_drewN | apply Kd.R_drew)); exact HO326.out))) (Kd.R_lt (by (with_reducible repeat (first | apply Kd.R_alloc | apply Kd.R_drewN | apply Kd.R_drew)); exact HO338.out))) (pZ (by repeat (first | (with_reducible first | exact HB.out | apply pA | apply pN | apply pD | refine pS ?_ GE304.out | refine pS ?_ GE339.out) | exact HB.out))))
  have n15_ := AZ.mk (bb_ (g := gb304) (o := .cells #[.int .i64 a0_0, .slice A0_1 l0_1.length c0_1, .slice A0_2 l0_2.length c0_2, .slice A0_3 l0_3.length c0_3, .slice A0_4 l0_4.length c0_4, .slice A0_5 l0_5.length c0_5] 28 (0, 0)) (by (with_reducible repeat (first | refine bn_ ?_ _ | refine bd_ ?_ | refine ba_ ?_ _)); exact BK304.out) hb)
  have n16_ := AZ.mk (bb_ (g := gb339) (o := .cells #[.int .i64 t323, .slice Ao53 t324.length co53, .slice Ao54 t327.length co54, .slice Ao55 t330.length co55, .slice Ao56 t333.length co56, .slice Ao57 t336.length co57] 33 (0, 0)) (by (with_reducible repeat (first | refine bn_ ?_ _ | refine bd_ ?_ | refine ba_ ?_ _)); exact BK339.out) hb)
  have n17_ := AZ.mk (pT (by repeat (first | (with_reducible first | exact HB.out | apply pA | apply pN | apply pD | refine pS ?_ GE304.out | refine pS ?_ GE339.out) | exact HB.out)) hb)
  clear HO309
  clear HO312
  clear HO315
  clear HO318
  clear HO321
  clear HO326
  clear HO329
  clear HO332
  clear HO335
  clear HO338
  clear BK304
  clear BK339
  clear HB
  have HO309 := n0_
  have HO312 := n1_
  have HO315 := n2_
  have HO318 := n3_
  have HO321 := n4_
  have HO326 := n5_
  have HO329 := n6_
  have HO332 := n7_
  have HO335 := n8_
  have HO338 := n9_
  have HO344 := n10_
  have HO347 := n11_
  have HO350 := n12_
  have HO353 := n13_
  have HO356 := n14_
  have BK304 := n15_
  have BK339 := n16_
  have HB := n17_
  clear n0_ n1_ n2_ n3_ n4_ n5_ n6_ n7_ n8_ n9_ n10_ n11_ n12_ n13_ n14_ n15_ n16_ n17_
  (try clear hb)
  (try clear hb2)
  (try clear hk)
  (try clear hi)
  (try clear ho0)
  (try clear ho1)
  (try clear ho2)
  (try clear ho3)
  (try clear ho4)
  obtain ⟨Ao61, co61, eo61⟩ := Kd.R_slice HO344.out
  (first | subst eo61 | (injection eo61 with f1_ f2_ f3_; have f4_ := f1_.symm; have f5_ := f3_.symm; clear f1_ f2_ f3_; subst f4_; subst f5_))
  obtain ⟨Ao62, co62, eo62⟩ := Kd.R_slice HO347.out
  (first | subst eo62 | (injection eo62 with f1_ f2_ f3_; have f4_ := f1_.symm; have f5_ := f3_.symm; clear f1_ f2_ f3_; subst f4_; subst f5_))
  obtain ⟨Ao63, co63, eo63⟩ := Kd.R_slice HO350.out
  (first | subst eo63 | (injection eo63 with f1_ f2_ f3_; have f4_ := f1_.symm; have f5_ := f3_.symm; clear f1_ f2_ f3_; subst f4_; subst f5_))
  obtain ⟨Ao64, co64, eo64⟩ := Kd.R_slice HO353.out
  (first | subst eo64 | (injection eo64 with f1_ f2_ f3_; have f4_ := f1_.symm; have f5_ := f3_.symm; clear f1_ f2_ f3_; subst f4_; subst f5_))
  obtain ⟨Ao65, co65, eo65⟩ := Kd.R_slice HO356.out
  (first | subst eo65 | (injection eo65 with f1_ f2_ f3_; have f4_ := f1_.symm; have f5_ := f3_.symm; clear f1_ f2_ f3_; subst f4_; subst f5_))
  refine hK.out _ _ ⟨(bc BK339.out 0).trans rfl, (bc BK339.out 1).trans rfl, (bc BK339.out 2).trans rfl, (bc BK339.out 3).trans rfl, (bc BK339.out 4).trans rfl, (bc BK339.out 5).trans rfl, (bc BK304.out 0).trans rfl, (bc BK304.out 1).trans rfl, (bc BK304.out 2).trans rfl, (bc BK304.out 3).trans rfl, (bc BK304.out 4).trans rfl, (bc BK304.out 5).trans rfl⟩ (fun hHeld => ?_)
  clear hK K
  refine norm_ (a' := ?_) ?_ ?_
  rotate_left
  ·show Act.put _ (some 24) _ = _
   simp only [Act.put, sA, sB, sC, i64_w, i32_w]
   rfl
  refine one_ (i := 3) (N := some 25) #[true, true, true, true, false] rfl rfl (by kernel_rfl) (by decide) (fun K hK => ?_)
  refine goes_ Try.func8 (by kernel_rfl) rfl #[.agg #[.int .i64 t323, .slice Ao53 t324.length co53, .slice Ao54 t327.length co54, .slice Ao55 t330.length co55, .slice Ao56 t333.length co56, .slice Ao57 t336.length co57], .agg #[.int .i64 t341, .slice Ao61 t342.length co61, .slice Ao62 t345.length co62, .slice Ao63 t348.length co63, .slice Ao64 t351.length co64, .slice Ao65 t354.length co65]] (by rfl) rfl rfl (by (try simp only [List.map_toArray, List.map_cons, List.map_nil]); first | done | rfl | (simp only [List.length_drop, List.length_take]; rfl)) ?_
  with_reducible refine (laws_eqChoices.calls k t323 _ _ t324 _ _ t327 _ _ t330 _ _ t333 _ _ t336 t341 _ _ t342 _ _ t345 _ _ t348 _ _ t351 _ _ t354 true _ ?side1 ?side2 ?side3 ?side4 ?side5 ?side6 ?side7 ?side8 ?side9 ?side10 ?side11 ?side12 ?side13 ?side14 ?side15 ?side16 ?side17 ?side18 ?side19 ?side20 A35.out).mono ?_
  (case side1 => repeat (first | exact (Kd.R_reads' HO326.out).2.2 | (with_reducible refine Kd.C_alloc ?_ _) | (with_reducible refine Kd.C_drewN ?_ _) | (with_reducible refine Kd.C_drew ?_)))
  (case side2 => exact (Kd.R_reads' HO326.out).2.1)
  (case side3 => repeat (first | exact (Kd.R_reads' HO329.out).2.2 | (with_reducible refine Kd.C_alloc ?_ _) | (with_reducible refine Kd.C_drewN ?_ _) | (with_reducible refine Kd.C_drew ?_)))
  (case side4 => exact (Kd.R_reads' HO329.out).2.1)
  (case side5 => repeat (first | exact (Kd.R_reads' HO332.out).2.2 | (with_reducible refine Kd.C_alloc ?_ _) | (with_reducible refine Kd.C_drewN ?_ _) | (with_reducible refine Kd.C_drew ?_)))
  (case side6 => exact (Kd.R_reads' HO332.out).2.1)
  (case side7 => repeat (first | exact (Kd.R_reads' HO335.out).2.2 | (with_reducible refine Kd.C_alloc ?_ _) | (with_reducible refine Kd.C_drewN ?_ _) | (with_reducible refine Kd.C_drew ?_)))
  (case side8 => exact (Kd.R_reads' HO335.out).2.1)
  (case side9 => repeat (first | exact (Kd.R_reads' HO338.out).2.2 | (with_reducible refine Kd.C_alloc ?_ _) | (with_reducible refine Kd.C_drewN ?_ _) | (with_reducible refine Kd.C_drew ?_)))
  (case side10 => exact (Kd.R_reads' HO338.out).2.1)
  (case side11 => repeat (first | exact (Kd.R_reads' HO344.out).2.2 | (with_reducible refine Kd.C_alloc ?_ _) | (with_reducible refine Kd.C_drewN ?_ _) | (with_reducible refine Kd.C_drew ?_)))
  (case side12 => exact (Kd.R_reads' HO344.out).2.1)
  (case side13 => repeat (first | exact (Kd.R_reads' HO347.out).2.2 | (with_reducible refine Kd.C_alloc ?_ _) | (with_reducible refine Kd.C_drewN ?_ _) | (with_reducible refine Kd.C_drew ?_)))
  (case side14 => exact (Kd.R_reads' HO347.out).2.1)
  (case side15 => repeat (first | exact (Kd.R_reads' HO350.out).2.2 | (with_reducible refine Kd.C_alloc ?_ _) | (with_reducible refine Kd.C_drewN ?_ _) | (with_reducible refine Kd.C_drew ?_)))
  (case side16 => exact (Kd.R_reads' HO350.out).2.1)
  (case side17 => repeat (first | exact (Kd.R_reads' HO353.out).2.2 | (with_reducible refine Kd.C_alloc ?_ _) | (with_reducible refine Kd.C_drewN ?_ _) | (with_reducible refine Kd.C_drew ?_)))
  (case side18 => exact (Kd.R_reads' HO353.out).2.1)
  (case side19 => repeat (first | exact (Kd.R_reads' HO356.out).2.2 | (with_reducible refine Kd.C_alloc ?_ _) | (with_reducible refine Kd.C_drewN ?_ _) | (with_reducible refine Kd.C_drew ?_)))
  (case side20 => exact (Kd.R_reads' HO356.out).2.1)
  rintro e w66 ⟨rfl, hb⟩
  refine ⟨_, rfl, ?_⟩
  have n0_ := AZ.mk (Kd.R_below (by (with_reducible repeat (first | apply Kd.R_alloc | apply Kd.R_drewN | apply Kd.R_drew)); exact HO309.out) hb)
  have n1_ := AZ.mk (Kd.R_below (by (with_reducible repeat (first | apply Kd.R_alloc | apply Kd.R_drewN | apply Kd.R_drew)); exact HO312.out) hb)
  have n2_ := AZ.mk (Kd.R_below (by (with_reducible repeat (first | apply Kd.R_alloc | apply Kd.R_drewN | apply Kd.R_drew)); exact HO315.out) hb)
  have n3_ := AZ.mk (Kd.R_below (by (with_reducible repeat (first | apply Kd.R_alloc | apply Kd.R_drewN | apply Kd.R_drew)); exact HO318.out) hb)
  have n4_ := AZ.mk (Kd.R_below (by (with_reducible repeat (first | apply Kd.R_alloc | apply Kd.R_drewN | apply Kd.R_drew)); exact HO321.out) hb)
  have n5_ := AZ.mk (Kd.R_below (by (with_reducible repeat (first | apply Kd.R_alloc | apply Kd.R_drewN | apply Kd.R_drew)); exact HO326.out) hb)
  have n6_ := AZ.mk (Kd.R_below (by (with_reducible repeat (first | apply Kd.R_alloc | apply Kd.R_drewN | apply Kd.R_drew)); exact HO329.out) hb)
  have n7_ := AZ.mk (Kd.R_below (by (with_reducible repeat (first | apply Kd.R_alloc | apply Kd.R_drewN | apply Kd.R_drew)); exact HO332.out) hb)
  have n8_ := AZ.mk (Kd.R_below (by (with_reducible repeat (first | apply Kd.R_alloc | apply Kd.R_drewN | apply Kd.R_drew)); exact HO335.out) hb)
  have n9_ := AZ.mk (Kd.R_below (by (with_reducible repeat (first | apply Kd.R_alloc | apply Kd.R_drewN | apply Kd.R_drew)); exact HO338.out) hb)
  have n10_ := AZ.mk (Kd.R_below (by (with_reducible repeat (first | apply Kd.R_alloc | apply Kd.R_drewN | apply Kd.R_drew)); exact HO344.out) hb)
  have n11_ := AZ.mk (Kd.R_below (by (with_reducible repeat (first | apply Kd.R_alloc | apply Kd.R_drewN | apply Kd.R_drew)); exact HO347.out) hb)
  have n12_ := AZ.mk (Kd.R_below (by (with_reducible repeat (first | apply Kd.R_alloc | apply Kd.R_drewN | apply Kd.R_drew)); exact HO350.out) hb)
  have n13_ := AZ.mk (Kd.R_below (by (with_reducible repeat (first | apply Kd.R_alloc | apply Kd.R_drewN | apply Kd.R_drew)); exact HO353.out) hb)
  have n14_ := AZ.mk (Kd.R_below (by (with_reducible repeat (first | apply Kd.R_alloc | apply Kd.R_drewN | apply Kd.R_drew)); exact HO356.out) hb)
  have n15_ := AZ.mk (bb_ (g := gb304) (o := .cells #[.int .i64 a0_0, .slice A0_1 l0_1.length c0_1, .slice A0_2 l0_2.length c0_2, .slice A0_3 l0_3.length c0_3, .slice A0_4 l0_4.length c0_4, .slice A0_5 l0_5.length c0_5] 28 (0, 0)) (by (with_reducible repeat (first | refine bn_ ?_ _ | refine bd_ ?_ | refine ba_ ?_ _)); exact BK304.out) hb)
  have n16_ := AZ.mk (bb_ (g := gb339) (o := .cells #[.int .i64 t323, .slice Ao53 t324.length co53, .slice Ao54 t327.length co54, .slice Ao55 t330.length co55, .slice Ao56 t333.length co56, .slice Ao57 t336.length co57] 33 (0, 0)) (by (with_reducible repeat (first | refine bn_ ?_ _ | refine bd_ ?_ | refine ba_ ?_ _)); exact BK339.out) hb)
  have n17_ := AZ.mk (pT (by repeat (first | (with_reducible first | exact HB.out | apply pA | apply pN | apply pD | refine pS ?_ GE304.out | refine pS ?_ GE339.out) | exact HB.out)) hb)
  clear HO309
  clear HO312
  clear HO315
  clear HO318
  clear HO321
  clear HO326
  clear HO329
  clear HO332
  clear HO335
  clear HO338
  clear HO344
  clear HO347
  clear HO350
  clear HO353
  clear HO356
  clear BK304
  clear BK339
  clear HB
  have HO309 := n0_
  have HO312 := n1_
  have HO315 := n2_
  have HO318 := n3_
  have HO321 := n4_
  have HO326 := n5_
  have HO329 := n6_
  have HO332 := n7_
  have HO335 := n8_
  have HO338 := n9_
  have HO344 := n10_
  have HO347 := n11_
  have HO350 := n12_
  have HO353 := n13_
  have HO356 := n14_
  have BK304 := n15_
  have BK339 := n16_
  have HB := n17_
  clear n0_ n1_ n2_ n3_ n4_ n5_ n6_ n7_ n8_ n9_ n10_ n11_ n12_ n13_ n14_ n15_ n16_ n17_
  (try clear hb)
  (try clear hb2)
  (try clear hk)
  (try clear hi)
  refine hK.out _ _ ⟨(bc BK339.out 0).trans rfl, (bc BK339.out 1).trans rfl, (bc BK339.out 2).trans rfl, (bc BK339.out 3).trans rfl, (bc BK339.out 4).trans rfl, (bc BK339.out 5).trans rfl, (bc BK304.out 0).trans rfl, (bc BK304.out 1).trans rfl, (bc BK304.out 2).trans rfl, (bc BK304.out 3).trans rfl, (bc BK304.out 4).trans rfl, (bc BK304.out 5).trans rfl⟩ (fun hHeld => ?_)
  clear hK K
  refine norm_ (a' := ?_) ?_ ?_
  rotate_left
  ·show Act.put _ (some 25) _ = _
   simp only [Act.put, sA, sB, sC, i64_w, i32_w]
   rfl
  refine pure_ (i := 4) (N := some 26) (v := ?_) (a' := ?_) #[true, true, true, true, true] rfl rfl (by kernel_rfl) (fun _ _ _ h => h) (Or.inl ⟨by rfl, ?_⟩) ?_ ?_
  rotate_left
  ·intro w'
   go_simp
   with_reducible rfl
  rotate_left
  ·simp only [Act.put, sA, sB, sC, i64_w, i32_w]
   rfl
  refine done_ (by kernel_rfl) ?_
  try go_wp2
  go_ret
  exact ⟨by first | rfl | (simp [errW_none, errW_some] <;> rfl) | (simp [*, errW_none, errW_some] <;> rfl), by repeat (first | (with_reducible first | exact HB.out | apply pA | apply pN | apply pD | refine pS ?_ GE304.out | refine pS ?_ GE339.out) | exact HB.out)⟩
 replace c36 := Bool.eq_false_iff.mpr c36
 subst c36
 have H1 : (some false) = some r := by rw [if_neg (show ¬ (false = true) by decide)] at H; exact H
 clear H
 have H := H1
 clear H1
 obtain rfl := Option.some.inj H
 go_enter Try.func3, Try.ntmps3
 try go_wp2_with (first | ((with_reducible refine gate_dst (N := 1) rfl ?_); refine box_event ?hg (N := 1) ?hd (cs := #[.int .i64 a0_0, .slice A0_1 l0_1.length c0_1, .slice A0_2 l0_2.length c0_2, .slice A0_3 l0_3.length c0_3, .slice A0_4 l0_4.length c0_4, .slice A0_5 l0_5.length c0_5]) (t := 28) ?hr ?_; (case hd => rfl); (case hg => rfl); (case hr => first | (go_simp; done) | (go_simp; rfl)); intro gb304 hg w67 hbox hb; have n0_ := AZ.mk (pT (by repeat (first | (with_reducible first | exact HB.out | apply pA | apply pN | apply pD) | exact HB.out)) hb); have n1_ := AZ.mk (hbox); have n2_ := AZ.mk ((by rw [hg]; exact (pZ (by repeat (first | (with_reducible first | exact HB.out | apply pA | apply pN | apply pD) | exact HB.out))) : w.heap.size ≤ gb304)); have n3_ := AZ.mk ((by rw [hg]; exact (pZ (by repeat (first | (with_reducible first | exact HB.out | apply pA | apply pN | apply pD) | exact HB.out))) : w.heap.size ≤ gb304)); clear HB; have HB := n0_; have BK304 := n1_; have GW304 := n2_; have GE304 := n3_; clear n0_ n1_ n2_ n3_; clear hb hbox hg; obtain ⟨hcz68_0, hcz68_1, hcz68_2, hcz68_3, hcz68_4, hcz68_5⟩ := c6 BK304.out; obtain ⟨hfz68_0, hfz68_1, hfz68_2, hfz68_3, hfz68_4, hfz68_5⟩ := f6 BK304.out) | ((with_reducible refine gate_callee (f := 4) rfl ?_); refine goesL_ (some 9) rfl rfl Try.func4 (by kernel_rfl) rfl #[.agg #[.int .i64 a0_0, .slice A0_1 l0_1.length c0_1, .slice A0_2 l0_2.length c0_2, .slice A0_3 l0_3.length c0_3, .slice A0_4 l0_4.length c0_4, .slice A0_5 l0_5.length c0_5], .int .i64 1048576] rfl (by (try simp only [List.map_toArray, List.map_cons, List.map_nil]); first | done | rfl | (simp only [List.length_drop, List.length_take]; rfl)) ?_; (with_reducible refine (laws_szChoices.calls k a0_0 _ _ l0_1 _ _ l0_2 _ _ l0_3 _ _ l0_4 _ _ l0_5 1048576 t305 _ ?side1 ?side2 ?side3 ?side4 ?side5 ?side6 ?side7 ?side8 ?side9 ?side10 A2.out).mono ?_); (case side1 => repeat (first | exact (Kd.C_below HR0_1.out HB.out) | (with_reducible refine Kd.C_alloc ?_ _) | (with_reducible refine Kd.C_drewN ?_ _) | (with_reducible refine Kd.C_drew ?_))); (case side2 => exact HC0_1.out); (case side3 => repeat (first | exact (Kd.C_below HR0_2.out HB.out) | (with_reducible refine Kd.C_alloc ?_ _) | (with_reducible refine Kd.C_drewN ?_ _) | (with_reducible refine Kd.C_drew ?_))); (case side4 => exact HC0_2.out); (case side5 => repeat (first | exact (Kd.C_below HR0_3.out HB.out) | (with_reducible refine Kd.C_alloc ?_ _) | (with_reducible refine Kd.C_drewN ?_ _) | (with_reducible refine Kd.C_drew ?_))); (case side6 => exact HC0_3.out); (case side7 => repeat (first | exact (Kd.C_below HR0_4.out HB.out) | (with_reducible refine Kd.C_alloc ?_ _) | (with_reducible refine Kd.C_drewN ?_ _) | (with_reducible refine Kd.C_drew ?_))); (case side8 => exact HC0_4.out); (case side9 => repeat (first | exact (Kd.C_below HR0_5.out HB.out) | (with_reducible refine Kd.C_alloc ?_ _) | (with_reducible refine Kd.C_drewN ?_ _) | (with_reducible refine Kd.C_drew ?_))); (case side10 => exact HC0_5.out); rintro e w69 ⟨rfl, hb⟩; refine ⟨_, rfl, ?_⟩; have n0_ := AZ.mk (bb_ (g := gb304) (o := .cells #[.int .i64 a0_0, .slice A0_1 l0_1.length c0_1, .slice A0_2 l0_2.length c0_2, .slice A0_3 l0_3.length c0_3, .slice A0_4 l0_4.length c0_4, .slice A0_5 l0_5.length c0_5] 28 (0, 0)) (by (with_reducible repeat (first | refine bn_ ?_ _ | refine bd_ ?_ | refine ba_ ?_ _)); exact BK304.out) hb); have n1_ := AZ.mk (pT (by repeat (first | (with_reducible first | exact HB.out | apply pA | apply pN | apply pD | refine pS ?_ GE304.out) | exact HB.out)) hb); clear BK304; clear HB; have BK304 := n0_; have HB := n1_; clear n0_ n1_; (try clear hb); (try clear hb2); (try clear hk); (try clear hi); obtain ⟨hcz70_0, hcz70_1, hcz70_2, hcz70_3, hcz70_4, hcz70_5⟩ := c6 BK304.out; obtain ⟨hfz70_0, hfz70_1, hfz70_2, hfz70_3, hfz70_4, hfz70_5⟩ := f6 BK304.out) | ((with_reducible refine gate_callee (f := 6) rfl ?_); refine goesL_ (some 13) rfl rfl Try.func6 (by kernel_rfl) rfl #[.agg #[.int .i64 a0_0, .slice A0_1 l0_1.length c0_1, .slice A0_2 l0_2.length c0_2, .slice A0_3 l0_3.length c0_3, .slice A0_4 l0_4.length c0_4, .slice A0_5 l0_5.length c0_5]] rfl (by (try simp only [List.map_toArray, List.map_cons, List.map_nil]); first | done | rfl | (simp only [List.length_drop, List.length_take]; rfl)) ?_; (with_reducible refine (laws_toChoices.calls k a0_0 _ _ l0_1 _ _ l0_2 _ _ l0_3 _ _ l0_4 _ _ l0_5 t306 t307 t310 t313 t316 t319 _ ?side1 ?side2 ?side3 ?side4 ?side5 ?side6 ?side7 ?side8 ?side9 ?side10 A7.out).mono ?_); (case side1 => repeat (first | exact (Kd.C_below HR0_1.out HB.out) | (with_reducible refine Kd.C_alloc ?_ _) | (with_reducible refine Kd.C_drewN ?_ _) | (with_reducible refine Kd.C_drew ?_))); (case side2 => exact HC0_1.out); (case side3 => repeat (first | exact (Kd.C_below HR0_2.out HB.out) | (with_reducible refine Kd.C_alloc ?_ _) | (with_reducible refine Kd.C_drewN ?_ _) | (with_reducible refine Kd.C_drew ?_))); (case side4 => exact HC0_2.out); (case side5 => repeat (first | exact (Kd.C_below HR0_3.out HB.out) | (with_reducible refine Kd.C_alloc ?_ _) | (with_reducible refine Kd.C_drewN ?_ _) | (with_reducible refine Kd.C_drew ?_))); (case side6 => exact HC0_3.out); (case side7 => repeat (first | exact (Kd.C_below HR0_4.out HB.out) | (with_reducible refine Kd.C_alloc ?_ _) | (with_reducible refine Kd.C_drewN ?_ _) | (with_reducible refine Kd.C_drew ?_))); (case side8 => exact HC0_4.out); (case side9 => repeat (first | exact (Kd.C_below HR0_5.out HB.out) | (with_reducible refine Kd.C_alloc ?_ _) | (with_reducible refine Kd.C_drewN ?_ _) | (with_reducible refine Kd.C_drew ?_))); (case side10 => exact HC0_5.out); rintro e w71 ⟨v308, v311, v314, v317, v320, rfl, ho0, ho1, ho2, ho3, ho4, hb⟩; refine ⟨_, rfl, ?_⟩; have n0_ := AZ.mk (Kd.R_lower ho0 (pZ (by repeat (first | (with_reducible first | exact HB.out | apply pA | apply pN | apply pD | refine pS ?_ GE304.out) | exact HB.out)))); have n1_ := AZ.mk (Kd.R_lower ho1 (pZ (by repeat (first | (with_reducible first | exact HB.out | apply pA | apply pN | apply pD | refine pS ?_ GE304.out) | exact HB.out)))); have n2_ := AZ.mk (Kd.R_lower ho2 (pZ (by repeat (first | (with_reducible first | exact HB.out | apply pA | apply pN | apply pD | refine pS ?_ GE304.out) | exact HB.out)))); have n3_ := AZ.mk (Kd.R_lower ho3 (pZ (by repeat (first | (with_reducible first | exact HB.out | apply pA | apply pN | apply pD | refine pS ?_ GE304.out) | exact HB.out)))); have n4_ := AZ.mk (Kd.R_lower ho4 (pZ (by repeat (first | (with_reducible first | exact HB.out | apply pA | apply pN | apply pD | refine pS ?_ GE304.out) | exact HB.out)))); have n5_ := AZ.mk (bb_ (g := gb304) (o := .cells #[.int .i64 a0_0, .slice A0_1 l0_1.length c0_1, .slice A0_2 l0_2.length c0_2, .slice A0_3 l0_3.length c0_3, .slice A0_4 l0_4.length c0_4, .slice A0_5 l0_5.length c0_5] 28 (0, 0)) (by (with_reducible repeat (first | refine bn_ ?_ _ | refine bd_ ?_ | refine ba_ ?_ _)); exact BK304.out) hb); have n6_ := AZ.mk (pT (by repeat (first | (with_reducible first | exact HB.out | apply pA | apply pN | apply pD | refine pS ?_ GE304.out) | exact HB.out)) hb); clear BK304; clear HB; have HO309 := n0_; have HO312 := n1_; have HO315 := n2_; have HO318 := n3_; have HO321 := n4_; have BK304 := n5_; have HB := n6_; clear n0_ n1_ n2_ n3_ n4_ n5_ n6_; (try clear hb); (try clear hb2); (try clear hk); (try clear hi); (try clear ho0); (try clear ho1); (try clear ho2); (try clear ho3); (try clear ho4); obtain ⟨Ao72, co72, eo72⟩ := Kd.R_slice HO309.out; subst eo72; obtain ⟨Ao73, co73, eo73⟩ := Kd.R_slice HO312.out; subst eo73; obtain ⟨Ao74, co74, eo74⟩ := Kd.R_slice HO315.out; subst eo74; obtain ⟨Ao75, co75, eo75⟩ := Kd.R_slice HO318.out; subst eo75; obtain ⟨Ao76, co76, eo76⟩ := Kd.R_slice HO321.out; subst eo76) | ((with_reducible refine gate_callee (f := 5) rfl ?_); refine goesL_ (some 14) rfl rfl Try.func5 (by kernel_rfl) rfl #[.agg #[.int .i64 t306, .slice Ao72 t307.length co72, .slice Ao73 t310.length co73, .slice Ao74 t313.length co74, .slice Ao75 t316.length co75, .slice Ao76 t319.length co76]] rfl (by (try simp only [List.map_toArray, List.map_cons, List.map_nil]); first | done | rfl | (simp only [List.length_drop, List.length_take]; rfl)) ?_; (with_reducible refine (spec_ValidChoices.calls k t306 _ _ t307 _ _ t310 _ _ t313 _ _ t316 _ _ t319 t322 _ ?side1 ?side2 ?side3 ?side4 ?side5 ?side6 ?side7 ?side8 ?side9 ?side10 A8.out).mono ?_); (case side1 => repeat (first | exact (Kd.R_reads' HO309.out).2.2 | (with_reducible refine Kd.C_alloc ?_ _) | (with_reducible refine Kd.C_drewN ?_ _) | (with_reducible refine Kd.C_drew ?_))); (case side2 => exact (Kd.R_reads' HO309.out).2.1); (case side3 => repeat (first | exact (Kd.R_reads' HO312.out).2.2 | (with_reducible refine Kd.C_alloc ?_ _) | (with_reducible refine Kd.C_drewN ?_ _) | (with_reducible refine Kd.C_drew ?_))); (case side4 => exact (Kd.R_reads' HO312.out).2.1); (case side5 => repeat (first | exact (Kd.R_reads' HO315.out).2.2 | (with_reducible refine Kd.C_alloc ?_ _) | (with_reducible refine Kd.C_drewN ?_ _) | (with_reducible refine Kd.C_drew ?_))); (case side6 => exact (Kd.R_reads' HO315.out).2.1); (case side7 => repeat (first | exact (Kd.R_reads' HO318.out).2.2 | (with_reducible refine Kd.C_alloc ?_ _) | (with_reducible refine Kd.C_drewN ?_ _) | (with_reducible refine Kd.C_drew ?_))); (case side8 => exact (Kd.R_reads' HO318.out).2.1); (case side9 => repeat (first | exact (Kd.R_reads' HO321.out).2.2 | (with_reducible refine Kd.C_alloc ?_ _) | (with_reducible refine Kd.C_drewN ?_ _) | (with_reducible refine Kd.C_drew ?_))); (case side10 => exact (Kd.R_reads' HO321.out).2.1); rintro e w77 ⟨rfl, hb⟩; refine ⟨_, rfl, ?_⟩; have n0_ := AZ.mk (Kd.R_below (by (with_reducible repeat (first | apply Kd.R_alloc | apply Kd.R_drewN | apply Kd.R_drew)); exact HO309.out) hb); have n1_ := AZ.mk (Kd.R_below (by (with_reducible repeat (first | apply Kd.R_alloc | apply Kd.R_drewN | apply Kd.R_drew)); exact HO312.out) hb); have n2_ := AZ.mk (Kd.R_below (by (with_reducible repeat (first | apply Kd.R_alloc | apply Kd.R_drewN | apply Kd.R_drew)); exact HO315.out) hb); have n3_ := AZ.mk (Kd.R_below (by (with_reducible repeat (first | apply Kd.R_alloc | apply Kd.R_drewN | apply Kd.R_drew)); exact HO318.out) hb); have n4_ := AZ.mk (Kd.R_below (by (with_reducible repeat (first | apply Kd.R_alloc | apply Kd.R_drewN | apply Kd.R_drew)); exact HO321.out) hb); have n5_ := AZ.mk (bb_ (g := gb304) (o := .cells #[.int .i64 a0_0, .slice A0_1 l0_1.length c0_1, .slice A0_2 l0_2.length c0_2, .slice A0_3 l0_3.length c0_3, .slice A0_4 l0_4.length c0_4, .slice A0_5 l0_5.length c0_5] 28 (0, 0)) (by (with_reducible repeat (first | refine bn_ ?_ _ | refine bd_ ?_ | refine ba_ ?_ _)); exact BK304.out) hb); have n6_ := AZ.mk (pT (by repeat (first | (with_reducible first | exact HB.out | apply pA | apply pN | apply pD | refine pS ?_ GE304.out) | exact HB.out)) hb); clear HO309; clear HO312; clear HO315; clear HO318; clear HO321; clear BK304; clear HB; have HO309 := n0_; have HO312 := n1_; have HO315 := n2_; have HO318 := n3_; have HO321 := n4_; have BK304 := n5_; have HB := n6_; clear n0_ n1_ n2_ n3_ n4_ n5_ n6_; (try clear hb); (try clear hb2); (try clear hk); (try clear hi); obtain ⟨hcz78_0, hcz78_1, hcz78_2, hcz78_3, hcz78_4, hcz78_5⟩ := c6 BK304.out; obtain ⟨hfz78_0, hfz78_1, hfz78_2, hfz78_3, hfz78_4, hfz78_5⟩ := f6 BK304.out) | ((with_reducible refine gate_callee (f := 6) rfl ?_); refine goesL_ (some 16) rfl rfl Try.func6 (by kernel_rfl) rfl #[.agg #[.int .i64 a0_0, .slice A0_1 l0_1.length c0_1, .slice A0_2 l0_2.length c0_2, .slice A0_3 l0_3.length c0_3, .slice A0_4 l0_4.length c0_4, .slice A0_5 l0_5.length c0_5]] rfl (by (try simp only [List.map_toArray, List.map_cons, List.map_nil]); first | done | rfl | (simp only [List.length_drop, List.length_take]; rfl)) ?_; (with_reducible refine (laws_toChoices.calls k a0_0 _ _ l0_1 _ _ l0_2 _ _ l0_3 _ _ l0_4 _ _ l0_5 t323 t324 t327 t330 t333 t336 _ ?side1 ?side2 ?side3 ?side4 ?side5 ?side6 ?side7 ?side8 ?side9 ?side10 A9.out).mono ?_); (case side1 => repeat (first | exact (Kd.C_below HR0_1.out HB.out) | (with_reducible refine Kd.C_alloc ?_ _) | (with_reducible refine Kd.C_drewN ?_ _) | (with_reducible refine Kd.C_drew ?_))); (case side2 => exact HC0_1.out); (case side3 => repeat (first | exact (Kd.C_below HR0_2.out HB.out) | (with_reducible refine Kd.C_alloc ?_ _) | (with_reducible refine Kd.C_drewN ?_ _) | (with_reducible refine Kd.C_drew ?_))); (case side4 => exact HC0_2.out); (case side5 => repeat (first | exact (Kd.C_below HR0_3.out HB.out) | (with_reducible refine Kd.C_alloc ?_ _) | (with_reducible refine Kd.C_drewN ?_ _) | (with_reducible refine Kd.C_drew ?_))); (case side6 => exact HC0_3.out); (case side7 => repeat (first | exact (Kd.C_below HR0_4.out HB.out) | (with_reducible refine Kd.C_alloc ?_ _) | (with_reducible refine Kd.C_drewN ?_ _) | (with_reducible refine Kd.C_drew ?_))); (case side8 => exact HC0_4.out); (case side9 => repeat (first | exact (Kd.C_below HR0_5.out HB.out) | (with_reducible refine Kd.C_alloc ?_ _) | (with_reducible refine Kd.C_drewN ?_ _) | (with_reducible refine Kd.C_drew ?_))); (case side10 => exact HC0_5.out); rintro e w79 ⟨v325, v328, v331, v334, v337, rfl, ho0, ho1, ho2, ho3, ho4, hb⟩; refine ⟨_, rfl, ?_⟩; have n0_ := AZ.mk (Kd.R_elder' (by (with_reducible repeat (first | apply Kd.R_alloc | apply Kd.R_drewN | apply Kd.R_drew)); exact HO309.out) (Kd.R_base ho0) hb); have n1_ := AZ.mk (Kd.R_elder' (by (with_reducible repeat (first | apply Kd.R_alloc | apply Kd.R_drewN | apply Kd.R_drew)); exact HO312.out) (Kd.R_base ho1) hb); have n2_ := AZ.mk (Kd.R_elder' (by (with_reducible repeat (first | apply Kd.R_alloc | apply Kd.R_drewN | apply Kd.R_drew)); exact HO315.out) (Kd.R_base ho2) hb); have n3_ := AZ.mk (Kd.R_mono (Kd.R_told (Kd.R_told (Kd.R_told (Kd.R_old (by (with_reducible repeat (first | apply Kd.R_alloc | apply Kd.R_drewN | apply Kd.R_drew)); exact HO318.out) hb) (Kd.R_base ho0)) (Kd.R_base ho3)) (Kd.R_base ho4)) (fun _ h_ => h_.1)); have n4_ := AZ.mk (Kd.R_mono (Kd.R_told (Kd.R_told (Kd.R_old (by (with_reducible repeat (first | apply Kd.R_alloc | apply Kd.R_drewN | apply Kd.R_drew)); exact HO321.out) hb) (Kd.R_base ho0)) (Kd.R_base ho4)) (fun _ h_ => h_.1)); have n5_ := AZ.mk (Kd.R_lower (Kd.R_new' ho0 (Kd.R_lt (by (with_reducible repeat (first | apply Kd.R_alloc | apply Kd.R_drewN | apply Kd.R_drew)); exact HO309.out))) (pZ (by repeat (first | (with_reducible first | exact HB.out | apply pA | apply pN | apply pD | refine pS ?_ GE304.out) | exact HB.out)))); have n6_ := AZ.mk (Kd.R_lower (Kd.R_new' ho1 (Kd.R_lt (by (with_reducible repeat (first | apply Kd.R_alloc | apply Kd.R_drewN | apply Kd.R_drew)); exact HO312.out))) (pZ (by repeat (first | (with_reducible first | exact HB.out | apply pA | apply pN | apply pD | refine pS ?_ GE304.out) | exact HB.out)))); have n7_ := AZ.mk (Kd.R_lower (Kd.R_new' ho2 (Kd.R_lt (by (with_reducible repeat (first | apply Kd.R_alloc | apply Kd.R_drewN | apply Kd.R_drew)); exact HO315.out))) (pZ (by repeat (first | (with_reducible first | exact HB.out | apply pA | apply pN | apply pD | refine pS ?_ GE304.out) | exact HB.out)))); have n8_ := AZ.mk (Kd.R_lower (Kd.R_new' (Kd.R_new' (Kd.R_new' ho3 (Kd.R_lt (by (with_reducible repeat (first | apply Kd.R_alloc | apply Kd.R_drewN | apply Kd.R_drew)); exact HO309.out))) (Kd.R_lt (by (with_reducible repeat (first | apply Kd.R_alloc | apply Kd.R_drewN | apply Kd.R_drew)); exact HO318.out))) (Kd.R_lt (by (with_reducible repeat (first | apply Kd.R_alloc | apply Kd.R_drewN | apply Kd.R_drew)); exact HO321.out))) (pZ (by repeat (first | (with_reducible first | exact HB.out | apply pA | apply pN | apply pD | refine pS ?_ GE304.out) | exact HB.out)))); have n9_ := AZ.mk (Kd.R_lower (Kd.R_new' (Kd.R_new' ho4 (Kd.R_lt (by (with_reducible repeat (first | apply Kd.R_alloc | apply Kd.R_drewN | apply Kd.R_drew)); exact HO309.out))) (Kd.R_lt (by (with_reducible repeat (first | apply Kd.R_alloc | apply Kd.R_drewN | apply Kd.R_drew)); exact HO321.out))) (pZ (by repeat (first | (with_reducible first | exact HB.out | apply pA | apply pN | apply pD | refine pS ?_ GE304.out) | exact HB.out)))); have n10_ := AZ.mk (bb_ (g := gb304) (o := .cells #[.int .i64 a0_0, .slice A0_1 l0_1.length c0_1, .slice A0_2 l0_2.length c0_2, .slice A0_3 l0_3.length c0_3, .slice A0_4 l0_4.length c0_4, .slice A0_5 l0_5.length c0_5] 28 (0, 0)) (by (with_reducible repeat (first | refine bn_ ?_ _ | refine bd_ ?_ | refine ba_ ?_ _)); exact BK304.out) hb); have n11_ := AZ.mk (pT (by repeat (first | (with_reducible first | exact HB.out | apply pA | apply pN | apply pD | refine pS ?_ GE304.out) | exact HB.out)) hb); clear HO309; clear HO312; clear HO315; clear HO318; clear HO321; clear BK304; clear HB; have HO309 := n0_; have HO312 := n1_; have HO315 := n2_; have HO318 := n3_; have HO321 := n4_; have HO326 := n5_; have HO329 := n6_; have HO332 := n7_; have HO335 := n8_; have HO338 := n9_; have BK304 := n10_; have HB := n11_; clear n0_ n1_ n2_ n3_ n4_ n5_ n6_ n7_ n8_ n9_ n10_ n11_; (try clear hb); (try clear hb2); (try clear hk); (try clear hi); (try clear ho0); (try clear ho1); (try clear ho2); (try clear ho3); (try clear ho4)) | ((with_reducible refine gate_dst (N := 5) rfl ?_); refine box_event ?hg (N := 5) ?hd (cs := #[.int .i64 0, .slice none 0 0, .slice none 0 0, .slice none 0 0, .slice none 0 0, .slice none 0 0]) (t := 33) ?hr ?_; (case hd => rfl); (case hg => rfl); (case hr => first | (go_simp; done) | (go_simp; rfl)); intro gb339 hg w80 hbox hb; have n0_ := AZ.mk (Kd.R_below (by (with_reducible repeat (first | apply Kd.R_alloc | apply Kd.R_drewN | apply Kd.R_drew)); exact HO309.out) hb); have n1_ := AZ.mk (Kd.R_below (by (with_reducible repeat (first | apply Kd.R_alloc | apply Kd.R_drewN | apply Kd.R_drew)); exact HO312.out) hb); have n2_ := AZ.mk (Kd.R_below (by (with_reducible repeat (first | apply Kd.R_alloc | apply Kd.R_drewN | apply Kd.R_drew)); exact HO315.out) hb); have n3_ := AZ.mk (Kd.R_below (by (with_reducible repeat (first | apply Kd.R_alloc | apply Kd.R_drewN | apply Kd.R_drew)); exact HO318.out) hb); have n4_ := AZ.mk (Kd.R_below (by (with_reducible repeat (first | apply Kd.R_alloc | apply Kd.R_drewN | apply Kd.R_drew)); exact HO321.out) hb); have n5_ := AZ.mk (Kd.R_below (by (with_reducible repeat (first | apply Kd.R_alloc | apply Kd.R_drewN | apply Kd.R_drew)); exact HO326.out) hb); have n6_ := AZ.mk (Kd.R_below (by (with_reducible repeat (first | apply Kd.R_alloc | apply Kd.R_drewN | apply Kd.R_drew)); exact HO329.out) hb); have n7_ := AZ.mk (Kd.R_below (by (with_reducible repeat (first | apply Kd.R_alloc | apply Kd.R_drewN | apply Kd.R_drew)); exact HO332.out) hb); have n8_ := AZ.mk (Kd.R_below (by (with_reducible repeat (first | apply Kd.R_alloc | apply Kd.R_drewN | apply Kd.R_drew)); exact HO335.out) hb); have n9_ := AZ.mk (Kd.R_below (by (with_reducible repeat (first | apply Kd.R_alloc | apply Kd.R_drewN | apply Kd.R_drew)); exact HO338.out) hb); have n10_ := AZ.mk (bb_ (g := gb304) (o := .cells #[.int .i64 a0_0, .slice A0_1 l0_1.length c0_1, .slice A0_2 l0_2.length c0_2, .slice A0_3 l0_3.length c0_3, .slice A0_4 l0_4.length c0_4, .slice A0_5 l0_5.length c0_5] 28 (0, 0)) (by (with_reducible repeat (first | refine bn_ ?_ _ | refine bd_ ?_ | refine ba_ ?_ _)); exact BK304.out) hb); have n11_ := AZ.mk (pT (by repeat (first | (with_reducible first | exact HB.out | apply pA | apply pN | apply pD | refine pS ?_ GE304.out) | exact HB.out)) hb); have n12_ := AZ.mk (hbox); have n13_ := AZ.mk ((by rw [hg]; exact (pZ (by repeat (first | (with_reducible first | exact HB.out | apply pA | apply pN | apply pD | refine pS ?_ GE304.out) | exact HB.out))) : w.heap.size ≤ gb339)); have n14_ := AZ.mk ((by rw [hg]; exact (pZ (by repeat (first | (with_reducible first | exact HB.out | apply pA | apply pN | apply pD | refine pS ?_ GE304.out) | exact HB.out))) : w.heap.size ≤ gb339)); have n15_ := AZ.mk ((by rw [hg]; exact Nat.ne_of_lt (blk_lt (g := gb304) (o := .cells #[.int .i64 a0_0, .slice A0_1 l0_1.length c0_1, .slice A0_2 l0_2.length c0_2, .slice A0_3 l0_3.length c0_3, .slice A0_4 l0_4.length c0_4, .slice A0_5 l0_5.length c0_5] 28 (0, 0)) (by (with_reducible repeat (first | refine bn_ ?_ _ | refine bd_ ?_ | refine ba_ ?_ _)); exact BK304.out)) : gb304 ≠ gb339)); have n16_ := AZ.mk ((by rw [hg]; exact Nat.ne_of_gt (blk_lt (g := gb304) (o := .cells #[.int .i64 a0_0, .slice A0_1 l0_1.length c0_1, .slice A0_2 l0_2.length c0_2, .slice A0_3 l0_3.length c0_3, .slice A0_4 l0_4.length c0_4, .slice A0_5 l0_5.length c0_5] 28 (0, 0)) (by (with_reducible repeat (first | refine bn_ ?_ _ | refine bd_ ?_ | refine ba_ ?_ _)); exact BK304.out)) : gb339 ≠ gb304)); clear HO309; clear HO312; clear HO315; clear HO318; clear HO321; clear HO326; clear HO329; clear HO332; clear HO335; clear HO338; clear BK304; clear HB; have HO309 := n0_; have HO312 := n1_; have HO315 := n2_; have HO318 := n3_; have HO321 := n4_; have HO326 := n5_; have HO329 := n6_; have HO332 := n7_; have HO335 := n8_; have HO338 := n9_; have BK304 := n10_; have HB := n11_; have BK339 := n12_; have GW339 := n13_; have GE339 := n14_; have NB304_339 := n15_; have NB339_304 := n16_; clear n0_ n1_ n2_ n3_ n4_ n5_ n6_ n7_ n8_ n9_ n10_ n11_ n12_ n13_ n14_ n15_ n16_; clear hb hbox hg; have hnb81 := NB339_304.out; have hnc81 := NB304_339.out; obtain ⟨hcz82_0, hcz82_1, hcz82_2, hcz82_3, hcz82_4, hcz82_5⟩ := c6 BK339.out; obtain ⟨hfz82_0, hfz82_1, hfz82_2, hfz82_3, hfz82_4, hfz82_5⟩ := f6 BK339.out; obtain ⟨Ao83, co83, eo83⟩ := Kd.R_slice HO326.out; subst eo83; obtain ⟨Ao84, co84, eo84⟩ := Kd.R_slice HO329.out; subst eo84; obtain ⟨Ao85, co85, eo85⟩ := Kd.R_slice HO332.out; subst eo85; obtain ⟨Ao86, co86, eo86⟩ := Kd.R_slice HO335.out; subst eo86; obtain ⟨Ao87, co87, eo87⟩ := Kd.R_slice HO338.out; subst eo87) | ((with_reducible refine gate_callee (f := 7) rfl ?_); refine goesL_ (some 18) rfl rfl Try.func7 (by kernel_rfl) rfl #[.agg #[.int .i64 t323, .slice Ao83 t324.length co83, .slice Ao84 t327.length co84, .slice Ao85 t330.length co85, .slice Ao86 t333.length co86, .slice Ao87 t336.length co87]] rfl (by (try simp only [List.map_toArray, List.map_cons, List.map_nil]); first | done | rfl | (simp only [List.length_drop, List.length_take]; rfl)) ?_; (with_reducible refine (impl_ValidChoices.calls k t323 _ _ t324 _ _ t327 _ _ t330 _ _ t333 _ _ t336 t340 _ ?side1 ?side2 ?side3 ?side4 ?side5 ?side6 ?side7 ?side8 ?side9 ?side10 A10.out).mono ?_); (case side1 => refine (Kd.R_reads' (e := 2) (base := w.heap.size) (ok := fun k_ => (True ∧ some k_ ≠ (.slice Ao72 t307.length co72 : Value).ownBlock)) (n := t324.length) (c := co83) ?_).2.2; exact (by (with_reducible repeat (first | apply Kd.R_alloc | apply Kd.R_drewN | apply Kd.R_drew)); exact (Kd.R_mono (Kd.R_far (p := ⟨gb339, 5, none⟩) (Kd.R_far (p := ⟨gb339, 4, none⟩) (Kd.R_far (p := ⟨gb339, 3, none⟩) (Kd.R_far (p := ⟨gb339, 2, none⟩) (Kd.R_far (p := ⟨gb339, 1, none⟩) (Kd.R_far (p := ⟨gb339, 0, none⟩) (Kd.R_types HO326.out BK339.out (by decide)) (fun _ hk => hk.2) (.int .i64 t323)) (fun _ hk => hk.2) (.slice Ao83 t324.length co83)) (fun _ hk => hk.2) (.slice Ao84 t327.length co84)) (fun _ hk => hk.2) (.slice Ao85 t330.length co85)) (fun _ hk => hk.2) (.slice Ao86 t333.length co86)) (fun _ hk => hk.2) (.slice Ao87 t336.length co87)) (fun _ h_ => h_.1)))); (case side2 => exact (Kd.R_reads' HO326.out).2.1); (case side3 => refine (Kd.R_reads' (e := 4) (base := w.heap.size) (ok := fun k_ => (True ∧ some k_ ≠ (.slice Ao73 t310.length co73 : Value).ownBlock)) (n := t327.length) (c := co84) ?_).2.2; exact (by (with_reducible repeat (first | apply Kd.R_alloc | apply Kd.R_drewN | apply Kd.R_drew)); exact (Kd.R_mono (Kd.R_far (p := ⟨gb339, 5, none⟩) (Kd.R_far (p := ⟨gb339, 4, none⟩) (Kd.R_far (p := ⟨gb339, 3, none⟩) (Kd.R_far (p := ⟨gb339, 2, none⟩) (Kd.R_far (p := ⟨gb339, 1, none⟩) (Kd.R_far (p := ⟨gb339, 0, none⟩) (Kd.R_types HO329.out BK339.out (by decide)) (fun _ hk => hk.2) (.int .i64 t323)) (fun _ hk => hk.2) (.slice Ao83 t324.length co83)) (fun _ hk => hk.2) (.slice Ao84 t327.length co84)) (fun _ hk => hk.2) (.slice Ao85 t330.length co85)) (fun _ hk => hk.2) (.slice Ao86 t333.length co86)) (fun _ hk => hk.2) (.slice Ao87 t336.length co87)) (fun _ h_ => h_.1)))); (case side4 => exact (Kd.R_reads' HO329.out).2.1); (case side5 => refine (Kd.R_reads' (e := 53) (base := w.heap.size) (ok := fun k_ => (True ∧ some k_ ≠ (.slice Ao74 t313.length co74 : Value).ownBlock)) (n := t330.length) (c := co85) ?_).2.2; exact (by (with_reducible repeat (first | apply Kd.R_alloc | apply Kd.R_drewN | apply Kd.R_drew)); exact (Kd.R_mono (Kd.R_far (p := ⟨gb339, 5, none⟩) (Kd.R_far (p := ⟨gb339, 4, none⟩) (Kd.R_far (p := ⟨gb339, 3, none⟩) (Kd.R_far (p := ⟨gb339, 2, none⟩) (Kd.R_far (p := ⟨gb339, 1, none⟩) (Kd.R_far (p := ⟨gb339, 0, none⟩) (Kd.R_types HO332.out BK339.out (by decide)) (fun _ hk => hk.2) (.int .i64 t323)) (fun _ hk => hk.2) (.slice Ao83 t324.length co83)) (fun _ hk => hk.2) (.slice Ao84 t327.length co84)) (fun _ hk => hk.2) (.slice Ao85 t330.length co85)) (fun _ hk => hk.2) (.slice Ao86 t333.length co86)) (fun _ hk => hk.2) (.slice Ao87 t336.length co87)) (fun _ h_ => h_.1)))); (case side6 => exact (Kd.R_reads' HO332.out).2.1); (case side7 => refine (Kd.R_reads' (e := 26) (base := w.heap.size) (ok := fun k_ => ((((some k_ ≠ (.slice Ao83 t324.length co83 : Value).ownBlock ∧ some k_ ≠ (.slice Ao87 t336.length co87 : Value).ownBlock) ∧ some k_ ≠ (.slice Ao72 t307.length co72 : Value).ownBlock) ∧ some k_ ≠ (.slice Ao75 t316.length co75 : Value).ownBlock) ∧ some k_ ≠ (.slice Ao76 t319.length co76 : Value).ownBlock)) (n := t333.length) (c := co86) ?_).2.2; exact (by (with_reducible repeat (first | apply Kd.R_alloc | apply Kd.R_drewN | apply Kd.R_drew)); exact (Kd.R_mono (Kd.R_far (p := ⟨gb339, 5, none⟩) (Kd.R_far (p := ⟨gb339, 4, none⟩) (Kd.R_far (p := ⟨gb339, 3, none⟩) (Kd.R_far (p := ⟨gb339, 2, none⟩) (Kd.R_far (p := ⟨gb339, 1, none⟩) (Kd.R_far (p := ⟨gb339, 0, none⟩) (Kd.R_types HO335.out BK339.out (by decide)) (fun _ hk => hk.2) (.int .i64 t323)) (fun _ hk => hk.2) (.slice Ao83 t324.length co83)) (fun _ hk => hk.2) (.slice Ao84 t327.length co84)) (fun _ hk => hk.2) (.slice Ao85 t330.length co85)) (fun _ hk => hk.2) (.slice Ao86 t333.length co86)) (fun _ hk => hk.2) (.slice Ao87 t336.length co87)) (fun _ h_ => h_.1)))); (case side8 => exact (Kd.R_reads' HO335.out).2.1); (case side9 => refine (Kd.R_reads' (e := 56) (base := w.heap.size) (ok := fun k_ => ((some k_ ≠ (.slice Ao83 t324.length co83 : Value).ownBlock ∧ some k_ ≠ (.slice Ao72 t307.length co72 : Value).ownBlock) ∧ some k_ ≠ (.slice Ao76 t319.length co76 : Value).ownBlock)) (n := t336.length) (c := co87) ?_).2.2; exact (by (with_reducible repeat (first | apply Kd.R_alloc | apply Kd.R_drewN | apply Kd.R_drew)); exact (Kd.R_mono (Kd.R_far (p := ⟨gb339, 5, none⟩) (Kd.R_far (p := ⟨gb339, 4, none⟩) (Kd.R_far (p := ⟨gb339, 3, none⟩) (Kd.R_far (p := ⟨gb339, 2, none⟩) (Kd.R_far (p := ⟨gb339, 1, none⟩) (Kd.R_far (p := ⟨gb339, 0, none⟩) (Kd.R_types HO338.out BK339.out (by decide)) (fun _ hk => hk.2) (.int .i64 t323)) (fun _ hk => hk.2) (.slice Ao83 t324.length co83)) (fun _ hk => hk.2) (.slice Ao84 t327.length co84)) (fun _ hk => hk.2) (.slice Ao85 t330.length co85)) (fun _ hk => hk.2) (.slice Ao86 t333.length co86)) (fun _ hk => hk.2) (.slice Ao87 t336.length co87)) (fun _ h_ => h_.1)))); (case side10 => exact (Kd.R_reads' HO338.out).2.1); rintro e w88 ⟨rfl, hb⟩; refine ⟨_, rfl, ?_⟩; have n0_ := AZ.mk (Kd.R_below (by (with_reducible repeat (first | apply Kd.R_alloc | apply Kd.R_drewN | apply Kd.R_drew)); exact (Kd.R_mono (Kd.R_far (p := ⟨gb339, 5, none⟩) (Kd.R_far (p := ⟨gb339, 4, none⟩) (Kd.R_far (p := ⟨gb339, 3, none⟩) (Kd.R_far (p := ⟨gb339, 2, none⟩) (Kd.R_far (p := ⟨gb339, 1, none⟩) (Kd.R_far (p := ⟨gb339, 0, none⟩) (Kd.R_types HO309.out BK339.out (by decide)) (fun _ hk => hk.2) (.int .i64 t323)) (fun _ hk => hk.2) (.slice Ao83 t324.length co83)) (fun _ hk => hk.2) (.slice Ao84 t327.length co84)) (fun _ hk => hk.2) (.slice Ao85 t330.length co85)) (fun _ hk => hk.2) (.slice Ao86 t333.length co86)) (fun _ hk => hk.2) (.slice Ao87 t336.length co87)) (fun _ h_ => h_.1))) hb); have n1_ := AZ.mk (Kd.R_below (by (with_reducible repeat (first | apply Kd.R_alloc | apply Kd.R_drewN | apply Kd.R_drew)); exact (Kd.R_mono (Kd.R_far (p := ⟨gb339, 5, none⟩) (Kd.R_far (p := ⟨gb339, 4, none⟩) (Kd.R_far (p := ⟨gb339, 3, none⟩) (Kd.R_far (p := ⟨gb339, 2, none⟩) (Kd.R_far (p := ⟨gb339, 1, none⟩) (Kd.R_far (p := ⟨gb339, 0, none⟩) (Kd.R_types HO312.out BK339.out (by decide)) (fun _ hk => hk.2) (.int .i64 t323)) (fun _ hk => hk.2) (.slice Ao83 t324.length co83)) (fun _ hk => hk.2) (.slice Ao84 t327.length co84)) (fun _ hk => hk.2) (.slice Ao85 t330.length co85)) (fun _ hk => hk.2) (.slice Ao86 t333.length co86)) (fun _ hk => hk.2) (.slice Ao87 t336.length co87)) (fun _ h_ => h_.1))) hb); have n2_ := AZ.mk (Kd.R_below (by (with_reducible repeat (first | apply Kd.R_alloc | apply Kd.R_drewN | apply Kd.R_drew)); exact (Kd.R_mono (Kd.R_far (p := ⟨gb339, 5, none⟩) (Kd.R_far (p := ⟨gb339, 4, none⟩) (Kd.R_far (p := ⟨gb339, 3, none⟩) (Kd.R_far (p := ⟨gb339, 2, none⟩) (Kd.R_far (p := ⟨gb339, 1, none⟩) (Kd.R_far (p := ⟨gb339, 0, none⟩) (Kd.R_types HO315.out BK339.out (by decide)) (fun _ hk => hk.2) (.int .i64 t323)) (fun _ hk => hk.2) (.slice Ao83 t324.length co83)) (fun _ hk => hk.2) (.slice Ao84 t327.length co84)) (fun _ hk => hk.2) (.slice Ao85 t330.length co85)) (fun _ hk => hk.2) (.slice Ao86 t333.length co86)) (fun _ hk => hk.2) (.slice Ao87 t336.length co87)) (fun _ h_ => h_.1))) hb); have n3_ := AZ.mk (Kd.R_below (by (with_reducible repeat (first | apply Kd.R_alloc | apply Kd.R_drewN | apply Kd.R_drew)); exact (Kd.R_mono (Kd.R_far (p := ⟨gb339, 5, none⟩) (Kd.R_far (p := ⟨gb339, 4, none⟩) (Kd.R_far (p := ⟨gb339, 3, none⟩) (Kd.R_far (p := ⟨gb339, 2, none⟩) (Kd.R_far (p := ⟨gb339, 1, none⟩) (Kd.R_far (p := ⟨gb339, 0, none⟩) (Kd.R_types HO318.out BK339.out (by decide)) (fun _ hk => hk.2) (.int .i64 t323)) (fun _ hk => hk.2) (.slice Ao83 t324.length co83)) (fun _ hk => hk.2) (.slice Ao84 t327.length co84)) (fun _ hk => hk.2) (.slice Ao85 t330.length co85)) (fun _ hk => hk.2) (.slice Ao86 t333.length co86)) (fun _ hk => hk.2) (.slice Ao87 t336.length co87)) (fun _ h_ => h_.1))) hb); have n4_ := AZ.mk (Kd.R_below (by (with_reducible repeat (first | apply Kd.R_alloc | apply Kd.R_drewN | apply Kd.R_drew)); exact (Kd.R_mono (Kd.R_far (p := ⟨gb339, 5, none⟩) (Kd.R_far (p := ⟨gb339, 4, none⟩) (Kd.R_far (p := ⟨gb339, 3, none⟩) (Kd.R_far (p := ⟨gb339, 2, none⟩) (Kd.R_far (p := ⟨gb339, 1, none⟩) (Kd.R_far (p := ⟨gb339, 0, none⟩) (Kd.R_types HO321.out BK339.out (by decide)) (fun _ hk => hk.2) (.int .i64 t323)) (fun _ hk => hk.2) (.slice Ao83 t324.length co83)) (fun _ hk => hk.2) (.slice Ao84 t327.length co84)) (fun _ hk => hk.2) (.slice Ao85 t330.length co85)) (fun _ hk => hk.2) (.slice Ao86 t333.length co86)) (fun _ hk => hk.2) (.slice Ao87 t336.length co87)) (fun _ h_ => h_.1))) hb); have n5_ := AZ.mk (Kd.R_below (by (with_reducible repeat (first | apply Kd.R_alloc | apply Kd.R_drewN | apply Kd.R_drew)); exact (Kd.R_mono (Kd.R_far (p := ⟨gb339, 5, none⟩) (Kd.R_far (p := ⟨gb339, 4, none⟩) (Kd.R_far (p := ⟨gb339, 3, none⟩) (Kd.R_far (p := ⟨gb339, 2, none⟩) (Kd.R_far (p := ⟨gb339, 1, none⟩) (Kd.R_far (p := ⟨gb339, 0, none⟩) (Kd.R_types HO326.out BK339.out (by decide)) (fun _ hk => hk.2) (.int .i64 t323)) (fun _ hk => hk.2) (.slice Ao83 t324.length co83)) (fun _ hk => hk.2) (.slice Ao84 t327.length co84)) (fun _ hk => hk.2) (.slice Ao85 t330.length co85)) (fun _ hk => hk.2) (.slice Ao86 t333.length co86)) (fun _ hk => hk.2) (.slice Ao87 t336.length co87)) (fun _ h_ => h_.1))) hb); have n6_ := AZ.mk (Kd.R_below (by (with_reducible repeat (first | apply Kd.R_alloc | apply Kd.R_drewN | apply Kd.R_drew)); exact (Kd.R_mono (Kd.R_far (p := ⟨gb339, 5, none⟩) (Kd.R_far (p := ⟨gb339, 4, none⟩) (Kd.R_far (p := ⟨gb339, 3, none⟩) (Kd.R_far (p := ⟨gb339, 2, none⟩) (Kd.R_far (p := ⟨gb339, 1, none⟩) (Kd.R_far (p := ⟨gb339, 0, none⟩) (Kd.R_types HO329.out BK339.out (by decide)) (fun _ hk => hk.2) (.int .i64 t323)) (fun _ hk => hk.2) (.slice Ao83 t324.length co83)) (fun _ hk => hk.2) (.slice Ao84 t327.length co84)) (fun _ hk => hk.2) (.slice Ao85 t330.length co85)) (fun _ hk => hk.2) (.slice Ao86 t333.length co86)) (fun _ hk => hk.2) (.slice Ao87 t336.length co87)) (fun _ h_ => h_.1))) hb); have n7_ := AZ.mk (Kd.R_below (by (with_reducible repeat (first | apply Kd.R_alloc | apply Kd.R_drewN | apply Kd.R_drew)); exact (Kd.R_mono (Kd.R_far (p := ⟨gb339, 5, none⟩) (Kd.R_far (p := ⟨gb339, 4, none⟩) (Kd.R_far (p := ⟨gb339, 3, none⟩) (Kd.R_far (p := ⟨gb339, 2, none⟩) (Kd.R_far (p := ⟨gb339, 1, none⟩) (Kd.R_far (p := ⟨gb339, 0, none⟩) (Kd.R_types HO332.out BK339.out (by decide)) (fun _ hk => hk.2) (.int .i64 t323)) (fun _ hk => hk.2) (.slice Ao83 t324.length co83)) (fun _ hk => hk.2) (.slice Ao84 t327.length co84)) (fun _ hk => hk.2) (.slice Ao85 t330.length co85)) (fun _ hk => hk.2) (.slice Ao86 t333.length co86)) (fun _ hk => hk.2) (.slice Ao87 t336.length co87)) (fun _ h_ => h_.1))) hb); have n8_ := AZ.mk (Kd.R_below (by (with_reducible repeat (first | apply Kd.R_alloc | apply Kd.R_drewN | apply Kd.R_drew)); exact (Kd.R_mono (Kd.R_far (p := ⟨gb339, 5, none⟩) (Kd.R_far (p := ⟨gb339, 4, none⟩) (Kd.R_far (p := ⟨gb339, 3, none⟩) (Kd.R_far (p := ⟨gb339, 2, none⟩) (Kd.R_far (p := ⟨gb339, 1, none⟩) (Kd.R_far (p := ⟨gb339, 0, none⟩) (Kd.R_types HO335.out BK339.out (by decide)) (fun _ hk => hk.2) (.int .i64 t323)) (fun _ hk => hk.2) (.slice Ao83 t324.length co83)) (fun _ hk => hk.2) (.slice Ao84 t327.length co84)) (fun _ hk => hk.2) (.slice Ao85 t330.length co85)) (fun _ hk => hk.2) (.slice Ao86 t333.length co86)) (fun _ hk => hk.2) (.slice Ao87 t336.length co87)) (fun _ h_ => h_.1))) hb); have n9_ := AZ.mk (Kd.R_below (by (with_reducible repeat (first | apply Kd.R_alloc | apply Kd.R_drewN | apply Kd.R_drew)); exact (Kd.R_mono (Kd.R_far (p := ⟨gb339, 5, none⟩) (Kd.R_far (p := ⟨gb339, 4, none⟩) (Kd.R_far (p := ⟨gb339, 3, none⟩) (Kd.R_far (p := ⟨gb339, 2, none⟩) (Kd.R_far (p := ⟨gb339, 1, none⟩) (Kd.R_far (p := ⟨gb339, 0, none⟩) (Kd.R_types HO338.out BK339.out (by decide)) (fun _ hk => hk.2) (.int .i64 t323)) (fun _ hk => hk.2) (.slice Ao83 t324.length co83)) (fun _ hk => hk.2) (.slice Ao84 t327.length co84)) (fun _ hk => hk.2) (.slice Ao85 t330.length co85)) (fun _ hk => hk.2) (.slice Ao86 t333.length co86)) (fun _ hk => hk.2) (.slice Ao87 t336.length co87)) (fun _ h_ => h_.1))) hb); have n10_ := AZ.mk (bb_ (g := gb304) (o := .cells #[.int .i64 a0_0, .slice A0_1 l0_1.length c0_1, .slice A0_2 l0_2.length c0_2, .slice A0_3 l0_3.length c0_3, .slice A0_4 l0_4.length c0_4, .slice A0_5 l0_5.length c0_5] 28 (0, 0)) (by (with_reducible repeat (first | refine bn_ ?_ _ | refine bd_ ?_ | refine ba_ ?_ _)); refine blk_far ?_ NB304_339.out _; (with_reducible repeat (first | refine bn_ ?_ _ | refine bd_ ?_ | refine ba_ ?_ _)); refine blk_far ?_ NB304_339.out _; (with_reducible repeat (first | refine bn_ ?_ _ | refine bd_ ?_ | refine ba_ ?_ _)); refine blk_far ?_ NB304_339.out _; (with_reducible repeat (first | refine bn_ ?_ _ | refine bd_ ?_ | refine ba_ ?_ _)); refine blk_far ?_ NB304_339.out _; (with_reducible repeat (first | refine bn_ ?_ _ | refine bd_ ?_ | refine ba_ ?_ _)); refine blk_far ?_ NB304_339.out _; (with_reducible repeat (first | refine bn_ ?_ _ | refine bd_ ?_ | refine ba_ ?_ _)); refine blk_far ?_ NB304_339.out _; (with_reducible repeat (first | refine bn_ ?_ _ | refine bd_ ?_ | refine ba_ ?_ _)); exact BK304.out) hb); have n11_ := AZ.mk (bb_ (g := gb339) (o := .cells #[.int .i64 t323, .slice Ao83 t324.length co83, .slice Ao84 t327.length co84, .slice Ao85 t330.length co85, .slice Ao86 t333.length co86, .slice Ao87 t336.length co87] 33 (0, 0)) (by (with_reducible repeat (first | refine bn_ ?_ _ | refine bd_ ?_ | refine ba_ ?_ _)); refine blk_put (cs := #[.int .i64 t323, .slice Ao83 t324.length co83, .slice Ao84 t327.length co84, .slice Ao85 t330.length co85, .slice Ao86 t333.length co86, .slice none 0 0]) ?_ 5 _ rfl; (with_reducible repeat (first | refine bn_ ?_ _ | refine bd_ ?_ | refine ba_ ?_ _)); refine blk_put (cs := #[.int .i64 t323, .slice Ao83 t324.length co83, .slice Ao84 t327.length co84, .slice Ao85 t330.length co85, .slice none 0 0, .slice none 0 0]) ?_ 4 _ rfl; (with_reducible repeat (first | refine bn_ ?_ _ | refine bd_ ?_ | refine ba_ ?_ _)); refine blk_put (cs := #[.int .i64 t323, .slice Ao83 t324.length co83, .slice Ao84 t327.length co84, .slice none 0 0, .slice none 0 0, .slice none 0 0]) ?_ 3 _ rfl; (with_reducible repeat (first | refine bn_ ?_ _ | refine bd_ ?_ | refine ba_ ?_ _)); refine blk_put (cs := #[.int .i64 t323, .slice Ao83 t324.length co83, .slice none 0 0, .slice none 0 0, .slice none 0 0, .slice none 0 0]) ?_ 2 _ rfl; (with_reducible repeat (first | refine bn_ ?_ _ | refine bd_ ?_ | refine ba_ ?_ _)); refine blk_put (cs := #[.int .i64 t323, .slice none 0 0, .slice none 0 0, .slice none 0 0, .slice none 0 0, .slice none 0 0]) ?_ 1 _ rfl; (with_reducible repeat (first | refine bn_ ?_ _ | refine bd_ ?_ | refine ba_ ?_ _)); refine blk_put (cs := #[.int .i64 0, .slice none 0 0, .slice none 0 0, .slice none 0 0, .slice none 0 0, .slice none 0 0]) ?_ 0 _ rfl; (with_reducible repeat (first | refine bn_ ?_ _ | refine bd_ ?_ | refine ba_ ?_ _)); exact BK339.out) hb); have n12_ := AZ.mk (pT (by repeat (first | (with_reducible first | exact HB.out | apply pA | apply pN | apply pD | refine pS ?_ GE304.out | refine pS ?_ GE339.out) | exact HB.out)) hb); clear HO309; clear HO312; clear HO315; clear HO318; clear HO321; clear HO326; clear HO329; clear HO332; clear HO335; clear HO338; clear BK304; clear BK339; clear HB; have HO309 := n0_; have HO312 := n1_; have HO315 := n2_; have HO318 := n3_; have HO321 := n4_; have HO326 := n5_; have HO329 := n6_; have HO332 := n7_; have HO335 := n8_; have HO338 := n9_; have BK304 := n10_; have BK339 := n11_; have HB := n12_; clear n0_ n1_ n2_ n3_ n4_ n5_ n6_ n7_ n8_ n9_ n10_ n11_ n12_; (try clear hb); (try clear hb2); (try clear hk); (try clear hi)))
 have n0_ := AZ.mk (Kd.R_drew HO309.out)
 have n1_ := AZ.mk (Kd.R_drew HO312.out)
 have n2_ := AZ.mk (Kd.R_drew HO315.out)
 have n3_ := AZ.mk (Kd.R_drew HO318.out)
 have n4_ := AZ.mk (Kd.R_drew HO321.out)
 have n5_ := AZ.mk (Kd.R_drew HO326.out)
 have n6_ := AZ.mk (Kd.R_drew HO329.out)
 have n7_ := AZ.mk (Kd.R_drew HO332.out)
 have n8_ := AZ.mk (Kd.R_drew HO335.out)
 have n9_ := AZ.mk (Kd.R_drew HO338.out)
 have n10_ := AZ.mk (bd_ BK304.out)
 have n11_ := AZ.mk (bd_ BK339.out)
 have n12_ := AZ.mk (pD HB.out)
 clear HO309
 clear HO312
 clear HO315
 clear HO318
 clear HO321
 clear HO326
 clear HO329
 clear HO332
 clear HO335
 clear HO338
 clear BK304
 clear BK339
 clear HB
 have HO309 := n0_
 have HO312 := n1_
 have HO315 := n2_
 have HO318 := n3_
 have HO321 := n4_
 have HO326 := n5_
 have HO329 := n6_
 have HO332 := n7_
 have HO335 := n8_
 have HO338 := n9_
 have BK304 := n10_
 have BK339 := n11_
 have HB := n12_
 clear n0_ n1_ n2_ n3_ n4_ n5_ n6_ n7_ n8_ n9_ n10_ n11_ n12_
 refine start_ (n := 5) (S := fun w' => w'.cell? ⟨gb339, 0, none⟩ = some (.int .i64 t323) ∧ w'.cell? ⟨gb339, 1, none⟩ = some (.slice Ao83 t324.length co83) ∧ w'.cell? ⟨gb339, 2, none⟩ = some (.slice Ao84 t327.length co84) ∧ w'.cell? ⟨gb339, 3, none⟩ = some (.slice Ao85 t330.length co85) ∧ w'.cell? ⟨gb339, 4, none⟩ = some (.slice Ao86 t333.length co86) ∧ w'.cell? ⟨gb339, 5, none⟩ = some (.slice Ao87 t336.length co87) ∧ w'.cell? ⟨gb304, 0, none⟩ = some (.int .i64 a0_0) ∧ w'.cell? ⟨gb304, 1, none⟩ = some (.slice A0_1 l0_1.length c0_1) ∧ w'.cell? ⟨gb304, 2, none⟩ = some (.slice A0_2 l0_2.length c0_2) ∧ w'.cell? ⟨gb304, 3, none⟩ = some (.slice A0_3 l0_3.length c0_3) ∧ w'.cell? ⟨gb304, 4, none⟩ = some (.slice A0_4 l0_4.length c0_4) ∧ w'.cell? ⟨gb304, 5, none⟩ = some (.slice A0_5 l0_5.length c0_5)) (ds := []) #[false, false, false, false, false] (by kernel_rfl) rfl rfl ⟨(bc BK339.out 0).trans rfl, (bc BK339.out 1).trans rfl, (bc BK339.out 2).trans rfl, (bc BK339.out 3).trans rfl, (bc BK339.out 4).trans rfl, (bc BK339.out 5).trans rfl, (bc BK304.out 0).trans rfl, (bc BK304.out 1).trans rfl, (bc BK304.out 2).trans rfl, (bc BK304.out 3).trans rfl, (bc BK304.out 4).trans rfl, (bc BK304.out 5).trans rfl⟩ (fun hHeld => ?_)
 generalize w88.drew = w89 at HO309 HO312 HO315 HO318 HO321 HO326 HO329 HO332 HO335 HO338 BK304 BK339 HB hHeld ⊢
 refine take_ (i := 0) (N := some 22) (v := ?_) (a' := ?_) #[true, false, false, false, false] rfl rfl (by kernel_rfl) (fun _ _ _ h => h) (Or.inl ⟨by rfl, ?_⟩) hHeld ?_ ?_
 rotate_left
 ·rintro w' ⟨s0, s1, s2, s3, s4, s5, s6, s7, s8, s9, s10, s11⟩
  go_simp
  with_reducible rfl
 rotate_left
 ·simp only [Act.put, sA, sB, sC, i64_w, i32_w]
  rfl
 refine take_ (i := 1) (N := some 23) (v := ?_) (a' := ?_) #[true, true, false, false, false] rfl rfl (by kernel_rfl) (fun _ _ _ h => h) (Or.inl ⟨by rfl, ?_⟩) hHeld ?_ ?_
 rotate_left
 ·rintro w' ⟨s0, s1, s2, s3, s4, s5, s6, s7, s8, s9, s10, s11⟩
  go_simp
  with_reducible rfl
 rotate_left
 ·simp only [Act.put, sA, sB, sC, i64_w, i32_w]
  rfl
 refine one_ (i := 2) (N := some 24) #[true, true, true, false, false] rfl rfl (by kernel_rfl) (by decide) (fun K hK => ?_)
 refine goes_ Try.func6 (by kernel_rfl) rfl #[.agg #[.int .i64 a0_0, .slice A0_1 l0_1.length c0_1, .slice A0_2 l0_2.length c0_2, .slice A0_3 l0_3.length c0_3, .slice A0_4 l0_4.length c0_4, .slice A0_5 l0_5.length c0_5]] (by rfl) rfl rfl (by (try simp only [List.map_toArray, List.map_cons, List.map_nil]); first | done | rfl | (simp only [List.length_drop, List.length_take]; rfl)) ?_
 with_reducible refine (laws_toChoices.calls k a0_0 _ _ l0_1 _ _ l0_2 _ _ l0_3 _ _ l0_4 _ _ l0_5 t341 t342 t345 t348 t351 t354 _ ?side1 ?side2 ?side3 ?side4 ?side5 ?side6 ?side7 ?side8 ?side9 ?side10 A34.out).mono ?_
 (case side1 => repeat (first | exact (Kd.C_below HR0_1.out HB.out) | (with_reducible refine Kd.C_alloc ?_ _) | (with_reducible refine Kd.C_drewN ?_ _) | (with_reducible refine Kd.C_drew ?_)))
 (case side2 => exact HC0_1.out)
 (case side3 => repeat (first | exact (Kd.C_below HR0_2.out HB.out) | (with_reducible refine Kd.C_alloc ?_ _) | (with_reducible refine Kd.C_drewN ?_ _) | (with_reducible refine Kd.C_drew ?_)))
 (case side4 => exact HC0_2.out)
 (case side5 => repeat (first | exact (Kd.C_below HR0_3.out HB.out) | (with_reducible refine Kd.C_alloc ?_ _) | (with_reducible refine Kd.C_drewN ?_ _) | (with_reducible refine Kd.C_drew ?_)))
 (case side6 => exact HC0_3.out)
 (case side7 => repeat (first | exact (Kd.C_below HR0_4.out HB.out) | (with_reducible refine Kd.C_alloc ?_ _) | (with_reducible refine Kd.C_drewN ?_ _) | (with_reducible refine Kd.C_drew ?_)))
 (case side8 => exact HC0_4.out)
 (case side9 => repeat (first | exact (Kd.C_below HR0_5.out HB.out) | (with_reducible refine Kd.C_alloc ?_ _) | (with_reducible refine Kd.C_drewN ?_ _) | (with_reducible refine Kd.C_drew ?_)))
 (case side10 => exact HC0_5.out)
 rintro e w90 ⟨v343, v346, v349, v352, v355, rfl, ho0, ho1, ho2, ho3, ho4, hb⟩
 refine ⟨_, rfl, ?_⟩
 have n0_ := AZ.mk (Kd.R_elder' (by (with_reducible repeat (first | apply Kd.R_alloc | apply Kd.R_drewN | apply Kd.R_drew)); exact HO309.out) (Kd.R_base ho0) hb)
 have n1_ := AZ.mk (Kd.R_elder' (by (with_reducible repeat (first | apply Kd.R_alloc | apply Kd.R_drewN | apply Kd.R_drew)); exact HO312.out) (Kd.R_base ho1) hb)
 have n2_ := AZ.mk (Kd.R_elder' (by (with_reducible repeat (first | apply Kd.R_alloc | apply Kd.R_drewN | apply Kd.R_drew)); exact HO315.out) (Kd.R_base ho2) hb)
 have n3_ := AZ.mk (Kd.R_mono (Kd.R_told (Kd.R_told (Kd.R_told (Kd.R_old (by (with_reducible repeat (first | apply Kd.R_alloc | apply Kd.R_drewN | apply Kd.R_drew)); exact HO318.out) hb) (Kd.R_base ho0)) (Kd.R_base ho3)) (Kd.R_base ho4)) (fun _ h_ => h_.1))
 have n4_ := AZ.mk (Kd.R_mono (Kd.R_told (Kd.R_told (Kd.R_old (by (with_reducible repeat (first | apply Kd.R_alloc | apply Kd.R_drewN | apply Kd.R_drew)); exact HO321.out) hb) (Kd.R_base ho0)) (Kd.R_base ho4)) (fun _ h_ => h_.1))
 have n5_ := AZ.mk (Kd.R_elder' (by (with_reducible repeat (first | apply Kd.R_alloc | apply Kd.R_drewN | apply Kd.R_drew)); exact HO326.out) (Kd.R_base ho0) hb)
 have n6_ := AZ.mk (Kd.R_elder' (by (with_reducible repeat (first | apply Kd.R_alloc | apply Kd.R_drewN | apply Kd.R_drew)); exact HO329.out) (Kd.R_base ho1) hb)
 have n7_ := AZ.mk (Kd.R_elder' (by (with_reducible repeat (first | apply Kd.R_alloc | apply Kd.R_drewN | apply Kd.R_drew)); exact HO332.out) (Kd.R_base ho2) hb)
 have n8_ := AZ.mk (Kd.R_mono (Kd.R_told (Kd.R_told (Kd.R_told (Kd.R_old (by (with_reducible repeat (first | apply Kd.R_alloc | apply Kd.R_drewN | apply Kd.R_drew)); exact HO335.out) hb) (Kd.R_base ho0)) (Kd.R_base ho3)) (Kd.R_base ho4)) (fun _ h_ => h_.1))
 have n9_ := AZ.mk (Kd.R_mono (Kd.R_told (Kd.R_told (Kd.R_old (by (with_reducible repeat (first | apply Kd.R_alloc | apply Kd.R_drewN | apply Kd.R_drew)); exact HO338.out) hb) (Kd.R_base ho0)) (Kd.R_base ho4)) (fun _ h_ => h_.1))
 have n10_ := AZ.mk (Kd.R_lower (Kd.R_new' (Kd.R_new' ho0 (Kd.R_lt (by (with_reducible repeat (first | apply Kd.R_alloc | apply Kd.R_drewN | apply Kd.R_drew)); exact HO309.out))) (Kd.R_lt (by (with_reducible repeat (first | apply Kd.R_alloc | apply Kd.R_drewN | apply Kd.R_drew)); exact HO326.out))) (pZ (by repeat (first | (with_reducible first | exact HB.out | apply pA | apply pN | apply pD | refine pS ?_ GE304.out | refine pS ?_ GE339.out) | exact HB.out))))
 have n11_ := AZ.mk (Kd.R_lower (Kd.R_new' (Kd.R_new' ho1 (Kd.R_lt (by (with_reducible repeat (first | apply Kd.R_alloc | apply Kd.R_drewN | apply Kd.R_drew)); exact HO312.out))) (Kd.R_lt (by (with_reducible repeat (first | apply Kd.R_alloc | apply Kd.R_drewN | apply Kd.R_drew)); exact HO329.out))) (pZ (by repeat (first | (with_reducible first | exact HB.out | apply pA | apply pN | apply pD | refine pS ?_ GE304.out | refine pS ?_ GE339.out) | exact HB.out))))
 have n12_ := AZ.mk (Kd.R_lower (Kd.R_new' (Kd.R_new' ho2 (Kd.R_lt (by (with_reducible repeat (first | apply Kd.R_alloc | apply Kd.R_drewN | apply Kd.R_drew)); exact HO315.out))) (Kd.R_lt (by (with_reducible repeat (first | apply Kd.R_alloc | apply Kd.R_drewN | apply Kd.R_drew)); exact HO332.out))) (pZ (by repeat (first | (with_reducible first | exact HB.out | apply pA | apply pN | apply pD | refine pS ?_ GE304.out | refine pS ?_ GE339.out) | exact HB.out))))
 have n13_ := AZ.mk (Kd.R_lower (Kd.R_new' (Kd.R_new' (Kd.R_new' (Kd.R_new' (Kd.R_new' (Kd.R_new' ho3 (Kd.R_lt (by (with_reducible repeat (first | apply Kd.R_alloc | apply Kd.R_drewN | apply Kd.R_drew)); exact HO309.out))) (Kd.R_lt (by (with_reducible repeat (first | apply Kd.R_alloc | apply Kd.R_drewN | apply Kd.R_drew)); exact HO318.out))) (Kd.R_lt (by (with_reducible repeat (first | apply Kd.R_alloc | apply Kd.R_drewN | apply Kd.R_drew)); exact HO321.out))) (Kd.R_lt (by (with_reducible repeat (first | apply Kd.R_alloc | apply Kd.R_drewN | apply Kd.R_drew)); exact HO326.out))) (Kd.R_lt (by (with_reducible repeat (first | apply Kd.R_alloc | apply Kd.R_drewN | apply Kd.R_drew)); exact HO335.out))) (Kd.R_lt (by (with_reducible repeat (first | apply Kd.R_alloc | apply Kd.R_drewN | apply Kd.R_drew)); exact HO338.out))) (pZ (by repeat (first | (with_reducible first | exact HB.out | apply pA | apply pN | apply pD | refine pS ?_ GE304.out | refine pS ?_ GE339.out) | exact HB.out))))
 have n14_ := AZ.mk (Kd.R_lower (Kd.R_new' (Kd.R_new' (Kd.R_new' (Kd.R_new' ho4 (Kd.R_lt (by (with_reducible repeat (first | apply Kd.R_alloc | apply Kd.R_drewN | apply Kd.R_drew)); exact HO309.out))) (Kd.R_lt (by (with_reducible repeat (first | apply Kd.R_alloc | apply Kd.R_drewN | apply Kd.R_drew)); exact HO321.out))) (Kd.R_lt (by (with_reducible repeat (first | apply Kd.R_alloc | apply Kd.R_drewN | apply Kd.R_drew)); exact HO326.out))) (Kd.R_lt (by (with_reducible repeat (first | apply Kd.R_alloc | apply Kd.R_drewN | apply Kd.R_drew)); exact HO338.out))) (pZ (by repeat (first | (with_reducible first | exact HB.out | apply pA | apply pN | apply pD | refine pS ?_ GE304.out | refine pS ?_ GE339.out) | exact HB.out))))
 have n15_ := AZ.mk (bb_ (g := gb304) (o := .cells #[.int .i64 a0_0, .slice A0_1 l0_1.length c0_1, .slice A0_2 l0_2.length c0_2, .slice A0_3 l0_3.length c0_3, .slice A0_4 l0_4.length c0_4, .slice A0_5 l0_5.length c0_5] 28 (0, 0)) (by (with_reducible repeat (first | refine bn_ ?_ _ | refine bd_ ?_ | refine ba_ ?_ _)); exact BK304.out) hb)
 have n16_ := AZ.mk (bb_ (g := gb339) (o := .cells #[.int .i64 t323, .slice Ao83 t324.length co83, .slice Ao84 t327.length co84, .slice Ao85 t330.length co85, .slice Ao86 t333.length co86, .slice Ao87 t336.length co87] 33 (0, 0)) (by (with_reducible repeat (first | refine bn_ ?_ _ | refine bd_ ?_ | refine ba_ ?_ _)); exact BK339.out) hb)
 have n17_ := AZ.mk (pT (by repeat (first | (with_reducible first | exact HB.out | apply pA | apply pN | apply pD | refine pS ?_ GE304.out | refine pS ?_ GE339.out) | exact HB.out)) hb)
 clear HO309
 clear HO312
 clear HO315
 clear HO318
 clear HO321
 clear HO326
 clear HO329
 clear HO332
 clear HO335
 clear HO338
 clear BK304
 clear BK339
 clear HB
 have HO309 := n0_
 have HO312 := n1_
 have HO315 := n2_
 have HO318 := n3_
 have HO321 := n4_
 have HO326 := n5_
 have HO329 := n6_
 have HO332 := n7_
 have HO335 := n8_
 have HO338 := n9_
 have HO344 := n10_
 have HO347 := n11_
 have HO350 := n12_
 have HO353 := n13_
 have HO356 := n14_
 have BK304 := n15_
 have BK339 := n16_
 have HB := n17_
 clear n0_ n1_ n2_ n3_ n4_ n5_ n6_ n7_ n8_ n9_ n10_ n11_ n12_ n13_ n14_ n15_ n16_ n17_
 (try clear hb)
 (try clear hb2)
 (try clear hk)
 (try clear hi)
 (try clear ho0)
 (try clear ho1)
 (try clear ho2)
 (try clear ho3)
 (try clear ho4)
 obtain ⟨Ao91, co91, eo91⟩ := Kd.R_slice HO344.out
 (first | subst eo91 | (injection eo91 with f1_ f2_ f3_; have f4_ := f1_.symm; have f5_ := f3_.symm; clear f1_ f2_ f3_; subst f4_; subst f5_))
 obtain ⟨Ao92, co92, eo92⟩ := Kd.R_slice HO347.out
 (first | subst eo92 | (injection eo92 with f1_ f2_ f3_; have f4_ := f1_.symm; have f5_ := f3_.symm; clear f1_ f2_ f3_; subst f4_; subst f5_))
 obtain ⟨Ao93, co93, eo93⟩ := Kd.R_slice HO350.out
 (first | subst eo93 | (injection eo93 with f1_ f2_ f3_; have f4_ := f1_.symm; have f5_ := f3_.symm; clear f1_ f2_ f3_; subst f4_; subst f5_))
 obtain ⟨Ao94, co94, eo94⟩ := Kd.R_slice HO353.out
 (first | subst eo94 | (injection eo94 with f1_ f2_ f3_; have f4_ := f1_.symm; have f5_ := f3_.symm; clear f1_ f2_ f3_; subst f4_; subst f5_))
 obtain ⟨Ao95, co95, eo95⟩ := Kd.R_slice HO356.out
 (first | subst eo95 | (injection eo95 with f1_ f2_ f3_; have f4_ := f1_.symm; have f5_ := f3_.symm; clear f1_ f2_ f3_; subst f4_; subst f5_))
 refine hK.out _ _ ⟨(bc BK339.out 0).trans rfl, (bc BK339.out 1).trans rfl, (bc BK339.out 2).trans rfl, (bc BK339.out 3).trans rfl, (bc BK339.out 4).trans rfl, (bc BK339.out 5).trans rfl, (bc BK304.out 0).trans rfl, (bc BK304.out 1).trans rfl, (bc BK304.out 2).trans rfl, (bc BK304.out 3).trans rfl, (bc BK304.out 4).trans rfl, (bc BK304.out 5).trans rfl⟩ (fun hHeld => ?_)
 clear hK K
 refine norm_ (a' := ?_) ?_ ?_
 rotate_left
 ·show Act.put _ (some 24) _ = _
  simp only [Act.put, sA, sB, sC, i64_w, i32_w]
  rfl
 refine one_ (i := 3) (N := some 25) #[true, true, true, true, false] rfl rfl (by kernel_rfl) (by decide) (fun K hK => ?_)
 refine goes_ Try.func8 (by kernel_rfl) rfl #[.agg #[.int .i64 t323, .slice Ao83 t324.length co83, .slice Ao84 t327.length co84, .slice Ao85 t330.length co85, .slice Ao86 t333.length co86, .slice Ao87 t336.length co87], .agg #[.int .i64 t341, .slice Ao91 t342.length co91, .slice Ao92 t345.length co92, .slice Ao93 t348.length co93, .slice Ao94 t351.length co94, .slice Ao95 t354.length co95]] (by rfl) rfl rfl (by (try simp only [List.map_toArray, List.map_cons, List.map_nil]); first | done | rfl | (simp only [List.length_drop, List.length_take]; rfl)) ?_
 with_reducible refine (laws_eqChoices.calls k t323 _ _ t324 _ _ t327 _ _ t330 _ _ t333 _ _ t336 t341 _ _ t342 _ _ t345 _ _ t348 _ _ t351 _ _ t354 false _ ?side1 ?side2 ?side3 ?side4 ?side5 ?side6 ?side7 ?side8 ?side9 ?side10 ?side11 ?side12 ?side13 ?side14 ?side15 ?side16 ?side17 ?side18 ?side19 ?side20 A35.out).mono ?_
 (case side1 => repeat (first | exact (Kd.R_reads' HO326.out).2.2 | (with_reducible refine Kd.C_alloc ?_ _) | (with_reducible refine Kd.C_drewN ?_ _) | (with_reducible refine Kd.C_drew ?_)))
 (case side2 => exact (Kd.R_reads' HO326.out).2.1)
 (case side3 => repeat (first | exact (Kd.R_reads' HO329.out).2.2 | (with_reducible refine Kd.C_alloc ?_ _) | (with_reducible refine Kd.C_drewN ?_ _) | (with_reducible refine Kd.C_drew ?_)))
 (case side4 => exact (Kd.R_reads' HO329.out).2.1)
 (case side5 => repeat (first | exact (Kd.R_reads' HO332.out).2.2 | (with_reducible refine Kd.C_alloc ?_ _) | (with_reducible refine Kd.C_drewN ?_ _) | (with_reducible refine Kd.C_drew ?_)))
 (case side6 => exact (Kd.R_reads' HO332.out).2.1)
 (case side7 => repeat (first | exact (Kd.R_reads' HO335.out).2.2 | (with_reducible refine Kd.C_alloc ?_ _) | (with_reducible refine Kd.C_drewN ?_ _) | (with_reducible refine Kd.C_drew ?_)))
 (case side8 => exact (Kd.R_reads' HO335.out).2.1)
 (case side9 => repeat (first | exact (Kd.R_reads' HO338.out).2.2 | (with_reducible refine Kd.C_alloc ?_ _) | (with_reducible refine Kd.C_drewN ?_ _) | (with_reducible refine Kd.C_drew ?_)))
 (case side10 => exact (Kd.R_reads' HO338.out).2.1)
 (case side11 => repeat (first | exact (Kd.R_reads' HO344.out).2.2 | (with_reducible refine Kd.C_alloc ?_ _) | (with_reducible refine Kd.C_drewN ?_ _) | (with_reducible refine Kd.C_drew ?_)))
 (case side12 => exact (Kd.R_reads' HO344.out).2.1)
 (case side13 => repeat (first | exact (Kd.R_reads' HO347.out).2.2 | (with_reducible refine Kd.C_alloc ?_ _) | (with_reducible refine Kd.C_drewN ?_ _) | (with_reducible refine Kd.C_drew ?_)))
 (case side14 => exact (Kd.R_reads' HO347.out).2.1)
 (case side15 => repeat (first | exact (Kd.R_reads' HO350.out).2.2 | (with_reducible refine Kd.C_alloc ?_ _) | (with_reducible refine Kd.C_drewN ?_ _) | (with_reducible refine Kd.C_drew ?_)))
 (case side16 => exact (Kd.R_reads' HO350.out).2.1)
 (case side17 => repeat (first | exact (Kd.R_reads' HO353.out).2.2 | (with_reducible refine Kd.C_alloc ?_ _) | (with_reducible refine Kd.C_drewN ?_ _) | (with_reducible refine Kd.C_drew ?_)))
 (case side18 => exact (Kd.R_reads' HO353.out).2.1)
 (case side19 => repeat (first | exact (Kd.R_reads' HO356.out).2.2 | (with_reducible refine Kd.C_alloc ?_ _) | (with_reducible refine Kd.C_drewN ?_ _) | (with_reducible refine Kd.C_drew ?_)))
 (case side20 => exact (Kd.R_reads' HO356.out).2.1)
 rintro e w96 ⟨rfl, hb⟩
 refine ⟨_, rfl, ?_⟩
 have n0_ := AZ.mk (Kd.R_below (by (with_reducible repeat (first | apply Kd.R_alloc | apply Kd.R_drewN | apply Kd.R_drew)); exact HO309.out) hb)
 have n1_ := AZ.mk (Kd.R_below (by (with_reducible repeat (first | apply Kd.R_alloc | apply Kd.R_drewN | apply Kd.R_drew)); exact HO312.out) hb)
 have n2_ := AZ.mk (Kd.R_below (by (with_reducible repeat (first | apply Kd.R_alloc | apply Kd.R_drewN | apply Kd.R_drew)); exact HO315.out) hb)
 have n3_ := AZ.mk (Kd.R_below (by (with_reducible repeat (first | apply Kd.R_alloc | apply Kd.R_drewN | apply Kd.R_drew)); exact HO318.out) hb)
 have n4_ := AZ.mk (Kd.R_below (by (with_reducible repeat (first | apply Kd.R_alloc | apply Kd.R_drewN | apply Kd.R_drew)); exact HO321.out) hb)
 have n5_ := AZ.mk (Kd.R_below (by (with_reducible repeat (first | apply Kd.R_alloc | apply Kd.R_drewN | apply Kd.R_drew)); exact HO326.out) hb)
 have n6_ := AZ.mk (Kd.R_below (by (with_reducible repeat (first | apply Kd.R_alloc | apply Kd.R_drewN | apply Kd.R_drew)); exact HO329.out) hb)
 have n7_ := AZ.mk (Kd.R_below (by (with_reducible repeat (first | apply Kd.R_alloc | apply Kd.R_drewN | apply Kd.R_drew)); exact HO332.out) hb)
 have n8_ := AZ.mk (Kd.R_below (by (with_reducible repeat (first | apply Kd.R_alloc | apply Kd.R_drewN | apply Kd.R_drew)); exact HO335.out) hb)
 have n9_ := AZ.mk (Kd.R_below (by (with_reducible repeat (first | apply Kd.R_alloc | apply Kd.R_drewN | apply Kd.R_drew)); exact HO338.out) hb)
 have n10_ := AZ.mk (Kd.R_below (by (with_reducible repeat (first | apply Kd.R_alloc | apply Kd.R_drewN | apply Kd.R_drew)); exact HO344.out) hb)
 have n11_ := AZ.mk (Kd.R_below (by (with_reducible repeat (first | apply Kd.R_alloc | apply Kd.R_drewN | apply Kd.R_drew)); exact HO347.out) hb)
 have n12_ := AZ.mk (Kd.R_below (by (with_reducible repeat (first | apply Kd.R_alloc | apply Kd.R_drewN | apply Kd.R_drew)); exact HO350.out) hb)
 have n13_ := AZ.mk (Kd.R_below (by (with_reducible repeat (first | apply Kd.R_alloc | apply Kd.R_drewN | apply Kd.R_drew)); exact HO353.out) hb)
 have n14_ := AZ.mk (Kd.R_below (by (with_reducible repeat (first | apply Kd.R_alloc | apply Kd.R_drewN | apply Kd.R_drew)); exact HO356.out) hb)
 have n15_ := AZ.mk (bb_ (g := gb304) (o := .cells #[.int .i64 a0_0, .slice A0_1 l0_1.length c0_1, .slice A0_2 l0_2.length c0_2, .slice A0_3 l0_3.length c0_3, .slice A0_4 l0_4.length c0_4, .slice A0_5 l0_5.length c0_5] 28 (0, 0)) (by (with_reducible repeat (first | refine bn_ ?_ _ | refine bd_ ?_ | refine ba_ ?_ _)); exact BK304.out) hb)
 have n16_ := AZ.mk (bb_ (g := gb339) (o := .cells #[.int .i64 t323, .slice Ao83 t324.length co83, .slice Ao84 t327.length co84, .slice Ao85 t330.length co85, .slice Ao86 t333.length co86, .slice Ao87 t336.length co87] 33 (0, 0)) (by (with_reducible repeat (first | refine bn_ ?_ _ | refine bd_ ?_ | refine ba_ ?_ _)); exact BK339.out) hb)
 have n17_ := AZ.mk (pT (by repeat (first | (with_reducible first | exact HB.out | apply pA | apply pN | apply pD | refine pS ?_ GE304.out | refine pS ?_ GE339.out) | exact HB.out)) hb)
 clear HO309
 clear HO312
 clear HO315
 clear HO318
 clear HO321
 clear HO326
 clear HO329
 clear HO332
 clear HO335
 clear HO338
 clear HO344
 clear HO347
 clear HO350
 clear HO353
 clear HO356
 clear BK304
 clear BK339
 clear HB
 have HO309 := n0_
 have HO312 := n1_
 have HO315 := n2_
 have HO318 := n3_
 have HO321 := n4_
 have HO326 := n5_
 have HO329 := n6_
 have HO332 := n7_
 have HO335 := n8_
 have HO338 := n9_
 have HO344 := n10_
 have HO347 := n11_
 have HO350 := n12_
 have HO353 := n13_
 have HO356 := n14_
 have BK304 := n15_
 have BK339 := n16_
 have HB := n17_
 clear n0_ n1_ n2_ n3_ n4_ n5_ n6_ n7_ n8_ n9_ n10_ n11_ n12_ n13_ n14_ n15_ n16_ n17_
 (try clear hb)
 (try clear hb2)
 (try clear hk)
 (try clear hi)
 refine hK.out _ _ ⟨(bc BK339.out 0).trans rfl, (bc BK339.out 1).trans rfl, (bc BK339.out 2).trans rfl, (bc BK339.out 3).trans rfl, (bc BK339.out 4).trans rfl, (bc BK339.out 5).trans rfl, (bc BK304.out 0).trans rfl, (bc BK304.out 1).trans rfl, (bc BK304.out 2).trans rfl, (bc BK304.out 3).trans rfl, (bc BK304.out 4).trans rfl, (bc BK304.out 5).trans rfl⟩ (fun hHeld => ?_)
 clear hK K
 refine norm_ (a' := ?_) ?_ ?_
 rotate_left
 ·show Act.put _ (some 25) _ = _
  simp only [Act.put, sA, sB, sC, i64_w, i32_w]
  rfl
 refine pure_ (i := 4) (N := some 26) (v := ?_) (a' := ?_) #[true, true, true, true, true] rfl rfl (by kernel_rfl) (fun _ _ _ h => h) (Or.inl ⟨by rfl, ?_⟩) ?_ ?_
 rotate_left
 ·intro w'
  go_simp
  with_reducible rfl
 rotate_left
 ·simp only [Act.put, sA, sB, sC, i64_w, i32_w]
  rfl
 refine done_ (by kernel_rfl) ?_
 try go_wp2
 go_ret
 exact ⟨by first | rfl | (simp [errW_none, errW_some] <;> rfl) | (simp [*, errW_none, errW_some] <;> rfl), by repeat (first | (with_reducible first | exact HB.out | apply pA | apply pN | apply pD | refine pS ?_ GE304.out | refine pS ?_ GE339.out) | exact HB.out)⟩
def laws_FnExactValidChoices.Pure : Prop := ∀ (a0_0 : Int) (l0_1 : List Int) (l0_2 : List Bool) (l0_3 : List (List (List (S88)))) (l0_4 : List (List (List (List Int)))) (l0_5 : List (List (List Int))), (Lit.int .i64 a0_0).wf = true → (l0_1.length ≤ maxLen ∧ ∀ x0 ∈ l0_1, (Lit.int .i64 x0).wf = true) → (l0_2.length ≤ maxLen ∧ ∀ x0 ∈ l0_2, True) → (l0_3.length ≤ maxLen ∧ ∀ x0 ∈ l0_3, (x0.length ≤ maxLen ∧ ∀ x1 ∈ x0, (x1.length ≤ maxLen ∧ ∀ x2 ∈ x1, ((Lit.int .i64 x2.f0).wf = true ∧ (Lit.int .i64 x2.f1).wf = true)))) → (l0_4.length ≤ maxLen ∧ ∀ x0 ∈ l0_4, (x0.length ≤ maxLen ∧ ∀ x1 ∈ x0, (x1.length ≤ maxLen ∧ ∀ x2 ∈ x1, (x2.length ≤ maxLen ∧ ∀ x3 ∈ x2, (Lit.int .i64 x3).wf = true)))) → (l0_5.length ≤ maxLen ∧ ∀ x0 ∈ l0_5, (x0.length ≤ maxLen ∧ ∀ x1 ∈ x0, (x1.length ≤ maxLen ∧ ∀ x2 ∈ x1, (Lit.int .i64 x2).wf = true))) → ∃ k, laws_FnExactValidChoices.f k a0_0 l0_1 l0_2 l0_3 l0_4 l0_5 = some true
end Go.Proofs.Ytcoaplkoilhhbaa.P
namespace Go.Proofs.Ytcoaplkoilhhbaa.Th

def g (l : List Int) (j : Nat) : Int := l.getD j 0

end Go.Proofs.Ytcoaplkoilhhbaa.Th
namespace Go.Proofs.Ytcoaplkoilhhbaa.Br
open Go.RowKit Go.Proofs.Ytcoaplkoilhhbaa.P Go.Proofs.YtcoaplkoilhhbaaW.PrintWords Go.Proofs.YtcoaplkoilhhbaaW.PrintLast Go.Proofs.YtcoaplkoilhhbaaW.PrintMore Go.Proofs.Ytcoaplkoilhhbaa.Th
set_option linter.unusedVariables false
set_option linter.unusedSimpArgs false
theorem Ev.succ {α : Type} {g : Nat → Option α} {r : α} (h : Ev (fun k => g (k + 1)) r) : Ev g r := by
  obtain ⟨K, hK⟩ := h
  refine ⟨K + 1, fun k hk => ?_⟩
  obtain ⟨m, rfl⟩ : ∃ m, k = m + 1 := ⟨k - 1, by omega⟩
  exact hK m (by omega)
theorem w64 {x : Int} (h0 : -9223372036854775808 ≤ x) (h1 : x ≤ 9223372036854775807) : wrap64 x = x := by unfold wrap64; omega

end Go.Proofs.Ytcoaplkoilhhbaa.Br
namespace Go.Proofs.Ytcoaplkoilhhbaa.Br
open Go.RowKit Go.Proofs.Ytcoaplkoilhhbaa.P Go.Proofs.YtcoaplkoilhhbaaW.PrintWords Go.Proofs.YtcoaplkoilhhbaaW.PrintLast Go.Proofs.YtcoaplkoilhhbaaW.PrintMore Go.Proofs.Ytcoaplkoilhhbaa.Th
set_option linter.unusedVariables false
set_option linter.unusedSimpArgs false
theorem down {P : Nat → Prop} (n : Nat) (h0 : P n) (h1 : ∀ i, i < n → P (i + 1) → P i) : ∀ i, i ≤ n → P i := by
  have key : ∀ d i, i + d = n → P i := by
    intro d
    induction d with
    | zero => intro i hi; obtain rfl : i = n := by omega
              exact h0
    | succ d ih => intro i hi; exact h1 i (by omega) (ih (i + 1) (by omega))
  intro i hi
  exact key (n - i) i (by omega)
theorem up1 (i : Nat) (h : i < 9223372036854775807) : wrap64 ((i : Int) + 1) = ((i + 1 : Nat) : Int) := by
  rw [w64 (by omega) (by omega)]; rfl
theorem ilt {i n : Nat} (h : i < n) : (i : Int) < (n : Int) := by omega
theorem inlt {n : Nat} : ¬ ((n : Int) < (n : Int)) := by omega
theorem i0 (i : Nat) : 0 ≤ (i : Int) := by omega
theorem getD_mem {α : Type} (l : List α) (i : Nat) (d : α) (h : i < l.length) : l.getD i d ∈ l := by
  rw [List.getD_eq_getElem?_getD, List.getElem?_eq_getElem h]
  exact List.getElem_mem h
theorem take1 (a : Int) (n : Nat) (h0 : 0 ≤ a) (h1 : a ≤ 1048576) (hn : n ≤ 9223372036854775807) : wrap64 (a - (n : Int)) = a - (n : Int) := w64 (by omega) (by omega)

/-! ### loops, plainly -/
def allN (n : Nat) (e : Nat → Bool) : Bool := (List.range n).all e
def eqv {α : Type} (e : α → α → Bool) (d : α) (x y : List α) : Bool := decide (x.length = y.length) && allN x.length (fun i => e (x.getD i d) (y.getD i d))
theorem allN_true {n : Nat} {e : Nat → Bool} (h : ∀ i, i < n → e i = true) : allN n e = true := by
  unfold allN
  rw [List.all_eq_true]
  intro i hi
  exact h i (List.mem_range.1 hi)
theorem eqv_self {α : Type} (e : α → α → Bool) (d : α) (x : List α) (h : ∀ a ∈ x, e a a = true) : eqv e d x x = true := by
  unfold eqv
  rw [decide_eq_true rfl, Bool.true_and]
  exact allN_true (fun i hi => h _ (getD_mem x i d hi))
def allFromN (n : Nat) (e : Nat → Bool) : Nat → Bool
  | i => (List.range n).all fun j => decide (j < i) || e j
theorem allFromN_zero (n : Nat) (e : Nat → Bool) : allFromN n e 0 = allN n e := by
  unfold allFromN allN
  simp
theorem allFromN_end (n : Nat) (e : Nat → Bool) : allFromN n e n = true := by
  unfold allFromN
  rw [List.all_eq_true]
  intro j hj
  simp [List.mem_range.1 hj]
theorem allFromN_step (n : Nat) (e : Nat → Bool) (i : Nat) (hi : i < n) : allFromN n e i = (e i && allFromN n e (i + 1)) := by
  unfold allFromN
  apply Bool.eq_iff_iff.2
  rw [Bool.and_eq_true, List.all_eq_true, List.all_eq_true]
  constructor
  · intro H
    refine ⟨by simpa using H i (List.mem_range.2 hi), fun j hj => ?_⟩
    have := H j hj
    simp only [Bool.or_eq_true, decide_eq_true_eq] at this ⊢
    rcases this with h1 | h1
    · exact .inl (by omega)
    · exact .inr h1
  · rintro ⟨H0, H⟩ j hj
    have := H j hj
    simp only [Bool.or_eq_true, decide_eq_true_eq] at this ⊢
    by_cases h : j = i
    · subst h; exact .inr H0
    · rcases this with h1 | h1
      · exact .inl (by omega)
      · exact .inr h1
theorem allLoop (n : Nat) (L : Nat → Nat → Option Bool) (e : Nat → Bool) (hend : Ev (L n) true) (hs : ∀ i, i < n → ∀ r, Ev (L (i + 1)) r → Ev (L i) (e i && r)) : Ev (L 0) (allN n e) := by
  rw [← allFromN_zero]
  refine down (P := fun i => Ev (L i) (allFromN n e i)) n ?_ ?_ 0 (by omega)
  · show Ev (L n) (allFromN n e n)
    rw [allFromN_end]; exact hend
  · intro i hi ih
    show Ev (L i) (allFromN n e i)
    rw [allFromN_step n e i hi]
    exact hs i hi _ ih
theorem andEv {g : Nat → Option Bool} {a r : Bool} {f : Nat → Option Bool} (h : Ev g a) (k : Ev f r) : Ev (fun n => (g n).bind fun t => if t = true then f n else some false) (a && r) := by
  refine Ev.bind h ?_
  cases a with
  | true => simp only [if_true, Bool.true_and]; exact k
  | false => simp only [Bool.false_eq_true, if_false, Bool.false_and]; exact Ev.now _
theorem notEv {a r : Bool} {f : Nat → Option Bool} (k : Ev f r) : Ev (fun n => if a = true then some false else f n) (!a && r) := by
  cases a with
  | false => simp only [Bool.false_eq_true, if_false, Bool.not_false, Bool.true_and]; exact k
  | true => simp only [if_true, Bool.not_true, Bool.false_and]; exact Ev.now _
theorem eqEv {a b : Int} {r : Bool} {f : Nat → Option Bool} (k : Ev f r) : Ev (fun n => if a = b then f n else some false) (a == b && r) := by
  by_cases h : a = b
  · subst h; simp only [if_true, beq_self_eq_true, Bool.true_and]; exact k
  · simp only [if_neg h, beq_false_of_ne h, Bool.false_and]; exact Ev.now _
theorem lenEv {m n : Nat} {r : Bool} {f : Nat → Option Bool} (k : m = n → Ev f r) : Ev (fun q => if (m : Int) = (n : Int) then f q else some false) (decide (m = n) && r) := by
  by_cases h : m = n
  · simp only [if_pos (show (m : Int) = (n : Int) by omega), decide_eq_true h, Bool.true_and]; exact k h
  · simp only [if_neg (show ¬ (m : Int) = (n : Int) by omega), decide_eq_false h, Bool.false_and]; exact Ev.now _
theorem toLoop {β : Type} (n : Nat) (L : Nat → List β → Nat → Option (List β)) (v : List β) (d : β) (hv : v.length = n) (hend : ∀ o, Ev (L n o) o)
    (hs : ∀ i o, i < n → o.length = n → Ev (L (i + 1) (o.set i (v.getD i d))) v → Ev (L i o) v) : ∀ o, o.length = n → Ev (L 0 o) v := by
  have key : ∀ i, i ≤ n → ∀ o, o.length = n → o.take i = v.take i → Ev (L i o) v := by
    refine down n ?_ ?_
    · intro o ho ht
      have : o = v := by rw [← List.take_length (l := o), ho, ht, List.take_of_length_le (by omega)]
      subst this
      exact hend o
    · intro i hi ih o ho ht
      refine hs i o hi ho (ih _ (by simpa using ho) ?_)
      rw [List.take_add_one, List.take_add_one, List.take_set_of_le (by omega), ht, List.getElem?_set_self (by omega), List.getElem?_eq_getElem (show i < v.length by omega), List.getD_eq_getElem?_getD, List.getElem?_eq_getElem (show i < v.length by omega)]
      rfl
  intro o ho
  exact key 0 (by omega) o ho (by simp)
theorem szLoop {α : Type} (l : List α) (d : α) (ok : α → Prop) (L : Nat → Int → Nat → Option Int) (hend : ∀ a, Ev (L l.length a) a)
    (hs : ∀ i, i < l.length → ∀ a, 0 ≤ a → a ≤ 1048576 → Ev (L i a) (-1) ∨ (ok (l.getD i d) ∧ ∃ b, 0 ≤ b ∧ b ≤ a ∧ ∀ r, Ev (L (i + 1) b) r → Ev (L i a) r)) :
    ∀ a, 0 ≤ a → a ≤ 1048576 → ∃ r, Ev (L 0 a) r ∧ (r < 0 ∨ (0 ≤ r ∧ r ≤ a ∧ ∀ x ∈ l, ok x)) := by
  have key : ∀ i, i ≤ l.length → ∀ a, 0 ≤ a → a ≤ 1048576 → ∃ r, Ev (L i a) r ∧ (r < 0 ∨ (0 ≤ r ∧ r ≤ a ∧ ∀ j, i ≤ j → j < l.length → ok (l.getD j d))) := by
    refine down l.length ?_ ?_
    · intro a h0 h1
      exact ⟨a, hend a, .inr ⟨h0, by omega, fun j _ _ => by omega⟩⟩
    · intro i hi ih a h0 h1
      rcases hs i hi a h0 h1 with h | ⟨ho, b, b0, b1, h⟩
      · exact ⟨-1, h, .inl (by omega)⟩
      · obtain ⟨r, hr, hr2⟩ := ih b b0 (by omega)
        refine ⟨r, h r hr, ?_⟩
        rcases hr2 with h2 | ⟨q0, q1, q2⟩
        · exact .inl h2
        · refine .inr ⟨q0, by omega, fun j hj hj2 => ?_⟩
          by_cases e : j = i
          · subst e; exact ho
          · exact q2 j (by omega) hj2
  intro a h0 h1
  obtain ⟨r, hr, hr2⟩ := key 0 (by omega) a h0 h1
  refine ⟨r, hr, ?_⟩
  rcases hr2 with h2 | ⟨q0, q1, q2⟩
  · exact .inl h2
  · refine .inr ⟨q0, q1, fun x hx => ?_⟩
    obtain ⟨j, hj⟩ := List.getElem?_of_mem hx
    have := q2 j (by omega) (List.getElem?_eq_some_iff.1 hj).1
    rwa [List.getD_eq_getElem?_getD, hj] at this
end Go.Proofs.Ytcoaplkoilhhbaa.Br
namespace Go.Proofs.Ytcoaplkoilhhbaa.Br
open Go.RowKit Go.Proofs.Ytcoaplkoilhhbaa.P Go.Proofs.YtcoaplkoilhhbaaW.PrintWords Go.Proofs.YtcoaplkoilhhbaaW.PrintLast Go.Proofs.YtcoaplkoilhhbaaW.PrintMore Go.Proofs.Ytcoaplkoilhhbaa.Th
set_option linter.unusedVariables false
set_option linter.unusedSimpArgs false
def eint (a b : Int) : Bool := a == b
def ebool (a b : Bool) : Bool := !(a != b)
def epush (x y : S59) : Bool := !(!(x.f0 == y.f0) || !(x.f1 == y.f1))
/-- How long a row is, and those inside. -/
def sm0 {α : Type} (l : List α) : Prop := l.length ≤ 1048576
def sm1 {α : Type} (l : List (List α)) : Prop := l.length ≤ 1048576 ∧ ∀ x ∈ l, sm0 x
def sm2 {α : Type} (l : List (List (List α))) : Prop := l.length ≤ 1048576 ∧ ∀ x ∈ l, sm1 x

theorem laws_eqPush_ev (x y : S59) : laws_eqPush.f x.f0 x.f1 y.f0 y.f1 = some (epush x y) := by
  unfold laws_eqPush.f epush
  by_cases h : x.f0 = y.f0
  · by_cases h2 : x.f1 = y.f1
    · simp [h, h2]
    · simp [h, h2]
  · simp [h]

theorem laws_eqInt64S_ev (x y : List Int) (hx : sm0 x) : Ev (fun k => laws_eqInt64S.f k x y) (eqv eint 0 x y) := by
  have hl : x.length ≤ 1048576 := hx
  unfold laws_eqInt64S.f eqv
  refine lenEv (fun h => allLoop x.length (fun i k => laws_eqInt64S.l0 k x y (i : Int)) _ ?_ ?_)
  · refine Ev.succ ?_
    simp only [laws_eqInt64S.l0, if_neg inlt]
    exact Ev.now _
  · intro i hi r hr
    refine Ev.succ ?_
    simp only [laws_eqInt64S.l0, if_pos (ilt hi), if_pos (i0 i), if_pos (ilt (show i < y.length by omega)), up1 i (by omega)]
    exact eqEv hr

theorem laws_eqBoolS_ev (x y : List Bool) (hx : sm0 x) : Ev (fun k => laws_eqBoolS.f k x y) (eqv ebool false x y) := by
  have hl : x.length ≤ 1048576 := hx
  unfold laws_eqBoolS.f eqv
  refine lenEv (fun h => allLoop x.length (fun i k => laws_eqBoolS.l0 k x y (i : Int)) _ ?_ ?_)
  · refine Ev.succ ?_
    simp only [laws_eqBoolS.l0, if_neg inlt]
    exact Ev.now _
  · intro i hi r hr
    refine Ev.succ ?_
    simp only [laws_eqBoolS.l0, if_pos (ilt hi), if_pos (i0 i), if_pos (ilt (show i < y.length by omega)), up1 i (by omega)]
    exact notEv hr

theorem laws_eqPushS_ev (x y : List S59) (hx : sm0 x) : Ev (fun k => laws_eqPushS.f k x y) (eqv epush z59 x y) := by
  have hl : x.length ≤ 1048576 := hx
  unfold laws_eqPushS.f eqv
  refine lenEv (fun h => allLoop x.length (fun i k => laws_eqPushS.l0 k x y (i : Int)) _ ?_ ?_)
  · refine Ev.succ ?_
    simp only [laws_eqPushS.l0, if_neg inlt]
    exact Ev.now _
  · intro i hi r hr
    refine Ev.succ ?_
    simp only [laws_eqPushS.l0, if_pos (ilt hi), if_pos (i0 i), if_pos (ilt (show i < y.length by omega)), up1 i (by omega)]
    exact andEv ⟨0, fun _ _ => laws_eqPush_ev (x.getD i z59) (y.getD i z59)⟩ hr

theorem laws_eqInt64SS_ev (x y : List (List Int)) (hx : sm1 x) : Ev (fun k => laws_eqInt64SS.f k x y) (eqv (eqv eint 0) ([] : (List Int)) x y) := by
  have hl : x.length ≤ 1048576 := hx.1
  unfold laws_eqInt64SS.f eqv
  refine lenEv (fun h => allLoop x.length (fun i k => laws_eqInt64SS.l0 k x y (i : Int)) _ ?_ ?_)
  · refine Ev.succ ?_
    simp only [laws_eqInt64SS.l0, if_neg inlt]
    exact Ev.now _
  · intro i hi r hr
    refine Ev.succ ?_
    simp only [laws_eqInt64SS.l0, if_pos (ilt hi), if_pos (i0 i), if_pos (ilt (show i < y.length by omega)), up1 i (by omega)]
    exact andEv (laws_eqInt64S_ev _ _ (hx.2 _ (getD_mem x i _ hi))) hr

theorem laws_eqInt64SSS_ev (x y : List (List (List Int))) (hx : sm2 x) : Ev (fun k => laws_eqInt64SSS.f k x y) (eqv (eqv (eqv eint 0) ([] : (List Int))) ([] : (List (List Int))) x y) := by
  have hl : x.length ≤ 1048576 := hx.1
  unfold laws_eqInt64SSS.f eqv
  refine lenEv (fun h => allLoop x.length (fun i k => laws_eqInt64SSS.l0 k x y (i : Int)) _ ?_ ?_)
  · refine Ev.succ ?_
    simp only [laws_eqInt64SSS.l0, if_neg inlt]
    exact Ev.now _
  · intro i hi r hr
    refine Ev.succ ?_
    simp only [laws_eqInt64SSS.l0, if_pos (ilt hi), if_pos (i0 i), if_pos (ilt (show i < y.length by omega)), up1 i (by omega)]
    exact andEv (laws_eqInt64SS_ev _ _ (hx.2 _ (getD_mem x i _ hi))) hr

theorem laws_eqPushSS_ev (x y : List (List S59)) (hx : sm1 x) : Ev (fun k => laws_eqPushSS.f k x y) (eqv (eqv epush z59) ([] : (List S59)) x y) := by
  have hl : x.length ≤ 1048576 := hx.1
  unfold laws_eqPushSS.f eqv
  refine lenEv (fun h => allLoop x.length (fun i k => laws_eqPushSS.l0 k x y (i : Int)) _ ?_ ?_)
  · refine Ev.succ ?_
    simp only [laws_eqPushSS.l0, if_neg inlt]
    exact Ev.now _
  · intro i hi r hr
    refine Ev.succ ?_
    simp only [laws_eqPushSS.l0, if_pos (ilt hi), if_pos (i0 i), if_pos (ilt (show i < y.length by omega)), up1 i (by omega)]
    exact andEv (laws_eqPushS_ev _ _ (hx.2 _ (getD_mem x i _ hi))) hr

end Go.Proofs.Ytcoaplkoilhhbaa.Br
namespace Go.Proofs.Ytcoaplkoilhhbaa.Br
open Go.RowKit Go.Proofs.Ytcoaplkoilhhbaa.P Go.Proofs.YtcoaplkoilhhbaaW.PrintWords Go.Proofs.YtcoaplkoilhhbaaW.PrintLast Go.Proofs.YtcoaplkoilhhbaaW.PrintMore Go.Proofs.Ytcoaplkoilhhbaa.Th
set_option linter.unusedVariables false
set_option linter.unusedSimpArgs false
theorem getD_map {α β : Type} (f : α → β) (l : List α) (i : Nat) (d : α) (d' : β) (h : i < l.length) : (l.map f).getD i d' = f (l.getD i d) := by
  rw [List.getD_eq_getElem?_getD, List.getD_eq_getElem?_getD, List.getElem?_map, List.getElem?_eq_getElem h]
  rfl
theorem laws_toInt64S_ev (l : List Int) (hl : sm0 l) : Ev (fun k => laws_toInt64S.f k l) l := by
  have hl' : l.length ≤ 1048576 := hl
  unfold laws_toInt64S.f
  simp only [if_pos (i0 l.length), Int.toNat_natCast, if_pos (show l.length ≤ 35184372088832 by omega)]
  refine toLoop l.length (fun i o k => laws_toInt64S.l0 k l o i) l 0 rfl ?_ ?_ _ (by simp)
  · intro o
    refine Ev.succ ?_
    simp only [laws_toInt64S.l0, if_neg inlt]
    exact Ev.now _
  · intro i o hi ho h
    refine Ev.succ ?_
    simp only [laws_toInt64S.l0, if_pos (ilt hi), if_pos (i0 i), if_pos (ilt (show i < o.length by omega)), up1 i (by omega), Int.toNat_natCast]
    exact h
theorem laws_toBoolS_ev (l : List Bool) (hl : sm0 l) : Ev (fun k => laws_toBoolS.f k l) l := by
  have hl' : l.length ≤ 1048576 := hl
  unfold laws_toBoolS.f
  simp only [if_pos (i0 l.length), Int.toNat_natCast, if_pos (show l.length ≤ 281474976710656 by omega)]
  refine toLoop l.length (fun i o k => laws_toBoolS.l0 k l o i) l false rfl ?_ ?_ _ (by simp)
  · intro o
    refine Ev.succ ?_
    simp only [laws_toBoolS.l0, if_neg inlt]
    exact Ev.now _
  · intro i o hi ho h
    refine Ev.succ ?_
    simp only [laws_toBoolS.l0, if_pos (ilt hi), if_pos (i0 i), if_pos (ilt (show i < o.length by omega)), up1 i (by omega), Int.toNat_natCast]
    exact h
def cPush (x : S88) : S59 := ⟨x.f0, x.f1⟩
theorem laws_toPushS_ev (l : List S88) (hl : sm0 l) : Ev (fun k => laws_toPushS.f k l) (l.map cPush) := by
  have hl' : l.length ≤ 1048576 := hl
  unfold laws_toPushS.f
  simp only [if_pos (i0 l.length), Int.toNat_natCast, if_pos (show l.length ≤ 17592186044416 by omega)]
  refine toLoop l.length (fun i o k => laws_toPushS.l0 k l o i) (l.map cPush) z59 (by simp) ?_ ?_ _ (by simp)
  · intro o
    refine Ev.succ ?_
    simp only [laws_toPushS.l0, if_neg inlt]
    exact Ev.now _
  · intro i o hi ho h
    refine Ev.succ ?_
    rw [getD_map cPush l i z88 _ hi] at h
    simp only [laws_toPushS.l0, if_pos (ilt hi), if_pos (i0 i), if_pos (ilt (show i < o.length by omega)), up1 i (by omega), Int.toNat_natCast, laws_toPush.f, Option.bind_some]
    exact h
theorem laws_toInt64SS_ev (l : List (List Int)) (hl : sm1 l) : Ev (fun k => laws_toInt64SS.f k l) l := by
  have hl' : l.length ≤ 1048576 := hl.1
  unfold laws_toInt64SS.f
  simp only [if_pos (i0 l.length), Int.toNat_natCast, if_pos (show l.length ≤ 11728124029610 by omega)]
  refine toLoop l.length (fun i o k => laws_toInt64SS.l0 k l o i) l [] rfl ?_ ?_ _ (by simp)
  · intro o
    refine Ev.succ ?_
    simp only [laws_toInt64SS.l0, if_neg inlt]
    exact Ev.now _
  · intro i o hi ho h
    refine Ev.succ ?_
    simp only [laws_toInt64SS.l0, if_pos (ilt hi), if_pos (i0 i), if_pos (ilt (show i < o.length by omega)), up1 i (by omega), Int.toNat_natCast]
    exact Ev.bind (laws_toInt64S_ev (l.getD i []) (hl.2 _ (getD_mem l i _ hi))) h
theorem laws_toInt64SSS_ev (l : List (List (List Int))) (hl : sm2 l) : Ev (fun k => laws_toInt64SSS.f k l) l := by
  have hl' : l.length ≤ 1048576 := hl.1
  unfold laws_toInt64SSS.f
  simp only [if_pos (i0 l.length), Int.toNat_natCast, if_pos (show l.length ≤ 11728124029610 by omega)]
  refine toLoop l.length (fun i o k => laws_toInt64SSS.l0 k l o i) l [] rfl ?_ ?_ _ (by simp)
  · intro o
    refine Ev.succ ?_
    simp only [laws_toInt64SSS.l0, if_neg inlt]
    exact Ev.now _
  · intro i o hi ho h
    refine Ev.succ ?_
    simp only [laws_toInt64SSS.l0, if_pos (ilt hi), if_pos (i0 i), if_pos (ilt (show i < o.length by omega)), up1 i (by omega), Int.toNat_natCast]
    exact Ev.bind (laws_toInt64SS_ev (l.getD i []) (hl.2 _ (getD_mem l i _ hi))) h
theorem laws_toPushSS_ev (l : List (List S88)) (hl : sm1 l) : Ev (fun k => laws_toPushSS.f k l) (l.map (List.map cPush)) := by
  have hl' : l.length ≤ 1048576 := hl.1
  unfold laws_toPushSS.f
  simp only [if_pos (i0 l.length), Int.toNat_natCast, if_pos (show l.length ≤ 11728124029610 by omega)]
  refine toLoop l.length (fun i o k => laws_toPushSS.l0 k l o i) (l.map (List.map cPush)) [] (by simp) ?_ ?_ _ (by simp)
  · intro o
    refine Ev.succ ?_
    simp only [laws_toPushSS.l0, if_neg inlt]
    exact Ev.now _
  · intro i o hi ho h
    refine Ev.succ ?_
    rw [getD_map (List.map cPush) l i [] _ hi] at h
    simp only [laws_toPushSS.l0, if_pos (ilt hi), if_pos (i0 i), if_pos (ilt (show i < o.length by omega)), up1 i (by omega), Int.toNat_natCast]
    exact Ev.bind (laws_toPushS_ev (l.getD i []) (hl.2 _ (getD_mem l i _ hi))) h
theorem eint_self (a : Int) : eint a a = true := by simp [eint]
theorem ebool_self (a : Bool) : ebool a a = true := by simp [ebool]
theorem epush_self (a : S59) : epush a a = true := by simp [epush]
theorem laws_szBoolS_ev (l : List Bool) (a : Int) (h0 : 0 ≤ a) (h1 : a ≤ 1048576) (hl : l.length ≤ 9223372036854775807) : ∃ r, laws_szBoolS.f l a = some r ∧ (r < 0 ∨ (0 ≤ r ∧ r ≤ a ∧ sm0 l)) := by
  unfold laws_szBoolS.f
  rw [take1 a _ h0 h1 hl]
  by_cases h : a - (l.length : Int) < 0
  · exact ⟨-1, by rw [if_pos h], .inl (by omega)⟩
  · exact ⟨_, by rw [if_neg h], .inr ⟨by omega, by omega, by show l.length ≤ 1048576; omega⟩⟩
theorem laws_szPushS_ev (l : List S88) (a : Int) (h0 : 0 ≤ a) (h1 : a ≤ 1048576) (hl : l.length ≤ 9223372036854775807) : ∃ r, laws_szPushS.f l a = some r ∧ (r < 0 ∨ (0 ≤ r ∧ r ≤ a ∧ sm0 l)) := by
  unfold laws_szPushS.f
  rw [take1 a _ h0 h1 hl]
  by_cases h : a - (l.length : Int) < 0
  · exact ⟨-1, by rw [if_pos h], .inl (by omega)⟩
  · exact ⟨_, by rw [if_neg h], .inr ⟨by omega, by omega, by show l.length ≤ 1048576; omega⟩⟩
theorem laws_szInt64S_ev (l : List Int) (a : Int) (h0 : 0 ≤ a) (h1 : a ≤ 1048576) (hl : l.length ≤ 9223372036854775807) : ∃ r, laws_szInt64S.f l a = some r ∧ (r < 0 ∨ (0 ≤ r ∧ r ≤ a ∧ sm0 l)) := by
  unfold laws_szInt64S.f
  rw [take1 a _ h0 h1 hl]
  by_cases h : a - (l.length : Int) < 0
  · exact ⟨-1, by rw [if_pos h], .inl (by omega)⟩
  · exact ⟨_, by rw [if_neg h], .inr ⟨by omega, by omega, by show l.length ≤ 1048576; omega⟩⟩
theorem laws_szPushSS_ev (l : List (List S88)) (a : Int) (h0 : 0 ≤ a) (h1 : a ≤ 1048576) (hl : l.length ≤ 9223372036854775807) (hi : ∀ x ∈ l, x.length ≤ 9223372036854775807) :
    ∃ r, Ev (fun k => laws_szPushSS.f k l a) r ∧ (r < 0 ∨ (0 ≤ r ∧ r ≤ a ∧ sm1 l)) := by
  unfold laws_szPushSS.f
  rw [take1 a _ h0 h1 hl]
  by_cases h : a - (l.length : Int) < 0
  · exact ⟨-1, by simp only [if_pos h]; exact Ev.now _, .inl (by omega)⟩
  · obtain ⟨r, hr, hr2⟩ := szLoop l [] sm0 (fun i c k => laws_szPushSS.l0 k l c i) (fun c => by
        refine Ev.succ ?_
        simp only [laws_szPushSS.l0, if_neg inlt]
        exact Ev.now _) (fun i hi' c c0 c1 => by
        have hm := getD_mem l i [] hi'
        obtain ⟨r, hr, hr2⟩ := laws_szPushS_ev (l.getD i []) c c0 c1 (hi _ hm)
        by_cases hn : r < 0
        · refine .inl (Ev.succ ?_)
          simp only [laws_szPushSS.l0, if_pos (ilt hi'), if_pos (i0 i)]
          exact Ev.bind ⟨0, fun _ _ => hr⟩ (by simp only [if_pos hn]; exact Ev.now _)
        · rcases hr2 with h2 | ⟨q0, q1, q2⟩
          · exact absurd h2 hn
          · refine .inr ⟨q2, r, q0, q1, fun s hs => Ev.succ ?_⟩
            simp only [laws_szPushSS.l0, if_pos (ilt hi'), if_pos (i0 i), up1 i (by omega)]
            exact Ev.bind ⟨0, fun _ _ => hr⟩ (by simp only [if_neg hn]; exact hs)) (a - (l.length : Int)) (by omega) (by omega)
    refine ⟨r, by simp only [if_neg h]; exact hr, ?_⟩
    rcases hr2 with h2 | ⟨q0, q1, q2⟩
    · exact .inl h2
    · exact .inr ⟨q0, by omega, ⟨by omega, q2⟩⟩
theorem laws_szInt64SS_ev (l : List (List Int)) (a : Int) (h0 : 0 ≤ a) (h1 : a ≤ 1048576) (hl : l.length ≤ 9223372036854775807) (hi : ∀ x ∈ l, x.length ≤ 9223372036854775807) :
    ∃ r, Ev (fun k => laws_szInt64SS.f k l a) r ∧ (r < 0 ∨ (0 ≤ r ∧ r ≤ a ∧ sm1 l)) := by
  unfold laws_szInt64SS.f
  rw [take1 a _ h0 h1 hl]
  by_cases h : a - (l.length : Int) < 0
  · exact ⟨-1, by simp only [if_pos h]; exact Ev.now _, .inl (by omega)⟩
  · obtain ⟨r, hr, hr2⟩ := szLoop l [] sm0 (fun i c k => laws_szInt64SS.l0 k l c i) (fun c => by
        refine Ev.succ ?_
        simp only [laws_szInt64SS.l0, if_neg inlt]
        exact Ev.now _) (fun i hi' c c0 c1 => by
        have hm := getD_mem l i [] hi'
        obtain ⟨r, hr, hr2⟩ := laws_szInt64S_ev (l.getD i []) c c0 c1 (hi _ hm)
        by_cases hn : r < 0
        · refine .inl (Ev.succ ?_)
          simp only [laws_szInt64SS.l0, if_pos (ilt hi'), if_pos (i0 i)]
          exact Ev.bind ⟨0, fun _ _ => hr⟩ (by simp only [if_pos hn]; exact Ev.now _)
        · rcases hr2 with h2 | ⟨q0, q1, q2⟩
          · exact absurd h2 hn
          · refine .inr ⟨q2, r, q0, q1, fun s hs => Ev.succ ?_⟩
            simp only [laws_szInt64SS.l0, if_pos (ilt hi'), if_pos (i0 i), up1 i (by omega)]
            exact Ev.bind ⟨0, fun _ _ => hr⟩ (by simp only [if_neg hn]; exact hs)) (a - (l.length : Int)) (by omega) (by omega)
    refine ⟨r, by simp only [if_neg h]; exact hr, ?_⟩
    rcases hr2 with h2 | ⟨q0, q1, q2⟩
    · exact .inl h2
    · exact .inr ⟨q0, by omega, ⟨by omega, q2⟩⟩
theorem laws_szInt64SSS_ev (l : List (List (List Int))) (a : Int) (h0 : 0 ≤ a) (h1 : a ≤ 1048576) (hl : l.length ≤ 9223372036854775807) (hi : ∀ x ∈ l, (x.length ≤ 9223372036854775807 ∧ ∀ y ∈ x, y.length ≤ 9223372036854775807)) :
    ∃ r, Ev (fun k => laws_szInt64SSS.f k l a) r ∧ (r < 0 ∨ (0 ≤ r ∧ r ≤ a ∧ sm2 l)) := by
  unfold laws_szInt64SSS.f
  rw [take1 a _ h0 h1 hl]
  by_cases h : a - (l.length : Int) < 0
  · exact ⟨-1, by simp only [if_pos h]; exact Ev.now _, .inl (by omega)⟩
  · obtain ⟨r, hr, hr2⟩ := szLoop l [] sm1 (fun i c k => laws_szInt64SSS.l0 k l c i) (fun c => by
        refine Ev.succ ?_
        simp only [laws_szInt64SSS.l0, if_neg inlt]
        exact Ev.now _) (fun i hi' c c0 c1 => by
        have hm := getD_mem l i [] hi'
        obtain ⟨r, hr, hr2⟩ := laws_szInt64SS_ev (l.getD i []) c c0 c1 (hi _ hm).1 (hi _ hm).2
        by_cases hn : r < 0
        · refine .inl (Ev.succ ?_)
          simp only [laws_szInt64SSS.l0, if_pos (ilt hi'), if_pos (i0 i)]
          exact Ev.bind hr (by simp only [if_pos hn]; exact Ev.now _)
        · rcases hr2 with h2 | ⟨q0, q1, q2⟩
          · exact absurd h2 hn
          · refine .inr ⟨q2, r, q0, q1, fun s hs => Ev.succ ?_⟩
            simp only [laws_szInt64SSS.l0, if_pos (ilt hi'), if_pos (i0 i), up1 i (by omega)]
            exact Ev.bind hr (by simp only [if_neg hn]; exact hs)) (a - (l.length : Int)) (by omega) (by omega)
    refine ⟨r, by simp only [if_neg h]; exact hr, ?_⟩
    rcases hr2 with h2 | ⟨q0, q1, q2⟩
    · exact .inl h2
    · exact .inr ⟨q0, by omega, ⟨by omega, q2⟩⟩
end Go.Proofs.Ytcoaplkoilhhbaa.Br
namespace Go.Proofs.Ytcoaplkoilhhbaa.Br
open Go.RowKit Go.Proofs.Ytcoaplkoilhhbaa.P Go.Proofs.YtcoaplkoilhhbaaW.PrintWords Go.Proofs.YtcoaplkoilhhbaaW.PrintLast Go.Proofs.YtcoaplkoilhhbaaW.PrintMore Go.Proofs.Ytcoaplkoilhhbaa.Th
set_option linter.unusedVariables false
set_option linter.unusedSimpArgs false
def sm3 {α : Type} (l : List (List (List (List α)))) : Prop := l.length ≤ 1048576 ∧ ∀ x ∈ l, sm2 x

theorem laws_eqPushSSS_ev (x y : List (List (List S59))) (hx : sm2 x) : Ev (fun k => laws_eqPushSSS.f k x y) (eqv (eqv (eqv epush z59) ([] : (List S59))) ([] : (List (List S59))) x y) := by
  have hl : x.length ≤ 1048576 := hx.1
  unfold laws_eqPushSSS.f eqv
  refine lenEv (fun h => allLoop x.length (fun i k => laws_eqPushSSS.l0 k x y (i : Int)) _ ?_ ?_)
  · refine Ev.succ ?_
    simp only [laws_eqPushSSS.l0, if_neg inlt]
    exact Ev.now _
  · intro i hi r hr
    refine Ev.succ ?_
    simp only [laws_eqPushSSS.l0, if_pos (ilt hi), if_pos (i0 i), if_pos (ilt (show i < y.length by omega)), up1 i (by omega)]
    exact andEv (laws_eqPushSS_ev _ _ (hx.2 _ (getD_mem x i _ hi))) hr

theorem laws_eqInt64SSSS_ev (x y : List (List (List (List Int)))) (hx : sm3 x) : Ev (fun k => laws_eqInt64SSSS.f k x y) (eqv (eqv (eqv (eqv eint 0) ([] : (List Int))) ([] : (List (List Int)))) ([] : (List (List (List Int)))) x y) := by
  have hl : x.length ≤ 1048576 := hx.1
  unfold laws_eqInt64SSSS.f eqv
  refine lenEv (fun h => allLoop x.length (fun i k => laws_eqInt64SSSS.l0 k x y (i : Int)) _ ?_ ?_)
  · refine Ev.succ ?_
    simp only [laws_eqInt64SSSS.l0, if_neg inlt]
    exact Ev.now _
  · intro i hi r hr
    refine Ev.succ ?_
    simp only [laws_eqInt64SSSS.l0, if_pos (ilt hi), if_pos (i0 i), if_pos (ilt (show i < y.length by omega)), up1 i (by omega)]
    exact andEv (laws_eqInt64SSS_ev _ _ (hx.2 _ (getD_mem x i _ hi))) hr

theorem laws_toPushSSS_ev (l : List (List (List S88))) (hl : sm2 l) : Ev (fun k => laws_toPushSSS.f k l) (l.map (List.map (List.map cPush))) := by
  have hl' : l.length ≤ 1048576 := hl.1
  unfold laws_toPushSSS.f
  simp only [if_pos (i0 l.length), Int.toNat_natCast, if_pos (show l.length ≤ 11728124029610 by omega)]
  refine toLoop l.length (fun i o k => laws_toPushSSS.l0 k l o i) (l.map (List.map (List.map cPush))) [] (by simp) ?_ ?_ _ (by simp)
  · intro o
    refine Ev.succ ?_
    simp only [laws_toPushSSS.l0, if_neg inlt]
    exact Ev.now _
  · intro i o hi ho h
    refine Ev.succ ?_
    rw [getD_map (List.map (List.map cPush)) l i [] _ hi] at h
    simp only [laws_toPushSSS.l0, if_pos (ilt hi), if_pos (i0 i), if_pos (ilt (show i < o.length by omega)), up1 i (by omega), Int.toNat_natCast]
    exact Ev.bind (laws_toPushSS_ev (l.getD i []) (hl.2 _ (getD_mem l i _ hi))) h

theorem laws_toInt64SSSS_ev (l : List (List (List (List Int)))) (hl : sm3 l) : Ev (fun k => laws_toInt64SSSS.f k l) l := by
  have hl' : l.length ≤ 1048576 := hl.1
  unfold laws_toInt64SSSS.f
  simp only [if_pos (i0 l.length), Int.toNat_natCast, if_pos (show l.length ≤ 11728124029610 by omega)]
  refine toLoop l.length (fun i o k => laws_toInt64SSSS.l0 k l o i) l [] (by simp) ?_ ?_ _ (by simp)
  · intro o
    refine Ev.succ ?_
    simp only [laws_toInt64SSSS.l0, if_neg inlt]
    exact Ev.now _
  · intro i o hi ho h
    refine Ev.succ ?_
    simp only [laws_toInt64SSSS.l0, if_pos (ilt hi), if_pos (i0 i), if_pos (ilt (show i < o.length by omega)), up1 i (by omega), Int.toNat_natCast]
    exact Ev.bind (laws_toInt64SSS_ev (l.getD i []) (hl.2 _ (getD_mem l i _ hi))) h

theorem laws_szPushSSS_ev (l : List (List (List S88))) (a : Int) (h0 : 0 ≤ a) (h1 : a ≤ 1048576) (hl : l.length ≤ 9223372036854775807) (hi : ∀ x ∈ l, (x.length ≤ 9223372036854775807 ∧ ∀ x' ∈ x, x'.length ≤ 9223372036854775807)) :
    ∃ r, Ev (fun k => laws_szPushSSS.f k l a) r ∧ (r < 0 ∨ (0 ≤ r ∧ r ≤ a ∧ sm2 l)) := by
  unfold laws_szPushSSS.f
  rw [take1 a _ h0 h1 hl]
  by_cases h : a - (l.length : Int) < 0
  · exact ⟨-1, by simp only [if_pos h]; exact Ev.now _, .inl (by omega)⟩
  · obtain ⟨r, hr, hr2⟩ := szLoop l [] sm1 (fun i c k => laws_szPushSSS.l0 k l c i) (fun c => by
        refine Ev.succ ?_
        simp only [laws_szPushSSS.l0, if_neg inlt]
        exact Ev.now _) (fun i hi' c c0 c1 => by
        have hm := getD_mem l i [] hi'
        obtain ⟨r, hr, hr2⟩ := laws_szPushSS_ev (l.getD i []) c c0 c1 (hi _ hm).1 (hi _ hm).2
        by_cases hn : r < 0
        · refine .inl (Ev.succ ?_)
          simp only [laws_szPushSSS.l0, if_pos (ilt hi'), if_pos (i0 i)]
          exact Ev.bind hr (by simp only [if_pos hn]; exact Ev.now _)
        · rcases hr2 with h2 | ⟨q0, q1, q2⟩
          · exact absurd h2 hn
          · refine .inr ⟨q2, r, q0, q1, fun s hs => Ev.succ ?_⟩
            simp only [laws_szPushSSS.l0, if_pos (ilt hi'), if_pos (i0 i), up1 i (by omega)]
            exact Ev.bind hr (by simp only [if_neg hn]; exact hs)) (a - (l.length : Int)) (by omega) (by omega)
    refine ⟨r, by simp only [if_neg h]; exact hr, ?_⟩
    rcases hr2 with h2 | ⟨q0, q1, q2⟩
    · exact .inl h2
    · exact .inr ⟨q0, by omega, ⟨by omega, q2⟩⟩

theorem laws_szInt64SSSS_ev (l : List (List (List (List Int)))) (a : Int) (h0 : 0 ≤ a) (h1 : a ≤ 1048576) (hl : l.length ≤ 9223372036854775807) (hi : ∀ x ∈ l, (x.length ≤ 9223372036854775807 ∧ ∀ x' ∈ x, (x'.length ≤ 9223372036854775807 ∧ ∀ x'' ∈ x', x''.length ≤ 9223372036854775807))) :
    ∃ r, Ev (fun k => laws_szInt64SSSS.f k l a) r ∧ (r < 0 ∨ (0 ≤ r ∧ r ≤ a ∧ sm3 l)) := by
  unfold laws_szInt64SSSS.f
  rw [take1 a _ h0 h1 hl]
  by_cases h : a - (l.length : Int) < 0
  · exact ⟨-1, by simp only [if_pos h]; exact Ev.now _, .inl (by omega)⟩
  · obtain ⟨r, hr, hr2⟩ := szLoop l [] sm2 (fun i c k => laws_szInt64SSSS.l0 k l c i) (fun c => by
        refine Ev.succ ?_
        simp only [laws_szInt64SSSS.l0, if_neg inlt]
        exact Ev.now _) (fun i hi' c c0 c1 => by
        have hm := getD_mem l i [] hi'
        obtain ⟨r, hr, hr2⟩ := laws_szInt64SSS_ev (l.getD i []) c c0 c1 (hi _ hm).1 (hi _ hm).2
        by_cases hn : r < 0
        · refine .inl (Ev.succ ?_)
          simp only [laws_szInt64SSSS.l0, if_pos (ilt hi'), if_pos (i0 i)]
          exact Ev.bind hr (by simp only [if_pos hn]; exact Ev.now _)
        · rcases hr2 with h2 | ⟨q0, q1, q2⟩
          · exact absurd h2 hn
          · refine .inr ⟨q2, r, q0, q1, fun s hs => Ev.succ ?_⟩
            simp only [laws_szInt64SSSS.l0, if_pos (ilt hi'), if_pos (i0 i), up1 i (by omega)]
            exact Ev.bind hr (by simp only [if_neg hn]; exact hs)) (a - (l.length : Int)) (by omega) (by omega)
    refine ⟨r, by simp only [if_neg h]; exact hr, ?_⟩
    rcases hr2 with h2 | ⟨q0, q1, q2⟩
    · exact .inl h2
    · exact .inr ⟨q0, by omega, ⟨by omega, q2⟩⟩

theorem laws_szChoices_ev (a : Int) (l1 : List Int) (l2 : List Bool) (l3 : List (List (List S88))) (l4 : List (List (List (List Int)))) (l5 : List (List (List Int))) (c : Int) (h0 : 0 ≤ c) (h1 : c ≤ 1048576)
    (g1 : l1.length ≤ 9223372036854775807) (g2 : l2.length ≤ 9223372036854775807) (g3 : (l3.length ≤ 9223372036854775807 ∧ ∀ l3' ∈ l3, (l3'.length ≤ 9223372036854775807 ∧ ∀ l3'' ∈ l3', l3''.length ≤ 9223372036854775807))) (g4 : (l4.length ≤ 9223372036854775807 ∧ ∀ l4' ∈ l4, (l4'.length ≤ 9223372036854775807 ∧ ∀ l4'' ∈ l4', (l4''.length ≤ 9223372036854775807 ∧ ∀ l4''' ∈ l4'', l4'''.length ≤ 9223372036854775807)))) (g5 : (l5.length ≤ 9223372036854775807 ∧ ∀ l5' ∈ l5, (l5'.length ≤ 9223372036854775807 ∧ ∀ l5'' ∈ l5', l5''.length ≤ 9223372036854775807))) :
    ∃ r, Ev (fun k => laws_szChoices.f k a l1 l2 l3 l4 l5 c) r ∧ (r < 0 ∨ (0 ≤ r ∧ r ≤ c ∧ sm0 l1 ∧ sm0 l2 ∧ sm2 l3 ∧ sm3 l4 ∧ sm2 l5)) := by
  unfold laws_szChoices.f
  obtain ⟨r1, e1, q1⟩ := laws_szInt64S_ev l1 c h0 h1 g1
  by_cases n1 : r1 < 0
  · exact ⟨-1, Ev.bind ⟨0, fun _ _ => e1⟩ (by simp only [if_pos n1]; exact Ev.now _), .inl (by omega)⟩
  obtain ⟨r2, e2, q2⟩ := laws_szBoolS_ev l2 r1 (by omega) (by omega) g2
  by_cases n2 : r2 < 0
  · exact ⟨-1, Ev.bind ⟨0, fun _ _ => e1⟩ (by simp only [if_neg n1]; exact Ev.bind ⟨0, fun _ _ => e2⟩ (by simp only [if_pos n2]; exact Ev.now _)), .inl (by omega)⟩
  obtain ⟨r3, e3, q3⟩ := laws_szPushSSS_ev l3 r2 (by omega) (by omega) g3.1 g3.2
  by_cases n3 : r3 < 0
  · exact ⟨-1, Ev.bind ⟨0, fun _ _ => e1⟩ (by simp only [if_neg n1]; exact Ev.bind ⟨0, fun _ _ => e2⟩ (by simp only [if_neg n2]; exact Ev.bind e3 (by simp only [if_pos n3]; exact Ev.now _))), .inl (by omega)⟩
  obtain ⟨r4, e4, q4⟩ := laws_szInt64SSSS_ev l4 r3 (by omega) (by omega) g4.1 g4.2
  by_cases n4 : r4 < 0
  · exact ⟨-1, Ev.bind ⟨0, fun _ _ => e1⟩ (by simp only [if_neg n1]; exact Ev.bind ⟨0, fun _ _ => e2⟩ (by simp only [if_neg n2]; exact Ev.bind e3 (by simp only [if_neg n3]; exact Ev.bind e4 (by simp only [if_pos n4]; exact Ev.now _)))), .inl (by omega)⟩
  obtain ⟨r5, e5, q5⟩ := laws_szInt64SSS_ev l5 r4 (by omega) (by omega) g5.1 g5.2
  by_cases n5 : r5 < 0
  · exact ⟨-1, Ev.bind ⟨0, fun _ _ => e1⟩ (by simp only [if_neg n1]; exact Ev.bind ⟨0, fun _ _ => e2⟩ (by simp only [if_neg n2]; exact Ev.bind e3 (by simp only [if_neg n3]; exact Ev.bind e4 (by simp only [if_neg n4]; exact Ev.bind e5 (by simp only [if_pos n5]; exact Ev.now _))))), .inl (by omega)⟩
  · refine ⟨r5, Ev.bind ⟨0, fun _ _ => e1⟩ (by simp only [if_neg n1]; exact Ev.bind ⟨0, fun _ _ => e2⟩ (by simp only [if_neg n2]; exact Ev.bind e3 (by simp only [if_neg n3]; exact Ev.bind e4 (by simp only [if_neg n4]; exact Ev.bind e5 (by simp only [if_neg n5]; exact Ev.now _))))), .inr ?_⟩
    rcases q1 with q1 | q1
    · omega
    rcases q2 with q2 | q2
    · omega
    rcases q3 with q3 | q3
    · omega
    rcases q4 with q4 | q4
    · omega
    rcases q5 with q5 | q5
    · omega
    exact ⟨by omega, by omega, q1.2.2, q2.2.2, q3.2.2, q4.2.2, q5.2.2⟩
theorem laws_toChoices_ev (a : Int) (l1 : List Int) (l2 : List Bool) (l3 : List (List (List S88))) (l4 : List (List (List (List Int)))) (l5 : List (List (List Int))) (h1 : sm0 l1) (h2 : sm0 l2) (h3 : sm2 l3) (h4 : sm3 l4) (h5 : sm2 l5) :
    Ev (fun k => laws_toChoices.f k a l1 l2 l3 l4 l5) (a, l1, l2, l3.map (List.map (List.map cPush)), l4, l5) := by
  unfold laws_toChoices.f
  exact Ev.bind (laws_toInt64S_ev l1 h1) (Ev.bind (laws_toBoolS_ev l2 h2) (Ev.bind (laws_toPushSSS_ev l3 h3) (Ev.bind (laws_toInt64SSSS_ev l4 h4) (Ev.bind (laws_toInt64SSS_ev l5 h5) (Ev.now _)))))
theorem laws_eqChoices_ev (a : Int) (l1 : List Int) (l2 : List Bool) (l3 : List (List (List S59))) (l4 : List (List (List (List Int)))) (l5 : List (List (List Int))) (h1 : sm0 l1) (h2 : sm0 l2) (h3 : sm2 l3) (h4 : sm3 l4) (h5 : sm2 l5) :
    Ev (fun k => laws_eqChoices.f k a l1 l2 l3 l4 l5 a l1 l2 l3 l4 l5) true := by
  unfold laws_eqChoices.f
  simp only [if_true]
  have e1 := laws_eqInt64S_ev l1 l1 h1
  rw [eqv_self _ _ _ (fun a _ => eint_self a)] at e1
  have e2 := laws_eqBoolS_ev l2 l2 h2
  rw [eqv_self _ _ _ (fun a _ => ebool_self a)] at e2
  have e3 := laws_eqPushSSS_ev l3 l3 h3
  rw [eqv_self _ _ _ (fun a _ => eqv_self _ _ _ (fun a _ => eqv_self _ _ _ (fun a _ => epush_self a)))] at e3
  have e4 := laws_eqInt64SSSS_ev l4 l4 h4
  rw [eqv_self _ _ _ (fun a _ => eqv_self _ _ _ (fun a _ => eqv_self _ _ _ (fun a _ => eqv_self _ _ _ (fun a _ => eint_self a))))] at e4
  have e5 := laws_eqInt64SSS_ev l5 l5 h5
  rw [eqv_self _ _ _ (fun a _ => eqv_self _ _ _ (fun a _ => eqv_self _ _ _ (fun a _ => eint_self a)))] at e5
  refine Ev.bind e1 ?_
  simp only [if_true]
  refine Ev.bind e2 ?_
  simp only [if_true]
  refine Ev.bind e3 ?_
  simp only [if_true]
  refine Ev.bind e4 ?_
  simp only [if_true]
  refine Ev.bind e5 ?_
  simp only [if_true]
  exact Ev.now _
end Go.Proofs.Ytcoaplkoilhhbaa.Br
namespace Go.Proofs.Ytcoaplkoilhhbaa.Br
open Go.RowKit Go.Proofs.Ytcoaplkoilhhbaa.P Go.Proofs.YtcoaplkoilhhbaaW.PrintWords Go.Proofs.YtcoaplkoilhhbaaW.PrintLast Go.Proofs.YtcoaplkoilhhbaaW.PrintMore Go.Proofs.Ytcoaplkoilhhbaa.Th
set_option linter.unusedVariables false
set_option linter.unusedSimpArgs false
theorem in_eq (a lo hi : Int) : spec_l00In.f a lo hi = some (decide (lo ≤ a ∧ a ≤ hi)) := by
  unfold spec_l00In.f
  by_cases h : a ≥ lo
  · rw [if_pos h]; congr 1; simp; omega
  · rw [if_neg h]; congr 1; simp; omega
theorem within_eq (a lo hi : Int) : impl_within.f a lo hi = some (decide (lo ≤ a ∧ a ≤ hi)) := by
  unfold impl_within.f
  by_cases h : a ≥ lo
  · rw [if_pos h]; congr 1; simp; omega
  · rw [if_neg h]; congr 1; simp; omega

end Go.Proofs.Ytcoaplkoilhhbaa.Br
namespace Go.Proofs.Ytcoaplkoilhhbaa.Br
open Go.RowKit Go.Proofs.Ytcoaplkoilhhbaa.P Go.Proofs.YtcoaplkoilhhbaaW.PrintWords Go.Proofs.YtcoaplkoilhhbaaW.PrintLast Go.Proofs.YtcoaplkoilhhbaaW.PrintMore Go.Proofs.Ytcoaplkoilhhbaa.Th
set_option linter.unusedVariables false
set_option linter.unusedSimpArgs false
set_option linter.unusedSectionVars false
def inR (n x : Int) : Bool := decide (0 ≤ x ∧ x ≤ n - 1)
end Go.Proofs.Ytcoaplkoilhhbaa.Br
namespace Go.Proofs.Ytcoaplkoilhhbaa.Br
open Go.RowKit Go.Proofs.Ytcoaplkoilhhbaa.P Go.Proofs.YtcoaplkoilhhbaaW.PrintWords Go.Proofs.YtcoaplkoilhhbaaW.PrintLast Go.Proofs.YtcoaplkoilhhbaaW.PrintMore Go.Proofs.Ytcoaplkoilhhbaa.Th
set_option linter.unusedVariables false
set_option linter.unusedSimpArgs false
/-- The greatest of some numbers and a first one. -/
def most (x : Int) (l : List Int) : Int := l.foldl mx x

end Go.Proofs.Ytcoaplkoilhhbaa.Br
namespace Go.Proofs.Ytcoaplkoilhhbaa.Br
open Go.RowKit Go.Proofs.Ytcoaplkoilhhbaa.P Go.Proofs.YtcoaplkoilhhbaaW.PrintWords Go.Proofs.YtcoaplkoilhhbaaW.PrintLast Go.Proofs.YtcoaplkoilhhbaaW.PrintMore Go.Proofs.Ytcoaplkoilhhbaa.Th
set_option linter.unusedVariables false
set_option linter.unusedSimpArgs false
/-- Does a list rise from 0 to a number. -/
def ris (last : Int) (l : List Int) : Bool := allN l.length (fun i => decide (0 ≤ rd l i ∧ rd l i ≤ last) && (decide (i = 0) || decide (rd l ((i - 1 : Nat) : Int) < rd l i)))
theorem dn1 (i : Nat) (h0 : 0 < i) (h : i < 9223372036854775807) : wrap64 ((i : Int) - 1) = ((i - 1 : Nat) : Int) := by rw [w64 (by omega) (by omega)]; omega
theorem sRises_ev (l : List Int) (last : Int) (hl : sm0 l) : Ev (fun k => spec_l00Rises.f k l 0 last) (ris last l) := by
  unfold spec_l00Rises.f ris
  have hl' : l.length ≤ 1048576 := hl
  refine allLoop l.length (fun i k => spec_l00Rises.l0 k l 0 last (i : Int)) _ ?_ ?_
  · refine Ev.succ ?_
    simp only [spec_l00Rises.l0, if_neg inlt]
    exact Ev.now _
  · intro i hi r hr
    refine Ev.succ ?_
    simp only [spec_l00Rises.l0, if_pos (ilt hi), if_pos (i0 i), in_eq, Option.bind_some, up1 i (by omega)]
    by_cases h1 : 0 ≤ rd l i ∧ rd l i ≤ last
    · simp only [decide_eq_true h1, if_true, Bool.true_and]
      by_cases h2 : i = 0
      · subst h2
        simp only [Int.natCast_zero, show ¬ ((0 : Int) > 0) by decide, if_false, decide_true, Bool.true_or, Bool.true_and]
        exact hr
      · have hi0 : (i : Int) > 0 := by omega
        simp only [if_pos hi0, dn1 i (by omega) (by omega), if_pos (i0 (i - 1)), if_pos (ilt (show i - 1 < l.length by omega)), decide_eq_false h2, Bool.false_or]
        by_cases h3 : rd l ((i - 1 : Nat) : Int) < rd l i
        · simp only [decide_eq_true h3, Bool.true_and, if_neg (show ¬ rd l ((i - 1 : Nat) : Int) ≥ rd l i by omega)]
          exact hr
        · simp only [decide_eq_false h3, Bool.false_and, if_pos (show rd l ((i - 1 : Nat) : Int) ≥ rd l i by omega)]
          exact Ev.now _
    · simp only [decide_eq_false h1, Bool.false_eq_true, if_false, Bool.false_and]
      exact Ev.now _
theorem iRises_ev (l : List Int) (n : Int) (h0 : 0 ≤ n) (h1 : n ≤ 1048576) (hl : sm0 l) : Ev (fun k => impl_isRising.f k l n) (ris (n - 1) l) := by
  unfold impl_isRising.f ris
  have hl' : l.length ≤ 1048576 := hl
  have hn : wrap64 (n - 1) = n - 1 := w64 (by omega) (by omega)
  refine allLoop l.length (fun i k => impl_isRising.l0 k l n l (l.length : Int) (i : Int)) _ ?_ ?_
  · refine Ev.succ ?_
    simp only [impl_isRising.l0, if_neg inlt]
    exact Ev.now _
  · intro i hi r hr
    refine Ev.succ ?_
    simp only [impl_isRising.l0, if_pos (ilt hi), if_pos (i0 i), hn, within_eq, Option.bind_some, up1 i (by omega)]
    by_cases h1 : 0 ≤ rd l i ∧ rd l i ≤ n - 1
    · simp only [decide_eq_true h1, if_true, Bool.true_and]
      by_cases h2 : i = 0
      · subst h2
        simp only [Int.natCast_zero, show ¬ ((0 : Int) > 0) by decide, if_false, decide_true, Bool.true_or, Bool.true_and]
        exact hr
      · have hi0 : (i : Int) > 0 := by omega
        simp only [if_pos hi0, dn1 i (by omega) (by omega), if_pos (i0 (i - 1)), if_pos (ilt (show i - 1 < l.length by omega)), decide_eq_false h2, Bool.false_or]
        by_cases h3 : rd l ((i - 1 : Nat) : Int) < rd l i
        · simp only [decide_eq_true h3, Bool.true_and, if_neg (show ¬ rd l i ≤ rd l ((i - 1 : Nat) : Int) by omega)]
          exact hr
        · simp only [decide_eq_false h3, Bool.false_and, if_pos (show rd l i ≤ rd l ((i - 1 : Nat) : Int) by omega)]
          exact Ev.now _
    · simp only [decide_eq_false h1, Bool.false_eq_true, if_false, Bool.false_and]
      exact Ev.now _
end Go.Proofs.Ytcoaplkoilhhbaa.Br
namespace Go.Proofs.Ytcoaplkoilhhbaa.Br
open Go.RowKit Go.Proofs.Ytcoaplkoilhhbaa.P Go.Proofs.YtcoaplkoilhhbaaW.PrintWords Go.Proofs.YtcoaplkoilhhbaaW.PrintLast Go.Proofs.YtcoaplkoilhhbaaW.PrintMore Go.Proofs.Ytcoaplkoilhhbaa.Th
set_option linter.unusedVariables false
set_option linter.unusedSimpArgs false
set_option linter.unusedSectionVars false
def ltP (p q : S59) : Bool := decide (p.f0 < q.f0 ∨ (p.f0 = q.f0 ∧ p.f1 < q.f1))
def pushAt (n a : Int) (l : List S59) (i : Nat) : Bool := inR n (l.getD i z59).f0 && (inR a (l.getD i z59).f1 && (decide (i = 0) || ltP (l.getD (i - 1) z59) (l.getD i z59)))
theorem vn1 (i : Nat) (h0 : 0 < i) (h : i < 9223372036854775807) : wrap64 ((i : Int) - 1) = ((i - 1 : Nat) : Int) := by rw [w64 (by omega) (by omega)]; omega
theorem rdP (l : List S59) (i : Nat) : rd_T59 l (i : Int) = l.getD i z59 := by unfold rd_T59; rw [Int.toNat_natCast]
theorem sPushes_ev (l : List S59) (n a : Int) (hl : l.length ≤ 1048576) (hn0 : -1000000 ≤ n) (hn1 : n ≤ 1000000) (ha0 : -1000000 ≤ a) (ha1 : a ≤ 1000000) : Ev (fun k => spec_l03Pushes.f k l n a) (allN l.length (pushAt n a l)) := by
  have f1 : wrap64 (n - 1) = n - 1 := w64 (by omega) (by omega)
  have f2 : wrap64 (a - 1) = a - 1 := w64 (by omega) (by omega)
  unfold spec_l03Pushes.f
  refine allLoop l.length (fun i k => spec_l03Pushes.l0 k l n a (i : Int)) _ ?_ ?_
  · refine Ev.succ ?_
    simp only [spec_l03Pushes.l0, if_neg inlt]
    exact Ev.now _
  · intro i hi r hr
    have no : ∀ x y, Ev (fun k => spec_l03Pushes.j1 k l n a i true x y) false := fun x y => by
      refine Ev.succ ?_
      simp only [spec_l03Pushes.j1, if_true]
      exact Ev.now _
    refine Ev.succ ?_
    simp only [spec_l03Pushes.l0, if_pos (ilt hi), if_pos (i0 i), in_eq, Option.bind_some, f1, f2, rdP]
    unfold pushAt inR
    by_cases q1 : 0 ≤ (l.getD i z59).f0 ∧ (l.getD i z59).f0 ≤ n - 1
    · rw [decide_eq_true q1, Bool.true_and]
      simp only [if_true]
      by_cases q2 : 0 ≤ (l.getD i z59).f1 ∧ (l.getD i z59).f1 ≤ a - 1
      · rw [decide_eq_true q2, Bool.true_and]
        refine Ev.succ ?_
        simp only [spec_l03Pushes.j1, Bool.not_true, Bool.false_eq_true, if_false, up1 i (by omega)]
        by_cases h2 : i = 0
        · subst h2
          simp only [Int.natCast_zero, show ¬ ((0 : Int) > 0) by decide, if_false, decide_true, Bool.true_or, Bool.true_and]
          exact hr
        · have hi0 : (i : Int) > 0 := by omega
          simp only [if_pos hi0, vn1 i (by omega) (by omega), if_pos (i0 (i - 1)), if_pos (ilt (show i - 1 < l.length by omega)), decide_eq_false h2, Bool.false_or, rdP]
          unfold ltP
          by_cases h3 : (l.getD (i - 1) z59).f0 > (l.getD i z59).f0
          · rw [decide_eq_false (by omega : ¬ ((l.getD (i - 1) z59).f0 < (l.getD i z59).f0 ∨ ((l.getD (i - 1) z59).f0 = (l.getD i z59).f0 ∧ (l.getD (i - 1) z59).f1 < (l.getD i z59).f1))), Bool.false_and]
            simp only [if_pos h3]
            exact Ev.now _
          · simp only [if_neg h3]
            by_cases h4 : (l.getD (i - 1) z59).f0 = (l.getD i z59).f0
            · simp only [if_pos h4]
              by_cases h5 : (l.getD (i - 1) z59).f1 ≥ (l.getD i z59).f1
              · rw [decide_eq_false (by omega : ¬ ((l.getD (i - 1) z59).f0 < (l.getD i z59).f0 ∨ ((l.getD (i - 1) z59).f0 = (l.getD i z59).f0 ∧ (l.getD (i - 1) z59).f1 < (l.getD i z59).f1))), Bool.false_and]
                simp only [if_pos h5]
                exact Ev.now _
              · rw [decide_eq_true (by omega : ((l.getD (i - 1) z59).f0 < (l.getD i z59).f0 ∨ ((l.getD (i - 1) z59).f0 = (l.getD i z59).f0 ∧ (l.getD (i - 1) z59).f1 < (l.getD i z59).f1))), Bool.true_and]
                simp only [if_neg h5]
                exact hr
            · rw [decide_eq_true (by omega : ((l.getD (i - 1) z59).f0 < (l.getD i z59).f0 ∨ ((l.getD (i - 1) z59).f0 = (l.getD i z59).f0 ∧ (l.getD (i - 1) z59).f1 < (l.getD i z59).f1))), Bool.true_and]
              simp only [if_neg h4]
              exact hr
      · rw [decide_eq_false q2, Bool.false_and, Bool.false_and]
        exact no _ _
    · rw [decide_eq_false q1, Bool.false_and, Bool.false_and]
      simp only [Bool.false_eq_true, if_false]
      exact no _ _
theorem cmp1_eq (x y : Int) : cmp_Compare_int64.f x y = some (if x < y then -1 else if x > y then 1 else 0) := by
  unfold cmp_Compare_int64.f cmp_isNaN_int64.f
  simp only [bne_self_eq_false, Option.bind_some, Bool.false_eq_true, if_false]
  by_cases h : x < y
  · simp only [if_pos h]
  · simp only [if_neg h]
    by_cases h2 : x > y
    · simp only [if_pos h2]
    · simp only [if_neg h2]
theorem or_ev (a b : Int) : Ev (fun k => cmp_Or_int.f k [a, b]) (if a = 0 then b else a) := by
  unfold cmp_Or_int.f
  have e0 : rd [a, b] 0 = a := rfl
  have e1 : rd [a, b] 1 = b := rfl
  have w1 : wrap64 ((0 : Int) + 1) = 1 := (w64 (by omega) (by omega)).trans rfl
  have w2 : wrap64 ((1 : Int) + 1) = 2 := (w64 (by omega) (by omega)).trans rfl
  refine Ev.succ ?_
  simp only [cmp_Or_int.l0, List.length_cons, List.length_nil, e0, w1, show ((0 : Int) < ((0 + 1 + 1 : Nat) : Int)) by decide, show ((0 : Int) ≤ 0) by decide, if_true]
  by_cases h : a = 0
  · simp only [if_pos h]
    refine Ev.succ ?_
    simp only [cmp_Or_int.l0, List.length_cons, List.length_nil, e1, w2, show ((1 : Int) < ((0 + 1 + 1 : Nat) : Int)) by decide, show ((0 : Int) ≤ 1) by decide, if_true]
    by_cases h2 : b = 0
    · simp only [if_pos h2]
      refine Ev.succ ?_
      simp only [cmp_Or_int.l0, show ¬ ((2 : Int) < ((0 + 1 + 1 : Nat) : Int)) by decide, if_false]
      rw [h2]
      exact Ev.now _
    · simp only [if_neg h2]
      exact Ev.now _
  · simp only [if_neg h]
    exact Ev.now _
theorem cmpP_ev (p q : S59) : ∃ r : Int, Ev (fun k => impl_comparePushes.f k p.f0 p.f1 q.f0 q.f1) r ∧ decide (r ≥ 0) = !ltP p q := by
  refine ⟨if (if p.f0 < q.f0 then (-1 : Int) else if p.f0 > q.f0 then 1 else 0) = 0 then (if p.f1 < q.f1 then -1 else if p.f1 > q.f1 then 1 else 0) else (if p.f0 < q.f0 then -1 else if p.f0 > q.f0 then 1 else 0), ?_, ?_⟩
  · unfold impl_comparePushes.f
    simp only [cmp1_eq, Option.bind_some]
    exact Ev.bind (or_ev _ _) (Ev.now _)
  · unfold ltP
    generalize p.f0 = a
    generalize q.f0 = b
    generalize p.f1 = c
    generalize q.f1 = d
    by_cases h1 : a < b
    · simp [h1]
    · by_cases h2 : b < a
      · have h3 : ¬ a = b := by omega
        simp [h1, h2, h3]
      · have h3 : a = b := by omega
        subst h3
        by_cases h3 : c < d
        · simp [h3]
        · by_cases h4 : d < c <;> simp [h3, h4]
/-- The rows of a state and of a kind. -/
def retM (n : Int) (l : List (List Int)) : Bool := allN l.length (fun j => ris (n - 1) (l.getD j []))
def cellM (n a : Int) (l3 : List (List (List S59))) (l4 : List (List (List (List Int)))) (l5 : List (List (List Int))) (i q : Nat) : Bool :=
  allN ((l3.getD i []).getD q []).length (pushAt n a ((l3.getD i []).getD q [])) && (ris (n - 1) ((l5.getD i []).getD q []) && (decide ((((l4.getD i []).getD q []).length : Int) = a + 1) && retM n ((l4.getD i []).getD q [])))
def stM (n a : Int) (l3 : List (List (List S59))) (l4 : List (List (List (List Int)))) (l5 : List (List (List Int))) (i : Nat) : Bool :=
  decide ((l3.getD i []).length = 2) && (decide ((l4.getD i []).length = 2) && (decide ((l5.getD i []).length = 2) && (cellM n a l3 l4 l5 i 0 && cellM n a l3 l4 l5 i 1)))
def okM (a : Int) (l1 : List Int) (l2 : List Bool) (l3 : List (List (List S59))) (l4 : List (List (List (List Int)))) (l5 : List (List (List Int))) : Bool :=
  decide (1 ≤ (l2.length : Int) ∧ (l2.length : Int) ≤ 5) && (decide (1 ≤ a ∧ a ≤ 4) && (ris ((l2.length : Int) - 1) l1 && (decide (l3.length = l2.length) && (decide (l4.length = l2.length) && (decide (l5.length = l2.length) && allN l2.length (stM (l2.length : Int) a l3 l4 l5))))))
theorem rd3 (l : List (List (List S59))) (i : Nat) : rd_L10 l (i : Int) = l.getD i [] := by unfold rd_L10; rw [Int.toNat_natCast]
theorem rd3' (l : List (List S59)) (i : Nat) : rd_L9 l (i : Int) = l.getD i [] := by unfold rd_L9; rw [Int.toNat_natCast]
theorem rd4 (l : List (List (List (List Int)))) (i : Nat) : rd_L7 l (i : Int) = l.getD i [] := by unfold rd_L7; rw [Int.toNat_natCast]
theorem rd5 (l : List (List (List Int))) (i : Nat) : rd_L6 l (i : Int) = l.getD i [] := by unfold rd_L6; rw [Int.toNat_natCast]
theorem rd6 (l : List (List Int)) (i : Nat) : rd_L5 l (i : Int) = l.getD i [] := by unfold rd_L5; rw [Int.toNat_natCast]
section
variable (n a : Int) (l1 : List Int) (l2 : List Bool) (l3 : List (List (List S59))) (l4 : List (List (List (List Int)))) (l5 : List (List (List Int))) (hn : l2.length ≤ 5) (hnn : n = (l2.length : Int)) (ha0 : 1 ≤ a) (ha1 : a ≤ 4) (h3 : sm2 l3) (h4 : sm3 l4) (h5 : sm2 l5) (e3 : l3.length = l2.length) (e4 : l4.length = l2.length) (e5 : l5.length = l2.length)
include hn hnn ha0 ha1 h3 h4 h5 e3 e4 e5
theorem specCell_ev (i q : Nat) (hi : i < l2.length) (hq : q < 2) (g3 : (l3.getD i []).length = 2) (g4 : (l4.getD i []).length = 2) (g5 : (l5.getD i []).length = 2) (R : Bool) (hR : Ev (fun k => spec_l03Ok.l1 k n i ((q + 1 : Nat) : Int) a l1 l2 l3 l4 l5) R) :
    Ev (fun k => spec_l03Ok.l1 k n i q a l1 l2 l3 l4 l5) (cellM n a l3 l4 l5 i q && R) := by
  have s3 : ((l3.getD i []).getD q []).length ≤ 1048576 := (h3.2 _ (getD_mem l3 i [] (by omega))).2 _ (getD_mem _ q _ (by omega))
  have s5 : sm0 ((l5.getD i []).getD q []) := (h5.2 _ (getD_mem l5 i [] (by omega))).2 _ (getD_mem _ q _ (by omega))
  have s4 : sm1 ((l4.getD i []).getD q []) := (h4.2 _ (getD_mem l4 i [] (by omega))).2 _ (getD_mem _ q _ (by omega))
  have s4l : ((l4.getD i []).getD q []).length ≤ 1048576 := s4.1
  have hp := sPushes_ev ((l3.getD i []).getD q []) n a s3 (by omega) (by omega) (by omega) (by omega)
  have hr5 := sRises_ev ((l5.getD i []).getD q []) (n - 1) s5
  have c1 : (q : Int) < 2 := by omega
  have c2 : (i : Int) < (l3.length : Int) := by omega
  have c3 : (q : Int) < ((l3.getD i []).length : Int) := by omega
  have c4 : (i : Int) < (l5.length : Int) := by omega
  have c5 : (q : Int) < ((l5.getD i []).length : Int) := by omega
  have c6 : (i : Int) < (l4.length : Int) := by omega
  have c7 : (q : Int) < ((l4.getD i []).length : Int) := by omega
  have u1 := up1 q (by omega)
  have f1 : wrap64 (n - 1) = n - 1 := by clear u1; exact w64 (by omega) (by omega)
  have f3 : wrap64 (a + 1) = a + 1 := by clear u1 f1; exact w64 (by omega) (by omega)
  have no : Ev (fun k => spec_l03Ok.j4 k n i q true a l1 l2 l3 l4 l5) false := by
    refine Ev.succ ?_
    simp only [spec_l03Ok.j4, if_true]
    exact Ev.now _
  have loop : ∀ j, j ≤ ((l4.getD i []).getD q []).length → Ev (fun k => spec_l03Ok.l2 k n i q j a l1 l2 l3 l4 l5) (allFromN ((l4.getD i []).getD q []).length (fun j => ris (n - 1) (((l4.getD i []).getD q []).getD j [])) j && R) := by
    refine down _ ?_ ?_
    · refine Ev.succ ?_
      rw [allFromN_end, Bool.true_and]
      simp only [spec_l03Ok.l2, if_pos (i0 i), if_pos c6, if_pos (i0 q), rd4, rd5, if_pos c7, if_neg inlt, u1]
      exact hR
    · intro j hj ih
      refine Ev.succ ?_
      rw [allFromN_step _ _ j hj, Bool.and_assoc]
      have uj := up1 j (by clear u1 f1 f3; omega)
      simp only [spec_l03Ok.l2, if_pos (i0 i), if_pos c6, if_pos (i0 q), rd4, rd5, rd6, if_pos c7, if_pos (ilt hj), if_pos (i0 j), f1, uj]
      exact andEv (sRises_ev _ _ (s4.2 _ (getD_mem _ j _ hj))) ih
  refine Ev.succ ?_
  unfold cellM
  simp only [spec_l03Ok.l1, if_pos c1, if_pos (i0 i), if_pos c2, if_pos (i0 q), rd3, rd3', rd4, rd5, rd6, if_pos c3, if_pos c4, if_pos c5, if_pos c6, if_pos c7, f1, f3]
  refine Ev.bind hp ?_
  cases allN ((l3.getD i []).getD q []).length (pushAt n a ((l3.getD i []).getD q []))
  · simp only [Bool.false_eq_true, if_false, Bool.false_and]
    exact no
  · simp only [if_true, Bool.true_and]
    refine Ev.bind hr5 ?_
    cases ris (n - 1) ((l5.getD i []).getD q [])
    · simp only [Bool.false_eq_true, if_false, Bool.false_and]
      exact no
    · simp only [if_true, Bool.true_and]
      by_cases h : (((l4.getD i []).getD q []).length : Int) = a + 1
      · rw [decide_eq_true h, Bool.true_and, show ((((l4.getD i []).getD q []).length : Int) != a + 1) = false from by rw [bne_eq_false_iff_eq]; exact h]
        refine Ev.succ ?_
        simp only [spec_l03Ok.j4, Bool.false_eq_true, if_false]
        unfold retM
        rw [← allFromN_zero]
        exact loop 0 (Nat.zero_le _)
      · rw [decide_eq_false h, Bool.false_and, Bool.false_and, show ((((l4.getD i []).getD q []).length : Int) != a + 1) = true from bne_iff_ne.2 h]
        exact no
theorem implCell_ev (i q : Nat) (hi : i < l2.length) (hq : q < 2) (g3 : (l3.getD i []).length = 2) (g4 : (l4.getD i []).length = 2) (g5 : (l5.getD i []).length = 2) (R : Bool) (hR : Ev (fun k => impl_ValidChoices.l1 k i n i ((q + 1 : Nat) : Int) a l1 l2 l3 l4 l5 n) R) :
    Ev (fun k => impl_ValidChoices.l1 k i n i q a l1 l2 l3 l4 l5 n) (cellM n a l3 l4 l5 i q && R) := by
  have s3 : ((l3.getD i []).getD q []).length ≤ 1048576 := (h3.2 _ (getD_mem l3 i [] (by omega))).2 _ (getD_mem _ q _ (by omega))
  have s5 : sm0 ((l5.getD i []).getD q []) := (h5.2 _ (getD_mem l5 i [] (by omega))).2 _ (getD_mem _ q _ (by omega))
  have s4 : sm1 ((l4.getD i []).getD q []) := (h4.2 _ (getD_mem l4 i [] (by omega))).2 _ (getD_mem _ q _ (by omega))
  have s4l : ((l4.getD i []).getD q []).length ≤ 1048576 := s4.1
  have hr5 := iRises_ev ((l5.getD i []).getD q []) n (by omega) (by omega) s5
  have c1 : (q : Int) < 2 := by omega
  have c2 : (i : Int) < (l3.length : Int) := by omega
  have c3 : (q : Int) < ((l3.getD i []).length : Int) := by omega
  have c4 : (i : Int) < (l5.length : Int) := by omega
  have c5 : (q : Int) < ((l5.getD i []).length : Int) := by omega
  have c6 : (i : Int) < (l4.length : Int) := by omega
  have c7 : (q : Int) < ((l4.getD i []).length : Int) := by omega
  have u1 := up1 q (by omega)
  have f1 : wrap64 (n - 1) = n - 1 := by clear u1; exact w64 (by omega) (by omega)
  have f2 : wrap64 (a - 1) = a - 1 := by clear u1 f1; exact w64 (by omega) (by omega)
  have f3 : wrap64 (a + 1) = a + 1 := by clear u1 f1 f2; exact w64 (by omega) (by omega)
  have no : Ev (fun k => impl_ValidChoices.j6 k i n i q true a l1 l2 l3 l4 l5 n) false := by
    refine Ev.succ ?_
    simp only [impl_ValidChoices.j6, if_true]
    exact Ev.now _
  have has : ∃ r : Int, Ev (fun k => slices_IndexFunc_LLint64_Lint64_at_impl_ValidChoices_1.l0 k ((l4.getD i []).getD q []) (((l4.getD i []).getD q []).length : Int) 0 n) r ∧ (retM n ((l4.getD i []).getD q []) = !(decide (r ≥ 0))) := by
    have loop : ∀ j, j ≤ ((l4.getD i []).getD q []).length → ∃ r : Int, Ev (fun k => slices_IndexFunc_LLint64_Lint64_at_impl_ValidChoices_1.l0 k ((l4.getD i []).getD q []) (((l4.getD i []).getD q []).length : Int) j n) r ∧ (allFromN ((l4.getD i []).getD q []).length (fun j => ris (n - 1) (((l4.getD i []).getD q []).getD j [])) j = !(decide (r ≥ 0))) := by
      refine down _ ?_ ?_
      · refine ⟨-1, Ev.succ ?_, by rw [allFromN_end]; rfl⟩
        simp only [slices_IndexFunc_LLint64_Lint64_at_impl_ValidChoices_1.l0, if_neg inlt]
        exact Ev.now _
      · intro j hj ih
        obtain ⟨r, hr, he⟩ := ih
        have hj5 := iRises_ev (((l4.getD i []).getD q []).getD j []) n (by clear u1 f1 f2 f3; omega) (by clear u1 f1 f2 f3; omega) (s4.2 _ (getD_mem _ j _ hj))
        have uj := up1 j (by clear u1 f1 f2 f3; omega)
        cases e : ris (n - 1) (((l4.getD i []).getD q []).getD j [])
        · refine ⟨(j : Int), Ev.succ ?_, ?_⟩
          · simp only [slices_IndexFunc_LLint64_Lint64_at_impl_ValidChoices_1.l0, if_pos (ilt hj), if_pos (i0 j), rd6, impl_ValidChoices_1_c.f]
            refine Ev.bind (Ev.bind hj5 (Ev.now _)) ?_
            rw [e]
            simp only [Bool.not_false, if_true]
            exact Ev.now _
          · rw [allFromN_step _ _ j hj, e, Bool.false_and]
            simp
        · refine ⟨r, Ev.succ ?_, ?_⟩
          · simp only [slices_IndexFunc_LLint64_Lint64_at_impl_ValidChoices_1.l0, if_pos (ilt hj), if_pos (i0 j), rd6, impl_ValidChoices_1_c.f, uj]
            refine Ev.bind (Ev.bind hj5 (Ev.now _)) ?_
            rw [e]
            simp only [Bool.not_true, Bool.false_eq_true, if_false]
            exact hr
          · rw [allFromN_step _ _ j hj, e, Bool.true_and, he]
    obtain ⟨r, hr, he⟩ := loop 0 (Nat.zero_le _)
    refine ⟨r, hr, ?_⟩
    unfold retM
    rw [← allFromN_zero]
    exact he
  obtain ⟨r9, hr9, he9⟩ := has
  have last : Ev (fun k => impl_ValidChoices.l2 k i q n i q ((l3.getD i []).getD q []) (((l3.getD i []).getD q []).length : Int) (((l3.getD i []).getD q []).length : Int) a l1 l2 l3 l4 l5 n) (ris (n - 1) ((l5.getD i []).getD q []) && (decide ((((l4.getD i []).getD q []).length : Int) = a + 1) && (retM n ((l4.getD i []).getD q []) && R))) := by
    refine Ev.succ ?_
    simp only [impl_ValidChoices.l2, if_neg inlt, if_pos (i0 i), if_pos (i0 q), if_pos c4, if_pos c5, if_pos c6, if_pos c7, rd4, rd5, rd6, f3, impl_size_Lint64.f, Option.bind_some]
    refine Ev.bind hr5 ?_
    cases ris (n - 1) ((l5.getD i []).getD q [])
    · simp only [Bool.false_eq_true, if_false, Bool.false_and]
      exact no
    · simp only [if_true, Bool.true_and]
      by_cases h : (((l4.getD i []).getD q []).length : Int) = a + 1
      · rw [decide_eq_true h, Bool.true_and]
        simp only [if_pos h]
        refine Ev.bind (a := decide (r9 ≥ 0)) ?_ ?_
        · unfold slices_ContainsFunc_LLint64_Lint64_at_impl_ValidChoices_1.f slices_IndexFunc_LLint64_Lint64_at_impl_ValidChoices_1.f
          exact Ev.bind hr9 (Ev.now _)
        · rw [he9]
          cases decide (r9 ≥ 0)
          · refine Ev.succ ?_
            simp only [impl_ValidChoices.j6, Bool.false_eq_true, if_false, Bool.not_false, Bool.true_and, u1]
            exact hR
          · simp only [Bool.not_true, Bool.false_and]
            exact no
      · rw [decide_eq_false h, Bool.false_and]
        simp only [if_neg h]
        exact no
  have loop : ∀ j, j ≤ ((l3.getD i []).getD q []).length → Ev (fun k => impl_ValidChoices.l2 k i q n i q ((l3.getD i []).getD q []) (((l3.getD i []).getD q []).length : Int) j a l1 l2 l3 l4 l5 n) (allFromN ((l3.getD i []).getD q []).length (pushAt n a ((l3.getD i []).getD q [])) j && (ris (n - 1) ((l5.getD i []).getD q []) && (decide ((((l4.getD i []).getD q []).length : Int) = a + 1) && (retM n ((l4.getD i []).getD q []) && R)))) := by
    refine down _ ?_ ?_
    · rw [allFromN_end, Bool.true_and]
      exact last
    · intro j hj ih
      have bad : Ev (fun k => impl_ValidChoices.j5 k i q n i q ((l3.getD i []).getD q []) (((l3.getD i []).getD q []).length : Int) j true a l1 l2 l3 l4 l5 n) false := by
        refine Ev.succ ?_
        simp only [impl_ValidChoices.j5, if_true]
        exact Ev.now _
      have uj := up1 j (by clear u1 f1 f2 f3; omega)
      have good : Ev (fun k => impl_ValidChoices.j5 k i q n i q ((l3.getD i []).getD q []) (((l3.getD i []).getD q []).length : Int) j false a l1 l2 l3 l4 l5 n) (allFromN ((l3.getD i []).getD q []).length (pushAt n a ((l3.getD i []).getD q [])) (j + 1) && (ris (n - 1) ((l5.getD i []).getD q []) && (decide ((((l4.getD i []).getD q []).length : Int) = a + 1) && (retM n ((l4.getD i []).getD q []) && R)))) := by
        refine Ev.succ ?_
        simp only [impl_ValidChoices.j5, Bool.false_eq_true, if_false, uj]
        exact ih
      refine Ev.succ ?_
      rw [allFromN_step _ _ j hj, Bool.and_assoc]
      simp only [impl_ValidChoices.l2, if_pos (ilt hj), if_pos (i0 j), within_eq, Option.bind_some, f1, f2, rdP]
      unfold pushAt inR
      by_cases q1 : 0 ≤ (((l3.getD i []).getD q []).getD j z59).f0 ∧ (((l3.getD i []).getD q []).getD j z59).f0 ≤ n - 1
      · rw [decide_eq_true q1, Bool.true_and]
        simp only [if_true]
        by_cases q2 : 0 ≤ (((l3.getD i []).getD q []).getD j z59).f1 ∧ (((l3.getD i []).getD q []).getD j z59).f1 ≤ a - 1
        · rw [decide_eq_true q2, Bool.true_and]
          simp only [if_true]
          by_cases h2 : j = 0
          · subst h2
            simp only [Int.natCast_zero, show ¬ ((0 : Int) > 0) by decide, if_false, decide_true, Bool.true_or, Bool.true_and]
            exact good
          · have hj0 : (j : Int) > 0 := by clear uj u1 f1 f2 f3; omega
            have vj := vn1 j (by clear uj u1 f1 f2 f3; omega) (by clear uj u1 f1 f2 f3; omega)
            have cj : ((j - 1 : Nat) : Int) < (((l3.getD i []).getD q []).length : Int) := by clear vj uj u1 f1 f2 f3; omega
            simp only [if_pos hj0, if_pos (i0 i), if_pos c2, if_pos (i0 q), rd3, rd3', if_pos c3, vj, if_pos (i0 (j - 1)), if_pos cj, decide_eq_false h2, Bool.false_or, rdP]
            obtain ⟨r, hr, he⟩ := cmpP_ev (((l3.getD i []).getD q []).getD (j - 1) z59) (((l3.getD i []).getD q []).getD j z59)
            refine Ev.bind hr ?_
            rw [he]
            cases ltP (((l3.getD i []).getD q []).getD (j - 1) z59) (((l3.getD i []).getD q []).getD j z59)
            · simp only [Bool.not_false, Bool.false_and]
              exact bad
            · simp only [Bool.not_true, Bool.true_and]
              exact good
        · rw [decide_eq_false q2, Bool.false_and, Bool.false_and]
          simp only [Bool.false_eq_true, if_false]
          exact bad
      · rw [decide_eq_false q1, Bool.false_and, Bool.false_and]
        simp only [Bool.false_eq_true, if_false]
        exact bad
  refine Ev.succ ?_
  unfold cellM
  simp only [impl_ValidChoices.l1, if_pos c1, if_pos (i0 i), if_pos c2, if_pos (i0 q), rd3, rd3', if_pos c3]
  rw [← allFromN_zero, Bool.and_assoc, Bool.and_assoc, Bool.and_assoc]
  exact loop 0 (Nat.zero_le _)
theorem specM_l0' : ∀ i, i ≤ l2.length → Ev (fun k => spec_l03Ok.l0 k n i a l1 l2 l3 l4 l5) (allFromN l2.length (stM n a l3 l4 l5) i) := by
  refine down l2.length ?_ ?_
  · refine Ev.succ ?_
    rw [allFromN_end]
    simp only [spec_l03Ok.l0, if_neg (show ¬ ((l2.length : Int) < n) by omega)]
    exact Ev.now _
  · intro i hi ih
    have c0 : (i : Int) < n := by omega
    have c1 : (i : Int) < (l3.length : Int) := by omega
    have c2 : (i : Int) < (l4.length : Int) := by omega
    have c3 : (i : Int) < (l5.length : Int) := by omega
    have no : Ev (fun k => spec_l03Ok.j2 k n i true a l1 l2 l3 l4 l5) false := by
      refine Ev.succ ?_
      simp only [spec_l03Ok.j2, if_true]
      exact Ev.now _
    rw [allFromN_step _ _ i hi]
    unfold stM
    refine Ev.succ ?_
    simp only [spec_l03Ok.l0, if_pos c0, if_pos (i0 i), if_pos c1, if_pos c2, if_pos c3, rd3, rd4, rd5]
    by_cases g3 : (l3.getD i []).length = 2
    · rw [decide_eq_true g3, Bool.true_and]
      simp only [if_pos (show ((l3.getD i []).length : Int) = 2 by omega)]
      by_cases g4 : (l4.getD i []).length = 2
      · rw [decide_eq_true g4, Bool.true_and]
        simp only [if_pos (show ((l4.getD i []).length : Int) = 2 by omega)]
        by_cases g5 : (l5.getD i []).length = 2
        · rw [decide_eq_true g5, Bool.true_and, show (((l5.getD i []).length : Int) != 2) = false from by rw [bne_eq_false_iff_eq]; omega]
          refine Ev.succ ?_
          simp only [spec_l03Ok.j2, Bool.false_eq_true, if_false]
          rw [Bool.and_assoc]
          refine specCell_ev n a l1 l2 l3 l4 l5 hn hnn ha0 ha1 h3 h4 h5 e3 e4 e5 i 0 hi (by decide) g3 g4 g5 _ (specCell_ev n a l1 l2 l3 l4 l5 hn hnn ha0 ha1 h3 h4 h5 e3 e4 e5 i 1 hi (by decide) g3 g4 g5 _ ?_)
          refine Ev.succ ?_
          simp only [spec_l03Ok.l1, show ¬ (((1 + 1 : Nat) : Int) < 2) by decide, if_false, up1 i (by omega)]
          exact ih
        · rw [decide_eq_false g5, Bool.false_and, Bool.false_and, show (((l5.getD i []).length : Int) != 2) = true from bne_iff_ne.2 (by omega)]
          exact no
      · rw [decide_eq_false g4, Bool.false_and, Bool.false_and]
        simp only [if_neg (show ¬ ((l4.getD i []).length : Int) = 2 by omega)]
        exact no
    · rw [decide_eq_false g3, Bool.false_and, Bool.false_and]
      simp only [if_neg (show ¬ ((l3.getD i []).length : Int) = 2 by omega)]
      exact no
theorem implM_l0' : ∀ i, i ≤ l2.length → Ev (fun k => impl_ValidChoices.l0 k n i a l1 l2 l3 l4 l5 n) (allFromN l2.length (stM n a l3 l4 l5) i) := by
  refine down l2.length ?_ ?_
  · refine Ev.succ ?_
    rw [allFromN_end]
    simp only [impl_ValidChoices.l0, if_neg (show ¬ ((l2.length : Int) < n) by omega)]
    exact Ev.now _
  · intro i hi ih
    have c0 : (i : Int) < n := by omega
    have c1 : (i : Int) < (l3.length : Int) := by omega
    have c2 : (i : Int) < (l4.length : Int) := by omega
    have c3 : (i : Int) < (l5.length : Int) := by omega
    have no : Ev (fun k => impl_ValidChoices.j2 k i n i true a l1 l2 l3 l4 l5 n) false := by
      refine Ev.succ ?_
      simp only [impl_ValidChoices.j2, if_true]
      exact Ev.now _
    rw [allFromN_step _ _ i hi]
    unfold stM
    refine Ev.succ ?_
    simp only [impl_ValidChoices.l0, if_pos c0, if_pos (i0 i), if_pos c1, if_pos c2, if_pos c3, rd3, rd4, rd5]
    by_cases g3 : (l3.getD i []).length = 2
    · rw [decide_eq_true g3, Bool.true_and]
      simp only [if_pos (show ((l3.getD i []).length : Int) = 2 by omega)]
      by_cases g4 : (l4.getD i []).length = 2
      · rw [decide_eq_true g4, Bool.true_and]
        simp only [if_pos (show ((l4.getD i []).length : Int) = 2 by omega)]
        by_cases g5 : (l5.getD i []).length = 2
        · rw [decide_eq_true g5, Bool.true_and, show (((l5.getD i []).length : Int) != 2) = false from by rw [bne_eq_false_iff_eq]; omega]
          refine Ev.succ ?_
          simp only [impl_ValidChoices.j2, Bool.false_eq_true, if_false]
          rw [Bool.and_assoc]
          refine implCell_ev n a l1 l2 l3 l4 l5 hn hnn ha0 ha1 h3 h4 h5 e3 e4 e5 i 0 hi (by decide) g3 g4 g5 _ (implCell_ev n a l1 l2 l3 l4 l5 hn hnn ha0 ha1 h3 h4 h5 e3 e4 e5 i 1 hi (by decide) g3 g4 g5 _ ?_)
          refine Ev.succ ?_
          simp only [impl_ValidChoices.l1, show ¬ (((1 + 1 : Nat) : Int) < 2) by decide, if_false, up1 i (by omega)]
          exact ih
        · rw [decide_eq_false g5, Bool.false_and, Bool.false_and, show (((l5.getD i []).length : Int) != 2) = true from bne_iff_ne.2 (by omega)]
          exact no
      · rw [decide_eq_false g4, Bool.false_and, Bool.false_and]
        simp only [if_neg (show ¬ ((l4.getD i []).length : Int) = 2 by omega)]
        exact no
    · rw [decide_eq_false g3, Bool.false_and, Bool.false_and]
      simp only [if_neg (show ¬ ((l3.getD i []).length : Int) = 2 by omega)]
      exact no
end
theorem specOkM_ev (a : Int) (l1 : List Int) (l2 : List Bool) (l3 : List (List (List S59))) (l4 : List (List (List (List Int)))) (l5 : List (List (List Int))) (h1 : sm0 l1) (h2 : sm0 l2) (h3 : sm2 l3) (h4 : sm3 l4) (h5 : sm2 l5) : Ev (fun k => spec_l03Ok.f k a l1 l2 l3 l4 l5) (okM a l1 l2 l3 l4 l5) := by
  have no : Ev (fun k => spec_l03Ok.j0 k (l2.length : Int) true a l1 l2 l3 l4 l5) false := by
    refine Ev.succ ?_
    simp only [spec_l03Ok.j0, if_true]
    exact Ev.now _
  have hb : l2.length ≤ 1048576 := h2
  have f1 : wrap64 ((l2.length : Int) - 1) = (l2.length : Int) - 1 := w64 (by omega) (by omega)
  unfold spec_l03Ok.f okM
  simp only [in_eq, Option.bind_some, f1]
  clear f1
  by_cases c1 : 1 ≤ (l2.length : Int) ∧ (l2.length : Int) ≤ 5
  · rw [decide_eq_true c1, Bool.true_and]
    simp only [if_true]
    by_cases c2 : 1 ≤ a ∧ a ≤ 4
    · rw [decide_eq_true c2, Bool.true_and]
      simp only [if_true]
      refine Ev.bind (sRises_ev l1 _ h1) ?_
      cases ris ((l2.length : Int) - 1) l1
      · rw [Bool.false_and]
        simp only [Bool.false_eq_true, if_false]
        exact no
      · rw [Bool.true_and]
        simp only [if_true]
        by_cases e3 : l3.length = l2.length
        · rw [decide_eq_true e3, Bool.true_and]
          simp only [if_pos (show (l3.length : Int) = (l2.length : Int) by omega)]
          by_cases e4 : l4.length = l2.length
          · rw [decide_eq_true e4, Bool.true_and]
            simp only [if_pos (show (l4.length : Int) = (l2.length : Int) by omega)]
            by_cases e5 : l5.length = l2.length
            · rw [decide_eq_true e5, Bool.true_and, ← allFromN_zero]
              rw [show ((l5.length : Int) != (l2.length : Int)) = false by simp; omega]
              refine Ev.succ ?_
              simp only [spec_l03Ok.j0, Bool.false_eq_true, if_false]
              exact specM_l0' _ a l1 l2 l3 l4 l5 (by omega) rfl c2.1 c2.2 h3 h4 h5 e3 e4 e5 0 (by omega)
            · rw [decide_eq_false e5, Bool.false_and]
              rw [show ((l5.length : Int) != (l2.length : Int)) = true by simp; omega]
              exact no
          · rw [decide_eq_false e4, Bool.false_and]
            simp only [if_neg (show ¬ (l4.length : Int) = (l2.length : Int) by omega)]
            exact no
        · rw [decide_eq_false e3, Bool.false_and]
          simp only [if_neg (show ¬ (l3.length : Int) = (l2.length : Int) by omega)]
          exact no
    · rw [decide_eq_false c2, Bool.false_and]
      simp only [Bool.false_eq_true, if_false]
      exact no
  · rw [decide_eq_false c1, Bool.false_and]
    simp only [Bool.false_eq_true, if_false]
    exact no
theorem implOkM_ev (a : Int) (l1 : List Int) (l2 : List Bool) (l3 : List (List (List S59))) (l4 : List (List (List (List Int)))) (l5 : List (List (List Int))) (h1 : sm0 l1) (h2 : sm0 l2) (h3 : sm2 l3) (h4 : sm3 l4) (h5 : sm2 l5) : Ev (fun k => impl_ValidChoices.f k a l1 l2 l3 l4 l5) (okM a l1 l2 l3 l4 l5) := by
  have no : Ev (fun k => impl_ValidChoices.j0 k true a l1 l2 l3 l4 l5 (l2.length : Int)) false := by
    refine Ev.succ ?_
    simp only [impl_ValidChoices.j0, if_true]
    exact Ev.now _
  have hb : l2.length ≤ 1048576 := h2
  unfold impl_ValidChoices.f okM impl_size_bool.f impl_size_LLimpl_Push.f impl_size_LLLint64.f impl_size_LLint64.f
  simp only [within_eq, Option.bind_some]
  by_cases c1 : 1 ≤ (l2.length : Int) ∧ (l2.length : Int) ≤ 5
  · rw [decide_eq_true c1, Bool.true_and]
    simp only [if_true]
    by_cases c2 : 1 ≤ a ∧ a ≤ 4
    · rw [decide_eq_true c2, Bool.true_and]
      simp only [if_true]
      refine Ev.bind (iRises_ev l1 _ (by omega) (by omega) h1) ?_
      cases ris ((l2.length : Int) - 1) l1
      · rw [Bool.false_and]
        simp only [Bool.false_eq_true, if_false]
        exact no
      · rw [Bool.true_and]
        simp only [if_true]
        by_cases e3 : l3.length = l2.length
        · rw [decide_eq_true e3, Bool.true_and]
          simp only [if_pos (show (l3.length : Int) = (l2.length : Int) by omega)]
          by_cases e4 : l4.length = l2.length
          · rw [decide_eq_true e4, Bool.true_and]
            simp only [if_pos (show (l4.length : Int) = (l2.length : Int) by omega)]
            by_cases e5 : l5.length = l2.length
            · rw [decide_eq_true e5, Bool.true_and, ← allFromN_zero]
              rw [show ((l5.length : Int) != (l2.length : Int)) = false by simp; omega]
              refine Ev.succ ?_
              simp only [impl_ValidChoices.j0, Bool.false_eq_true, if_false]
              exact implM_l0' _ a l1 l2 l3 l4 l5 (by omega) rfl c2.1 c2.2 h3 h4 h5 e3 e4 e5 0 (by omega)
            · rw [decide_eq_false e5, Bool.false_and]
              rw [show ((l5.length : Int) != (l2.length : Int)) = true by simp; omega]
              exact no
          · rw [decide_eq_false e4, Bool.false_and]
            simp only [if_neg (show ¬ (l4.length : Int) = (l2.length : Int) by omega)]
            exact no
        · rw [decide_eq_false e3, Bool.false_and]
          simp only [if_neg (show ¬ (l3.length : Int) = (l2.length : Int) by omega)]
          exact no
    · rw [decide_eq_false c2, Bool.false_and]
      simp only [Bool.false_eq_true, if_false]
      exact no
  · rw [decide_eq_false c1, Bool.false_and]
    simp only [Bool.false_eq_true, if_false]
    exact no
end Go.Proofs.Ytcoaplkoilhhbaa.Br
namespace Go.Proofs.Ytcoaplkoilhhbaa.Pure
open Go.RowKit Go.Proofs.Ytcoaplkoilhhbaa.P Go.Proofs.YtcoaplkoilhhbaaW.PrintWords Go.Proofs.YtcoaplkoilhhbaaW.PrintLast Go.Proofs.YtcoaplkoilhhbaaW.PrintMore Go.Proofs.Ytcoaplkoilhhbaa.Br Go.Proofs.Ytcoaplkoilhhbaa.Th
set_option linter.unusedVariables false
set_option linter.unusedSimpArgs false

theorem sm2_map {α β : Type} (f : α → β) (l : List (List (List α))) (h : sm2 l) : sm2 (l.map (List.map (List.map f))) := by
  refine ⟨by simpa using h.1, fun x hx => ?_⟩
  obtain ⟨y, hy, rfl⟩ := List.mem_map.1 hx
  have h2 := h.2 y hy
  refine ⟨by simpa using h2.1, fun x hx => ?_⟩
  obtain ⟨u, hu, rfl⟩ := List.mem_map.1 hx
  have := h2.2 u hu
  unfold sm0 at this ⊢
  simpa using this
theorem FnExactValidChoices : laws_FnExactValidChoices.Pure := by
  intro a l1 l2 l3 l4 l5 _ h1 h2 h3 h4 h5
  refine Ev.rounds ?_
  unfold laws_FnExactValidChoices.f
  obtain ⟨r, hr, hr2⟩ := laws_szChoices_ev a l1 l2 l3 l4 l5 1048576 (by omega) (by omega) h1.1 h2.1 ⟨h3.1, fun x hx => ⟨(h3.2 x hx).1, fun y hy => ((h3.2 x hx).2 y hy).1⟩⟩ ⟨h4.1, fun x hx => ⟨(h4.2 x hx).1, fun y hy => ⟨((h4.2 x hx).2 y hy).1, fun z hz => (((h4.2 x hx).2 y hy).2 z hz).1⟩⟩⟩ ⟨h5.1, fun x hx => ⟨(h5.2 x hx).1, fun y hy => ((h5.2 x hx).2 y hy).1⟩⟩
  refine Ev.bind hr ?_
  by_cases n0 : r < 0
  · simp only [if_pos n0]; exact Ev.now _
  simp only [if_neg n0]
  rcases hr2 with hr2 | hr2
  · exact absurd hr2 n0
  obtain ⟨_, _, s1, s2, s3, s4, s5⟩ := hr2
  have t := laws_toChoices_ev a l1 l2 l3 l4 l5 s1 s2 s3 s4 s5
  have s3' := sm2_map cPush l3 s3
  refine Ev.bind t (Ev.bind (a := okM a l1 l2 (l3.map (List.map (List.map cPush))) l4 l5) ?_ (Ev.bind t (Ev.bind (implOkM_ev a l1 l2 _ l4 l5 s1 s2 s3' s4 s5) ?_)))
  · unfold spec_ValidChoices.f
    exact Ev.bind (specOkM_ev a l1 l2 _ l4 l5 s1 s2 s3' s4 s5) (Ev.now _)
  simp only [bne_self_eq_false, Bool.false_eq_true, if_false]
  refine Ev.bind t (Ev.bind (laws_eqChoices_ev a l1 l2 _ l4 l5 s1 s2 s3' s4 s5) ?_)
  simp only [if_true]
  exact Ev.now _
end Go.Proofs.Ytcoaplkoilhhbaa.Pure
namespace Go.Proofs.Ytcoaplkoilhhbaa.fnExactValidChoices
open Go.ChangeShapes Go.WideShapes Go.ChangeAt Go.RowKit Go.Proofs.YtcoaplkoilhhbaaW.PrintWords Go.Proofs.YtcoaplkoilhhbaaW.PrintLast Go.Proofs.Ytcoaplkoilhhbaa.P
open Go.ChangeMaps (open_string shut_string)
set_option linter.unusedVariables false
def Of (P : Program) (t : TypeId) {α : Type} (d : Kd α) (ok : α → Prop) : Prop :=
 ∀ (H : Type) (enc : TypeId × Value → H) (W : World) (n : Nat) (cs : List Value) (x : DataW H × List MemPlace), DataW.trod enc P W 0 (fun _ => true) true n t cs = some x → ∃ v, d.K W v cs ∧ ok v
def OfFs (P : Program) (off : Nat) (fs : List Field) {α : Type} (d : Kd α) (ok : α → Prop) : Prop :=
 ∀ (H : Type) (enc : TypeId × Value → H) (W : World) (n : Nat) (cs : List Value), cs.length = off + d.sz →
  (∀ f ∈ fs, ∃ y, DataW.trod enc P W 0 (fun _ => true) true n f.type ((cs.drop f.offset).take (P.cellsOf f.type)) = some y) → ∃ v, d.K W v (cs.drop off) ∧ ok v
section
variable {P : Program} {t : TypeId}
theorem of_int {k : IntKind} (ht : P.underlying t = some (.int k)) : Of P t (Kd.int k) (fun n => (Lit.int k n).wf = true) := by
 intro H enc W n cs x h
 obtain ⟨v, rfl, _, hw⟩ := DataW.trod_int ht h
 exact ⟨v, rfl, hw⟩
theorem of_bool (ht : P.underlying t = some .bool) : Of P t Kd.bool (fun _ => True) := by
 intro H enc W n cs x h
 obtain ⟨v, rfl, _⟩ := DataW.trod_bool ht h
 exact ⟨v, rfl, trivial⟩
theorem of_iso {α β : Type} {d : Kd α} {f : β → α} {ok : α → Prop} (h : Of P t d ok) (g : α → β) (hg : ∀ y, f (g y) = y) : Of P t (Kd.iso d f) (fun x => ok (f x)) := by
 intro H enc W n cs x hx
 obtain ⟨v, hK, ho⟩ := h H enc W n cs x hx
 exact ⟨g v, by show d.K W (f (g v)) cs; rw [hg]; exact hK, by show ok (f (g v)); rw [hg]; exact ho⟩
theorem of_slice {e : TypeId} {α : Type} {d : Kd α} {ok : α → Prop} (ht : P.underlying t = some (.slice e)) (hC : P.cellsOf e = d.sz) (he : Of P e d ok) :
  Of P t (Kd.slice e d) (fun l => l.length ≤ maxLen ∧ ∀ x ∈ l, ok x) := by
 intro H enc W fuel cs x h
 rcases Go.Deep.open_slice ht h with ⟨rfl, _⟩ | ⟨a, len, cap, m, n, D, Pl, rfl, _, hl, hm, hmm, _, hi⟩
 ·exact ⟨[], ⟨none, 0, rfl, Nat.le_refl _, Kd.C_nil _ _⟩, by simp, by simp⟩
 ·have hle : len ≤ m := by rw [hmm]; simpa using hl
  have key : ∀ q, q ≤ len → ∃ l : List α, l.length = q ∧ ∀ j p, l[j]? = some p → ∃ cs', W.cells? 0 (a.add (j * d.sz)) d.sz = some cs' ∧ d.K W p cs' ∧ ok p := by
   intro q
   induction q with
   | zero => exact fun _ => ⟨[], rfl, fun j p hj => by simp at hj⟩
   | succ q ih =>
    intro hq
    obtain ⟨l, hll, hp⟩ := ih (by omega)
    obtain ⟨cs', h1, h2⟩ := hi q (by omega)
    rw [hC] at h1
    obtain ⟨v, hK, ho⟩ := he H enc W n cs' _ h2
    refine ⟨l ++ [v], by simp [hll], fun j p hj => ?_⟩
    by_cases hjl : j < l.length
    ·rw [List.getElem?_append_left hjl] at hj
     exact hp j p hj
    ·have hj2 : j = l.length := by
      have := (List.getElem?_eq_some_iff.1 hj).1
      simp at this
      omega
     subst hj2
     simp at hj
     subst hj
     exact ⟨cs', by rw [hll]; exact h1, hK, ho⟩
  obtain ⟨l, hll, hp⟩ := key len (Nat.le_refl _)
  have hlm : l.length ≤ maxLen := by rw [hll]; exact Nat.le_trans hl hm
  refine ⟨l, ⟨some a, cap, by rw [hll], by omega, ⟨rfl, hlm, fun _ => ⟨a, rfl, fun j p hj => ?_⟩⟩⟩, hlm, fun p hpm => ?_⟩
  ·obtain ⟨cs', h1, hK, _⟩ := hp j p hj
   obtain ⟨_, hlen, hat⟩ := World.cells?_some h1
   refine ⟨cs', hlen, hK, fun i u hu => ?_⟩
   have hlt : i < d.sz := by rw [← hlen]; exact (List.getElem?_eq_some_iff.1 hu).1
   rw [← Go.Deep.add_add, hat i hlt, hu]
  ·obtain ⟨j, hj⟩ := List.getElem?_of_mem hpm
   obtain ⟨_, _, _, ho⟩ := hp j p hj
   exact ho
theorem fs_one {f : Field} {off : Nat} {α : Type} {d : Kd α} {ok : α → Prop} (ho : f.offset = off) (hC : P.cellsOf f.type = d.sz) (h : Of P f.type d ok) : OfFs P off [f] d ok := by
 intro H enc W n cs hl hf
 obtain ⟨y, hy⟩ := hf f (by simp)
 rw [ho, hC, List.take_of_length_le (by simp; omega)] at hy
 exact h H enc W n _ y hy
theorem fs_more {f : Field} {fs : List Field} {off : Nat} {α β : Type} {d : Kd α} {d2 : Kd β} {ok : α → Prop} {ok2 : β → Prop} (ho : f.offset = off) (hC : P.cellsOf f.type = d.sz) (h : Of P f.type d ok) (h2 : OfFs P (off + d.sz) fs d2 ok2) :
  OfFs P off (f :: fs) (Kd.pair d d2) (fun p => ok p.1 ∧ ok2 p.2) := by
 intro H enc W n cs hl hf
 have hl' : cs.length = off + d.sz + d2.sz := hl.trans (Nat.add_assoc _ _ _).symm
 obtain ⟨y, hy⟩ := hf f (by simp)
 rw [ho, hC] at hy
 obtain ⟨v, hK, hv⟩ := h H enc W n _ y hy
 obtain ⟨v2, hK2, hv2⟩ := h2 H enc W n cs hl' (fun g hg => hf g (List.mem_cons_of_mem _ hg))
 refine ⟨(v, v2), ⟨(cs.drop off).take d.sz, cs.drop (off + d.sz), ?_, hK, hK2⟩, hv, hv2⟩
 rw [← List.drop_drop, List.take_append_drop]
theorem of_struct {fs : Array Field} {α : Type} {d : Kd α} {ok : α → Prop} (ht : P.underlying t = some (.struct fs)) (hC : P.cellsOf t = d.sz) (h : OfFs P 0 fs.toList d ok) : Of P t d ok := by
 intro H enc W fuel cs x hx
 obtain ⟨xs, n, _, _, hlen, hxl, hf⟩ := DataW.trod_struct ht hx
 refine h H enc W n cs (by omega) (fun f hfm => ?_)
 obtain ⟨j, hj⟩ := List.getElem?_of_mem hfm
 have hj2 : fs[j]? = some f := by simpa using hj
 have hlt : j < xs.length := by rw [hxl]; exact (Array.getElem?_eq_some_iff.1 hj2).1
 exact ⟨_, (hf j f hj2).trans (List.getElem?_eq_getElem hlt)⟩
end
theorem own : ownKnob Try.prog.godebug = none := by kernel_rfl
theorem laidOut : laidOutB Try.prog = true := by kernel_rfl
theorem of2 : Of Try.prog 2 (Kd.int .i64) (fun n : Int => (Lit.int .i64 n).wf = true) := of_int Try.underlying2
theorem of22 : Of Try.prog 22 (Kd.slice 2 (Kd.int .i64)) (fun l : List Int => l.length ≤ maxLen ∧ ∀ x ∈ l, (fun n : Int => (Lit.int .i64 n).wf = true) x) := of_slice Try.underlying22 (by kernel_rfl) of2
theorem of4 : Of Try.prog 4 Kd.bool (fun _ : Bool => True) := of_bool Try.underlying4
theorem of23 : Of Try.prog 23 (Kd.slice 4 Kd.bool) (fun l : List Bool => l.length ≤ maxLen ∧ ∀ x ∈ l, (fun _ : Bool => True) x) := of_slice Try.underlying23 (by kernel_rfl) of4
theorem of88 : Of Try.prog 88 k88 (fun x : S88 => (fun p : ((Int) × (Int)) => (fun n : Int => (Lit.int .i64 n).wf = true) p.1 ∧ (fun n : Int => (Lit.int .i64 n).wf = true) p.2) (x.f0, x.f1)) := of_iso (f := fun x : S88 => (x.f0, x.f1)) (of_struct Try.underlying88 (by kernel_rfl) (fs_more (ok := (fun n : Int => (Lit.int .i64 n).wf = true)) (ok2 := (fun n : Int => (Lit.int .i64 n).wf = true)) (by rfl) (by kernel_rfl) of2 (fs_one (by rfl) (by kernel_rfl) of2))) (fun y => ⟨y.1, y.2⟩) (fun _ => rfl)
theorem of82 : Of Try.prog 82 (Kd.slice 88 k88) (fun l : List (S88) => l.length ≤ maxLen ∧ ∀ x ∈ l, (fun x : S88 => (fun p : ((Int) × (Int)) => (fun n : Int => (Lit.int .i64 n).wf = true) p.1 ∧ (fun n : Int => (Lit.int .i64 n).wf = true) p.2) (x.f0, x.f1)) x) := of_slice Try.underlying82 (by kernel_rfl) of88
theorem of70 : Of Try.prog 70 (Kd.slice 82 (Kd.slice 88 k88)) (fun l : List (List (S88)) => l.length ≤ maxLen ∧ ∀ x ∈ l, (fun l : List (S88) => l.length ≤ maxLen ∧ ∀ x ∈ l, (fun x : S88 => (fun p : ((Int) × (Int)) => (fun n : Int => (Lit.int .i64 n).wf = true) p.1 ∧ (fun n : Int => (Lit.int .i64 n).wf = true) p.2) (x.f0, x.f1)) x) x) := of_slice Try.underlying70 (by kernel_rfl) of82
theorem of24 : Of Try.prog 24 (Kd.slice 70 (Kd.slice 82 (Kd.slice 88 k88))) (fun l : List (List (List (S88))) => l.length ≤ maxLen ∧ ∀ x ∈ l, (fun l : List (List (S88)) => l.length ≤ maxLen ∧ ∀ x ∈ l, (fun l : List (S88) => l.length ≤ maxLen ∧ ∀ x ∈ l, (fun x : S88 => (fun p : ((Int) × (Int)) => (fun n : Int => (Lit.int .i64 n).wf = true) p.1 ∧ (fun n : Int => (Lit.int .i64 n).wf = true) p.2) (x.f0, x.f1)) x) x) x) := of_slice Try.underlying24 (by kernel_rfl) of70
theorem of56 : Of Try.prog 56 (Kd.slice 22 (Kd.slice 2 (Kd.int .i64))) (fun l : List (List Int) => l.length ≤ maxLen ∧ ∀ x ∈ l, (fun l : List Int => l.length ≤ maxLen ∧ ∀ x ∈ l, (fun n : Int => (Lit.int .i64 n).wf = true) x) x) := of_slice Try.underlying56 (by kernel_rfl) of22
theorem of26 : Of Try.prog 26 (Kd.slice 56 (Kd.slice 22 (Kd.slice 2 (Kd.int .i64)))) (fun l : List (List (List Int)) => l.length ≤ maxLen ∧ ∀ x ∈ l, (fun l : List (List Int) => l.length ≤ maxLen ∧ ∀ x ∈ l, (fun l : List Int => l.length ≤ maxLen ∧ ∀ x ∈ l, (fun n : Int => (Lit.int .i64 n).wf = true) x) x) x) := of_slice Try.underlying26 (by kernel_rfl) of56
theorem of25 : Of Try.prog 25 (Kd.slice 26 (Kd.slice 56 (Kd.slice 22 (Kd.slice 2 (Kd.int .i64))))) (fun l : List (List (List (List Int))) => l.length ≤ maxLen ∧ ∀ x ∈ l, (fun l : List (List (List Int)) => l.length ≤ maxLen ∧ ∀ x ∈ l, (fun l : List (List Int) => l.length ≤ maxLen ∧ ∀ x ∈ l, (fun l : List Int => l.length ≤ maxLen ∧ ∀ x ∈ l, (fun n : Int => (Lit.int .i64 n).wf = true) x) x) x) x) := of_slice Try.underlying25 (by kernel_rfl) of26
theorem of28t : Of Try.prog 28 (Kd.pair (Kd.int .i64) (Kd.pair (Kd.slice 2 (Kd.int .i64)) (Kd.pair (Kd.slice 4 Kd.bool) (Kd.pair (Kd.slice 70 (Kd.slice 82 (Kd.slice 88 k88))) (Kd.pair (Kd.slice 26 (Kd.slice 56 (Kd.slice 22 (Kd.slice 2 (Kd.int .i64))))) (Kd.slice 56 (Kd.slice 22 (Kd.slice 2 (Kd.int .i64))))))))) (fun p : ((Int) × (((List Int) × (((List Bool) × (((List (List (List (S88)))) × (((List (List (List (List Int)))) × (List (List (List Int)))))))))))) => (fun n : Int => (Lit.int .i64 n).wf = true) p.1 ∧ (fun p : ((List Int) × (((List Bool) × (((List (List (List (S88)))) × (((List (List (List (List Int)))) × (List (List (List Int)))))))))) => (fun l : List Int => l.length ≤ maxLen ∧ ∀ x ∈ l, (fun n : Int => (Lit.int .i64 n).wf = true) x) p.1 ∧ (fun p : ((List Bool) × (((List (List (List (S88)))) × (((List (List (List (List Int)))) × (List (List (List Int)))))))) => (fun l : List Bool => l.length ≤ maxLen ∧ ∀ x ∈ l, (fun _ : Bool => True) x) p.1 ∧ (fun p : ((List (List (List (S88)))) × (((List (List (List (List Int)))) × (List (List (List Int)))))) => (fun l : List (List (List (S88))) => l.length ≤ maxLen ∧ ∀ x ∈ l, (fun l : List (List (S88)) => l.length ≤ maxLen ∧ ∀ x ∈ l, (fun l : List (S88) => l.length ≤ maxLen ∧ ∀ x ∈ l, (fun x : S88 => (fun p : ((Int) × (Int)) => (fun n : Int => (Lit.int .i64 n).wf = true) p.1 ∧ (fun n : Int => (Lit.int .i64 n).wf = true) p.2) (x.f0, x.f1)) x) x) x) p.1 ∧ (fun p : ((List (List (List (List Int)))) × (List (List (List Int)))) => (fun l : List (List (List (List Int))) => l.length ≤ maxLen ∧ ∀ x ∈ l, (fun l : List (List (List Int)) => l.length ≤ maxLen ∧ ∀ x ∈ l, (fun l : List (List Int) => l.length ≤ maxLen ∧ ∀ x ∈ l, (fun l : List Int => l.length ≤ maxLen ∧ ∀ x ∈ l, (fun n : Int => (Lit.int .i64 n).wf = true) x) x) x) x) p.1 ∧ (fun l : List (List (List Int)) => l.length ≤ maxLen ∧ ∀ x ∈ l, (fun l : List (List Int) => l.length ≤ maxLen ∧ ∀ x ∈ l, (fun l : List Int => l.length ≤ maxLen ∧ ∀ x ∈ l, (fun n : Int => (Lit.int .i64 n).wf = true) x) x) x) p.2) p.2) p.2) p.2) p.2) := by
 refine of_struct Try.underlying28 (by kernel_rfl) ?_
 exact (fs_more (ok := (fun n : Int => (Lit.int .i64 n).wf = true)) (ok2 := (fun p : ((List Int) × (((List Bool) × (((List (List (List (S88)))) × (((List (List (List (List Int)))) × (List (List (List Int)))))))))) => (fun l : List Int => l.length ≤ maxLen ∧ ∀ x ∈ l, (fun n : Int => (Lit.int .i64 n).wf = true) x) p.1 ∧ (fun p : ((List Bool) × (((List (List (List (S88)))) × (((List (List (List (List Int)))) × (List (List (List Int)))))))) => (fun l : List Bool => l.length ≤ maxLen ∧ ∀ x ∈ l, (fun _ : Bool => True) x) p.1 ∧ (fun p : ((List (List (List (S88)))) × (((List (List (List (List Int)))) × (List (List (List Int)))))) => (fun l : List (List (List (S88))) => l.length ≤ maxLen ∧ ∀ x ∈ l, (fun l : List (List (S88)) => l.length ≤ maxLen ∧ ∀ x ∈ l, (fun l : List (S88) => l.length ≤ maxLen ∧ ∀ x ∈ l, (fun x : S88 => (fun p : ((Int) × (Int)) => (fun n : Int => (Lit.int .i64 n).wf = true) p.1 ∧ (fun n : Int => (Lit.int .i64 n).wf = true) p.2) (x.f0, x.f1)) x) x) x) p.1 ∧ (fun p : ((List (List (List (List Int)))) × (List (List (List Int)))) => (fun l : List (List (List (List Int))) => l.length ≤ maxLen ∧ ∀ x ∈ l, (fun l : List (List (List Int)) => l.length ≤ maxLen ∧ ∀ x ∈ l, (fun l : List (List Int) => l.length ≤ maxLen ∧ ∀ x ∈ l, (fun l : List Int => l.length ≤ maxLen ∧ ∀ x ∈ l, (fun n : Int => (Lit.int .i64 n).wf = true) x) x) x) x) p.1 ∧ (fun l : List (List (List Int)) => l.length ≤ maxLen ∧ ∀ x ∈ l, (fun l : List (List Int) => l.length ≤ maxLen ∧ ∀ x ∈ l, (fun l : List Int => l.length ≤ maxLen ∧ ∀ x ∈ l, (fun n : Int => (Lit.int .i64 n).wf = true) x) x) x) p.2) p.2) p.2) p.2)) (by rfl) (by kernel_rfl) of2 (fs_more (ok := (fun l : List Int => l.length ≤ maxLen ∧ ∀ x ∈ l, (fun n : Int => (Lit.int .i64 n).wf = true) x)) (ok2 := (fun p : ((List Bool) × (((List (List (List (S88)))) × (((List (List (List (List Int)))) × (List (List (List Int)))))))) => (fun l : List Bool => l.length ≤ maxLen ∧ ∀ x ∈ l, (fun _ : Bool => True) x) p.1 ∧ (fun p : ((List (List (List (S88)))) × (((List (List (List (List Int)))) × (List (List (List Int)))))) => (fun l : List (List (List (S88))) => l.length ≤ maxLen ∧ ∀ x ∈ l, (fun l : List (List (S88)) => l.length ≤ maxLen ∧ ∀ x ∈ l, (fun l : List (S88) => l.length ≤ maxLen ∧ ∀ x ∈ l, (fun x : S88 => (fun p : ((Int) × (Int)) => (fun n : Int => (Lit.int .i64 n).wf = true) p.1 ∧ (fun n : Int => (Lit.int .i64 n).wf = true) p.2) (x.f0, x.f1)) x) x) x) p.1 ∧ (fun p : ((List (List (List (List Int)))) × (List (List (List Int)))) => (fun l : List (List (List (List Int))) => l.length ≤ maxLen ∧ ∀ x ∈ l, (fun l : List (List (List Int)) => l.length ≤ maxLen ∧ ∀ x ∈ l, (fun l : List (List Int) => l.length ≤ maxLen ∧ ∀ x ∈ l, (fun l : List Int => l.length ≤ maxLen ∧ ∀ x ∈ l, (fun n : Int => (Lit.int .i64 n).wf = true) x) x) x) x) p.1 ∧ (fun l : List (List (List Int)) => l.length ≤ maxLen ∧ ∀ x ∈ l, (fun l : List (List Int) => l.length ≤ maxLen ∧ ∀ x ∈ l, (fun l : List Int => l.length ≤ maxLen ∧ ∀ x ∈ l, (fun n : Int => (Lit.int .i64 n).wf = true) x) x) x) p.2) p.2) p.2)) (by rfl) (by kernel_rfl) of22 (fs_more (ok := (fun l : List Bool => l.length ≤ maxLen ∧ ∀ x ∈ l, (fun _ : Bool => True) x)) (ok2 := (fun p : ((List (List (List (S88)))) × (((List (List (List (List Int)))) × (List (List (List Int)))))) => (fun l : List (List (List (S88))) => l.length ≤ maxLen ∧ ∀ x ∈ l, (fun l : List (List (S88)) => l.length ≤ maxLen ∧ ∀ x ∈ l, (fun l : List (S88) => l.length ≤ maxLen ∧ ∀ x ∈ l, (fun x : S88 => (fun p : ((Int) × (Int)) => (fun n : Int => (Lit.int .i64 n).wf = true) p.1 ∧ (fun n : Int => (Lit.int .i64 n).wf = true) p.2) (x.f0, x.f1)) x) x) x) p.1 ∧ (fun p : ((List (List (List (List Int)))) × (List (List (List Int)))) => (fun l : List (List (List (List Int))) => l.length ≤ maxLen ∧ ∀ x ∈ l, (fun l : List (List (List Int)) => l.length ≤ maxLen ∧ ∀ x ∈ l, (fun l : List (List Int) => l.length ≤ maxLen ∧ ∀ x ∈ l, (fun l : List Int => l.length ≤ maxLen ∧ ∀ x ∈ l, (fun n : Int => (Lit.int .i64 n).wf = true) x) x) x) x) p.1 ∧ (fun l : List (List (List Int)) => l.length ≤ maxLen ∧ ∀ x ∈ l, (fun l : List (List Int) => l.length ≤ maxLen ∧ ∀ x ∈ l, (fun l : List Int => l.length ≤ maxLen ∧ ∀ x ∈ l, (fun n : Int => (Lit.int .i64 n).wf = true) x) x) x) p.2) p.2)) (by rfl) (by kernel_rfl) of23 (fs_more (ok := (fun l : List (List (List (S88))) => l.length ≤ maxLen ∧ ∀ x ∈ l, (fun l : List (List (S88)) => l.length ≤ maxLen ∧ ∀ x ∈ l, (fun l : List (S88) => l.length ≤ maxLen ∧ ∀ x ∈ l, (fun x : S88 => (fun p : ((Int) × (Int)) => (fun n : Int => (Lit.int .i64 n).wf = true) p.1 ∧ (fun n : Int => (Lit.int .i64 n).wf = true) p.2) (x.f0, x.f1)) x) x) x)) (ok2 := (fun p : ((List (List (List (List Int)))) × (List (List (List Int)))) => (fun l : List (List (List (List Int))) => l.length ≤ maxLen ∧ ∀ x ∈ l, (fun l : List (List (List Int)) => l.length ≤ maxLen ∧ ∀ x ∈ l, (fun l : List (List Int) => l.length ≤ maxLen ∧ ∀ x ∈ l, (fun l : List Int => l.length ≤ maxLen ∧ ∀ x ∈ l, (fun n : Int => (Lit.int .i64 n).wf = true) x) x) x) x) p.1 ∧ (fun l : List (List (List Int)) => l.length ≤ maxLen ∧ ∀ x ∈ l, (fun l : List (List Int) => l.length ≤ maxLen ∧ ∀ x ∈ l, (fun l : List Int => l.length ≤ maxLen ∧ ∀ x ∈ l, (fun n : Int => (Lit.int .i64 n).wf = true) x) x) x) p.2)) (by rfl) (by kernel_rfl) of24 (fs_more (ok := (fun l : List (List (List (List Int))) => l.length ≤ maxLen ∧ ∀ x ∈ l, (fun l : List (List (List Int)) => l.length ≤ maxLen ∧ ∀ x ∈ l, (fun l : List (List Int) => l.length ≤ maxLen ∧ ∀ x ∈ l, (fun l : List Int => l.length ≤ maxLen ∧ ∀ x ∈ l, (fun n : Int => (Lit.int .i64 n).wf = true) x) x) x) x)) (ok2 := (fun l : List (List (List Int)) => l.length ≤ maxLen ∧ ∀ x ∈ l, (fun l : List (List Int) => l.length ≤ maxLen ∧ ∀ x ∈ l, (fun l : List Int => l.length ≤ maxLen ∧ ∀ x ∈ l, (fun n : Int => (Lit.int .i64 n).wf = true) x) x) x)) (by rfl) (by kernel_rfl) of25 (fs_one (by rfl) (by kernel_rfl) of26))))))
set_option maxRecDepth 100000 in
set_option maxHeartbeats 4000000 in
theorem lifted (os : Os) (started : os.Started) (H : Type) (enc : TypeId × Value → H) :
  ReturnsInHanded {} Try.checked os 3 .any (Rows.fnExactValidChoicesSpec.pre6 enc Try.prog Try.f3 Rows.fnExactValidChoicesRow.domain false) (Rows.fnExactValidChoicesSpec.post enc Try.prog Try.f3 false true false false) := by
 refine returnsInHanded_of_change_sized (C := Try.checked) own started (by kernel_rfl) Try.func3
  (ChangeSpec.witness6 (enc := enc) (C := Try.checked) false ⟨#[], #[.agg #[.int .i64 0, .slice none 0 0, .slice none 0 0, .slice none 0 0, .slice none 0 0, .slice none 0 0]], []⟩ 8 (by kernel_rfl) (by kernel_rfl) (by kernel_rfl) (by kernel_rfl)) ?_
 intro W base args ds gs before hval0 hW hcnd hsz0 _
 have hval : ∀ (j : Nat) t v, Try.f3.params[j]? = some t → args[j]? = some v → Value.okWide Try.prog W .any base t v := hval0
 have hW' := hW
 obtain ⟨p, q, hA0, hV, rfl, hfz, hnd⟩ := hW
 have hA : DataW.TrodAll enc Try.prog W 0 (fun _ => true) true Try.f3.params.toList args.toList ds p := hA0
 rw [Try.params3] at hA hval
 obtain ⟨v0, vs0, d0, ds0, p0, q0, hargs, rfl, rfl, h0, r0⟩ := trodAll_cons hA
 obtain ⟨rfl, rfl, rfl⟩ := trodAll_nil r0
 obtain rfl : args = #[v0] := by cases args; simp_all
 obtain ⟨rfl, rfl⟩ := trodVars_none hV
 have k0 := h0
 have lt0 : ∀ x ∈ p0, x.block < W.heap.size := by obtain ⟨m, hm⟩ := k0; exact DataW.trod_lt m _ _ _ hm
 obtain ⟨fu0, hf0⟩ := h0
 obtain ⟨x0, hK0, ho0⟩ := of28t H enc W _ _ _ hf0
 obtain ⟨cs0, rfl, _⟩ := okWide_struct Try.underlying28 (hval 0 28 v0 rfl rfl)
 obtain ⟨_, _, hcs0, rfl, ⟨_, _, rfl, ⟨A0_1, c0_1, rfl, hc0_1, hr0_1⟩, ⟨_, _, rfl, ⟨A0_2, c0_2, rfl, hc0_2, hr0_2⟩, ⟨_, _, rfl, ⟨A0_3, c0_3, rfl, hc0_3, hr0_3⟩, ⟨_, _, rfl, ⟨A0_4, c0_4, rfl, hc0_4, hr0_4⟩, ⟨A0_5, c0_5, rfl, hc0_5, hr0_5⟩⟩⟩⟩⟩⟩ := hK0
 obtain rfl : cs0 = #[.int .i64 ((x0).1), .slice A0_1 ((x0).2).1.length c0_1, .slice A0_2 (((x0).2).2).1.length c0_2, .slice A0_3 ((((x0).2).2).2).1.length c0_3, .slice A0_4 (((((x0).2).2).2).2).1.length c0_4, .slice A0_5 (((((x0).2).2).2).2).2.length c0_5] := by
  have hcs_ : cs0.toList = _ := hcs0
  exact Array.toList_inj.1 (hcs_.trans rfl)
 clear hA0 hval0 hsz0
 obtain ⟨k, hk⟩ := Pure.FnExactValidChoices ((x0).1) (((x0).2).1) ((((x0).2).2).1) (((((x0).2).2).2).1) ((((((x0).2).2).2).2).1) ((((((x0).2).2).2).2).2) ho0.1 ho0.2.1 ho0.2.2.1 ho0.2.2.2.1 ho0.2.2.2.2.1 ho0.2.2.2.2.2
 refine (P.laws_FnExactValidChoices.calls k ((x0).1) A0_1 c0_1 (((x0).2).1) A0_2 c0_2 ((((x0).2).2).1) A0_3 c0_3 (((((x0).2).2).2).1) A0_4 c0_4 ((((((x0).2).2).2).2).1) A0_5 c0_5 ((((((x0).2).2).2).2).2) true W hr0_1 hc0_1 hr0_2 hc0_2 hr0_3 hc0_3 hr0_4 hc0_4 hr0_5 hc0_5 hk).mono fun e W' hp => ?_
 obtain ⟨he, bel0⟩ := hp
 have bel : Below W.heap.size W W' := bel0
 subst he
 exact ⟨_, rfl, _, _, _, [], _, [], hW', trodAll_mk1 (shut_bool Try.underlying4 _), (trodAll_cons_mk (Below.trod laidOut (by kernel_rfl) (oT (by kernel_rfl)) k0 bel lt0) trodAll_mk0), rfl, bel.frame _, fun h => by cases h⟩
end Go.Proofs.Ytcoaplkoilhhbaa.fnExactValidChoices
