/- Texts that this law leans on, several in one; written by programs of these sessions (print, wip/deep, gather.py). -/
import Derived.Test.YtgfilbgjnloopaaGc2
import Derived.Test.YtgfilbgjnloopaaRows
import Derived.WalkKit
import Derived.ProofKit
import Derived.OpenShut
import Derived.ShutString
import Derived.ChangeOld
import Derived.Below
import Derived.SizedLaws
import Derived.Deep.Slices
import Derived.ChangeArms
import Derived.DataReads
namespace Go.Proofs.Ytgfilbgjnloopaa.P
open Go.RowKit Go.Proofs.YtgfilbgjnloopaaW.PrintWords Go.Proofs.YtgfilbgjnloopaaW.PrintLast Go.Proofs.YtgfilbgjnloopaaW.PrintMore
attribute [local go_sem] max2_int min2_int max_two min_two max_three min_three max_four min_four
set_option linter.unusedVariables false
set_option linter.unusedSimpArgs false
def laws_FnExactValidAlgebra.f (k : Nat) (l0_0 : List (List Int)) (l0_1 : List (List Int)) (l0_2 : List Int) (l0_3 : List Bool) : Option (Bool) := (laws_szAlgebra.f k l0_0 l0_1 l0_2 l0_3 1048576).bind fun t180 => (if t180 < 0 then (some true) else ((laws_toAlgebra.f k l0_0 l0_1 l0_2 l0_3).bind fun bt181 => ((spec_ValidAlgebra.f k bt181.1 bt181.2.1 bt181.2.2.1 bt181.2.2.2).bind fun t193 => ((laws_toAlgebra.f k l0_0 l0_1 l0_2 l0_3).bind fun bt194 => ((impl_ValidAlgebra.f bt194.1 bt194.2.1 bt194.2.2.1 bt194.2.2.2).bind fun t207 => (if (t207 != t193) = true then (some false) else ((laws_toAlgebra.f k l0_0 l0_1 l0_2 l0_3).bind fun bt208 => ((laws_eqAlgebra.f k bt194.1 bt194.2.1 bt194.2.2.1 bt194.2.2.2 bt208.1 bt208.2.1 bt208.2.2.1 bt208.2.2.2).bind fun t220 => (if t220 = true then (some true) else (some false))))))))))
set_option maxHeartbeats 8000000 in
set_option maxRecDepth 100000 in
theorem laws_FnExactValidAlgebra.calls (k : Nat) (A0_0 : Option Addr) (c0_0 : Nat) (l0_0 : List (List Int)) (A0_1 : Option Addr) (c0_1 : Nat) (l0_1 : List (List Int)) (A0_2 : Option Addr) (c0_2 : Nat) (l0_2 : List Int) (A0_3 : Option Addr) (c0_3 : Nat) (l0_3 : List Bool) (r : Bool) (w : World) (hr0_0 : Kd.C (Kd.slice 2 (Kd.int .i64)) w A0_0 l0_0.length l0_0) (hc0_0 : l0_0.length ≤ c0_0) (hr0_1 : Kd.C (Kd.slice 2 (Kd.int .i64)) w A0_1 l0_1.length l0_1) (hc0_1 : l0_1.length ≤ c0_1) (hr0_2 : Kd.C (Kd.int .i64) w A0_2 l0_2.length l0_2) (hc0_2 : l0_2.length ≤ c0_2) (hr0_3 : Kd.C Kd.bool w A0_3 l0_3.length l0_3) (hc0_3 : l0_3.length ≤ c0_3) (h : laws_FnExactValidAlgebra.f k l0_0 l0_1 l0_2 l0_3 = some r) :
  Calls Try.prog 3 #[.agg #[.slice A0_0 l0_0.length c0_0, .slice A0_1 l0_1.length c0_1, .slice A0_2 l0_2.length c0_2, .slice A0_3 l0_3.length c0_3]] w fun e w' => e = .returned (.bool r) ∧ Below w.heap.size w w' := by
 have hu26 := Try.underlying26
 have hu29 := Try.underlying29
 have HR0_0 := AZ.mk hr0_0
 have HC0_0 := AZ.mk hc0_0
 clear hr0_0 hc0_0
 have HR0_1 := AZ.mk hr0_1
 have HC0_1 := AZ.mk hc0_1
 clear hr0_1 hc0_1
 have HR0_2 := AZ.mk hr0_2
 have HC0_2 := AZ.mk hc0_2
 clear hr0_2 hc0_2
 have HR0_3 := AZ.mk hr0_3
 have HC0_3 := AZ.mk hc0_3
 clear hr0_3 hc0_3
 have HB := AZ.mk (Below.refl w.heap.size w)
 have H : ((laws_szAlgebra.f k l0_0 l0_1 l0_2 l0_3 1048576).bind fun t180 => (if t180 < 0 then (some true) else ((laws_toAlgebra.f k l0_0 l0_1 l0_2 l0_3).bind fun bt181 => ((spec_ValidAlgebra.f k bt181.1 bt181.2.1 bt181.2.2.1 bt181.2.2.2).bind fun t193 => ((laws_toAlgebra.f k l0_0 l0_1 l0_2 l0_3).bind fun bt194 => ((impl_ValidAlgebra.f bt194.1 bt194.2.1 bt194.2.2.1 bt194.2.2.2).bind fun t207 => (if (t207 != t193) = true then (some false) else ((laws_toAlgebra.f k l0_0 l0_1 l0_2 l0_3).bind fun bt208 => ((laws_eqAlgebra.f k bt194.1 bt194.2.1 bt194.2.2.1 bt194.2.2.2 bt208.1 bt208.2.1 bt208.2.2.1 bt208.2.2.2).bind fun t220 => (if t220 = true then (some true) else (some false))))))))))) = some r := h
 clear h
 replace H := Option.bind_eq_some_iff.mp H
 obtain ⟨t180, A20, H⟩ := H
 replace H : (if t180 < 0 then (some true) else ((laws_toAlgebra.f k l0_0 l0_1 l0_2 l0_3).bind fun bt181 => ((spec_ValidAlgebra.f k bt181.1 bt181.2.1 bt181.2.2.1 bt181.2.2.2).bind fun t193 => ((laws_toAlgebra.f k l0_0 l0_1 l0_2 l0_3).bind fun bt194 => ((impl_ValidAlgebra.f bt194.1 bt194.2.1 bt194.2.2.1 bt194.2.2.2).bind fun t207 => (if (t207 != t193) = true then (some false) else ((laws_toAlgebra.f k l0_0 l0_1 l0_2 l0_3).bind fun bt208 => ((laws_eqAlgebra.f k bt194.1 bt194.2.1 bt194.2.2.1 bt194.2.2.2 bt208.1 bt208.2.1 bt208.2.2.1 bt208.2.2.2).bind fun t220 => (if t220 = true then (some true) else (some false)))))))))) = some r := H
 have A2 := AZ.mk A20
 clear A20
 by_cases c3 : t180 < 0
 ·rw [if_pos c3] at H
  have c3b0 : decide (t180 < 0) = true := decide_eq_true c3
  clear c3
  obtain rfl := Option.some.inj H
  go_enter Try.func3, Try.ntmps3
  go_wp2_with (first | ((with_reducible refine gate_dst (N := 1) rfl ?_); refine box_event ?hg (N := 1) ?hd (cs := #[.slice A0_0 l0_0.length c0_0, .slice A0_1 l0_1.length c0_1, .slice A0_2 l0_2.length c0_2, .slice A0_3 l0_3.length c0_3]) (t := 26) ?hr ?_; (case hd => rfl); (case hg => rfl); (case hr => first | (go_simp; done) | (go_simp; rfl)); intro gb179 hg w4 hbox hb; have n0_ := AZ.mk (pT (by repeat (first | (with_reducible first | exact HB.out | apply pA | apply pN | apply pD) | exact HB.out)) hb); have n1_ := AZ.mk (hbox); have n2_ := AZ.mk ((by rw [hg]; exact (pZ (by repeat (first | (with_reducible first | exact HB.out | apply pA | apply pN | apply pD) | exact HB.out))) : w.heap.size ≤ gb179)); have n3_ := AZ.mk ((by rw [hg]; exact (pZ (by repeat (first | (with_reducible first | exact HB.out | apply pA | apply pN | apply pD) | exact HB.out))) : w.heap.size ≤ gb179)); clear HB; have HB := n0_; have BK179 := n1_; have GW179 := n2_; have GE179 := n3_; clear n0_ n1_ n2_ n3_; clear hb hbox hg; have hcz5_0 : w4.cell? ⟨gb179, 0, none⟩ = some (.slice A0_0 l0_0.length c0_0) := (bc BK179.out 0).trans rfl; have hcz5_1 : w4.cell? ⟨gb179, 1, none⟩ = some (.slice A0_1 l0_1.length c0_1) := (bc BK179.out 1).trans rfl; have hcz5_2 : w4.cell? ⟨gb179, 2, none⟩ = some (.slice A0_2 l0_2.length c0_2) := (bc BK179.out 2).trans rfl; have hcz5_3 : w4.cell? ⟨gb179, 3, none⟩ = some (.slice A0_3 l0_3.length c0_3) := (bc BK179.out 3).trans rfl; have hfz5_0 := bf BK179.out 0; have hfz5_1 := bf BK179.out 1; have hfz5_2 := bf BK179.out 2; have hfz5_3 := bf BK179.out 3) | ((with_reducible refine gate_callee (f := 7) rfl ?_); refine goesL_ (some 9) rfl rfl Try.func7 (by kernel_rfl) rfl #[.agg #[.slice A0_0 l0_0.length c0_0, .slice A0_1 l0_1.length c0_1, .slice A0_2 l0_2.length c0_2, .slice A0_3 l0_3.length c0_3], .int .i64 1048576] rfl (by (try simp only [List.map_toArray, List.map_cons, List.map_nil]); first | done | rfl | (simp only [List.length_drop, List.length_take]; rfl)) ?_; (with_reducible refine (laws_szAlgebra.calls k _ _ l0_0 _ _ l0_1 _ _ l0_2 _ _ l0_3 1048576 t180 _ ?side1 ?side2 ?side3 ?side4 ?side5 ?side6 ?side7 ?side8 A2.out).mono ?_); (case side1 => repeat (first | exact (Kd.C_below HR0_0.out HB.out) | (with_reducible refine Kd.C_alloc ?_ _) | (with_reducible refine Kd.C_drewN ?_ _) | (with_reducible refine Kd.C_drew ?_))); (case side2 => exact HC0_0.out); (case side3 => repeat (first | exact (Kd.C_below HR0_1.out HB.out) | (with_reducible refine Kd.C_alloc ?_ _) | (with_reducible refine Kd.C_drewN ?_ _) | (with_reducible refine Kd.C_drew ?_))); (case side4 => exact HC0_1.out); (case side5 => repeat (first | exact (Kd.C_below HR0_2.out HB.out) | (with_reducible refine Kd.C_alloc ?_ _) | (with_reducible refine Kd.C_drewN ?_ _) | (with_reducible refine Kd.C_drew ?_))); (case side6 => exact HC0_2.out); (case side7 => repeat (first | exact (Kd.C_below HR0_3.out HB.out) | (with_reducible refine Kd.C_alloc ?_ _) | (with_reducible refine Kd.C_drewN ?_ _) | (with_reducible refine Kd.C_drew ?_))); (case side8 => exact HC0_3.out); rintro e w6 ⟨rfl, hb⟩; refine ⟨_, rfl, ?_⟩; have n0_ := AZ.mk (bb_ (g := gb179) (o := .cells #[.slice A0_0 l0_0.length c0_0, .slice A0_1 l0_1.length c0_1, .slice A0_2 l0_2.length c0_2, .slice A0_3 l0_3.length c0_3] 26 (0, 0)) (by (with_reducible repeat (first | refine bn_ ?_ _ | refine bd_ ?_ | refine ba_ ?_ _)); exact BK179.out) hb); have n1_ := AZ.mk (pT (by repeat (first | (with_reducible first | exact HB.out | apply pA | apply pN | apply pD | refine pS ?_ GE179.out) | exact HB.out)) hb); clear BK179; clear HB; have BK179 := n0_; have HB := n1_; clear n0_ n1_; (try clear hb); (try clear hb2); (try clear hk); (try clear hi)))
  go_ret
  exact ⟨by first | rfl | (simp [errW_none, errW_some] <;> rfl) | (simp [*, errW_none, errW_some] <;> rfl), by repeat (first | (with_reducible first | exact HB.out | apply pA | apply pN | apply pD | refine pS ?_ GE179.out) | exact HB.out)⟩
 rw [if_neg c3] at H
 have c3b0 : decide (t180 < 0) = false := decide_eq_false c3
 clear c3
 replace H := Option.bind_eq_some_iff.mp H
 obtain ⟨⟨t181, t184, t187, t190⟩, A70, H⟩ := H
 replace H : ((spec_ValidAlgebra.f k t181 t184 t187 t190).bind fun t193 => ((laws_toAlgebra.f k l0_0 l0_1 l0_2 l0_3).bind fun bt194 => ((impl_ValidAlgebra.f bt194.1 bt194.2.1 bt194.2.2.1 bt194.2.2.2).bind fun t207 => (if (t207 != t193) = true then (some false) else ((laws_toAlgebra.f k l0_0 l0_1 l0_2 l0_3).bind fun bt208 => ((laws_eqAlgebra.f k bt194.1 bt194.2.1 bt194.2.2.1 bt194.2.2.2 bt208.1 bt208.2.1 bt208.2.2.1 bt208.2.2.2).bind fun t220 => (if t220 = true then (some true) else (some false)))))))) = some r := H
 have A7 := AZ.mk A70
 clear A70
 replace H := Option.bind_eq_some_iff.mp H
 obtain ⟨t193, A80, H⟩ := H
 replace H : ((laws_toAlgebra.f k l0_0 l0_1 l0_2 l0_3).bind fun bt194 => ((impl_ValidAlgebra.f bt194.1 bt194.2.1 bt194.2.2.1 bt194.2.2.2).bind fun t207 => (if (t207 != t193) = true then (some false) else ((laws_toAlgebra.f k l0_0 l0_1 l0_2 l0_3).bind fun bt208 => ((laws_eqAlgebra.f k bt194.1 bt194.2.1 bt194.2.2.1 bt194.2.2.2 bt208.1 bt208.2.1 bt208.2.2.1 bt208.2.2.2).bind fun t220 => (if t220 = true then (some true) else (some false))))))) = some r := H
 have A8 := AZ.mk A80
 clear A80
 replace H := Option.bind_eq_some_iff.mp H
 obtain ⟨⟨t194, t197, t200, t203⟩, A90, H⟩ := H
 replace H : ((impl_ValidAlgebra.f t194 t197 t200 t203).bind fun t207 => (if (t207 != t193) = true then (some false) else ((laws_toAlgebra.f k l0_0 l0_1 l0_2 l0_3).bind fun bt208 => ((laws_eqAlgebra.f k t194 t197 t200 t203 bt208.1 bt208.2.1 bt208.2.2.1 bt208.2.2.2).bind fun t220 => (if t220 = true then (some true) else (some false)))))) = some r := H
 have A9 := AZ.mk A90
 clear A90
 replace H := Option.bind_eq_some_iff.mp H
 obtain ⟨t207, A100, H⟩ := H
 replace H : (if (t207 != t193) = true then (some false) else ((laws_toAlgebra.f k l0_0 l0_1 l0_2 l0_3).bind fun bt208 => ((laws_eqAlgebra.f k t194 t197 t200 t203 bt208.1 bt208.2.1 bt208.2.2.1 bt208.2.2.2).bind fun t220 => (if t220 = true then (some true) else (some false))))) = some r := H
 have A10 := AZ.mk A100
 clear A100
 by_cases c11 : (t207 != t193) = true
 ·rw [if_pos c11] at H
  have c11b0 : (t207 != t193) = true := c11
  (try (have c11b1 : decide (t207 = t193) = false := by simpa using c11))
  (try (have c11b2 : (t207 == t193) = false := by simpa using c11))
  (try (have c11b3 : ¬ (t207 = t193) := by simpa using c11))
  clear c11
  obtain rfl := Option.some.inj H
  go_enter Try.func3, Try.ntmps3
  go_wp2_with (first | ((with_reducible refine gate_dst (N := 1) rfl ?_); refine box_event ?hg (N := 1) ?hd (cs := #[.slice A0_0 l0_0.length c0_0, .slice A0_1 l0_1.length c0_1, .slice A0_2 l0_2.length c0_2, .slice A0_3 l0_3.length c0_3]) (t := 26) ?hr ?_; (case hd => rfl); (case hg => rfl); (case hr => first | (go_simp; done) | (go_simp; rfl)); intro gb179 hg w12 hbox hb; have n0_ := AZ.mk (pT (by repeat (first | (with_reducible first | exact HB.out | apply pA | apply pN | apply pD) | exact HB.out)) hb); have n1_ := AZ.mk (hbox); have n2_ := AZ.mk ((by rw [hg]; exact (pZ (by repeat (first | (with_reducible first | exact HB.out | apply pA | apply pN | apply pD) | exact HB.out))) : w.heap.size ≤ gb179)); have n3_ := AZ.mk ((by rw [hg]; exact (pZ (by repeat (first | (with_reducible first | exact HB.out | apply pA | apply pN | apply pD) | exact HB.out))) : w.heap.size ≤ gb179)); clear HB; have HB := n0_; have BK179 := n1_; have GW179 := n2_; have GE179 := n3_; clear n0_ n1_ n2_ n3_; clear hb hbox hg; have hcz13_0 : w12.cell? ⟨gb179, 0, none⟩ = some (.slice A0_0 l0_0.length c0_0) := (bc BK179.out 0).trans rfl; have hcz13_1 : w12.cell? ⟨gb179, 1, none⟩ = some (.slice A0_1 l0_1.length c0_1) := (bc BK179.out 1).trans rfl; have hcz13_2 : w12.cell? ⟨gb179, 2, none⟩ = some (.slice A0_2 l0_2.length c0_2) := (bc BK179.out 2).trans rfl; have hcz13_3 : w12.cell? ⟨gb179, 3, none⟩ = some (.slice A0_3 l0_3.length c0_3) := (bc BK179.out 3).trans rfl; have hfz13_0 := bf BK179.out 0; have hfz13_1 := bf BK179.out 1; have hfz13_2 := bf BK179.out 2; have hfz13_3 := bf BK179.out 3) | ((with_reducible refine gate_callee (f := 7) rfl ?_); refine goesL_ (some 9) rfl rfl Try.func7 (by kernel_rfl) rfl #[.agg #[.slice A0_0 l0_0.length c0_0, .slice A0_1 l0_1.length c0_1, .slice A0_2 l0_2.length c0_2, .slice A0_3 l0_3.length c0_3], .int .i64 1048576] rfl (by (try simp only [List.map_toArray, List.map_cons, List.map_nil]); first | done | rfl | (simp only [List.length_drop, List.length_take]; rfl)) ?_; (with_reducible refine (laws_szAlgebra.calls k _ _ l0_0 _ _ l0_1 _ _ l0_2 _ _ l0_3 1048576 t180 _ ?side1 ?side2 ?side3 ?side4 ?side5 ?side6 ?side7 ?side8 A2.out).mono ?_); (case side1 => repeat (first | exact (Kd.C_below HR0_0.out HB.out) | (with_reducible refine Kd.C_alloc ?_ _) | (with_reducible refine Kd.C_drewN ?_ _) | (with_reducible refine Kd.C_drew ?_))); (case side2 => exact HC0_0.out); (case side3 => repeat (first | exact (Kd.C_below HR0_1.out HB.out) | (with_reducible refine Kd.C_alloc ?_ _) | (with_reducible refine Kd.C_drewN ?_ _) | (with_reducible refine Kd.C_drew ?_))); (case side4 => exact HC0_1.out); (case side5 => repeat (first | exact (Kd.C_below HR0_2.out HB.out) | (with_reducible refine Kd.C_alloc ?_ _) | (with_reducible refine Kd.C_drewN ?_ _) | (with_reducible refine Kd.C_drew ?_))); (case side6 => exact HC0_2.out); (case side7 => repeat (first | exact (Kd.C_below HR0_3.out HB.out) | (with_reducible refine Kd.C_alloc ?_ _) | (with_reducible refine Kd.C_drewN ?_ _) | (with_reducible refine Kd.C_drew ?_))); (case side8 => exact HC0_3.out); rintro e w14 ⟨rfl, hb⟩; refine ⟨_, rfl, ?_⟩; have n0_ := AZ.mk (bb_ (g := gb179) (o := .cells #[.slice A0_0 l0_0.length c0_0, .slice A0_1 l0_1.length c0_1, .slice A0_2 l0_2.length c0_2, .slice A0_3 l0_3.length c0_3] 26 (0, 0)) (by (with_reducible repeat (first | refine bn_ ?_ _ | refine bd_ ?_ | refine ba_ ?_ _)); exact BK179.out) hb); have n1_ := AZ.mk (pT (by repeat (first | (with_reducible first | exact HB.out | apply pA | apply pN | apply pD | refine pS ?_ GE179.out) | exact HB.out)) hb); clear BK179; clear HB; have BK179 := n0_; have HB := n1_; clear n0_ n1_; (try clear hb); (try clear hb2); (try clear hk); (try clear hi); have hcz15_0 : w14.cell? ⟨gb179, 0, none⟩ = some (.slice A0_0 l0_0.length c0_0) := (bc BK179.out 0).trans rfl; have hcz15_1 : w14.cell? ⟨gb179, 1, none⟩ = some (.slice A0_1 l0_1.length c0_1) := (bc BK179.out 1).trans rfl; have hcz15_2 : w14.cell? ⟨gb179, 2, none⟩ = some (.slice A0_2 l0_2.length c0_2) := (bc BK179.out 2).trans rfl; have hcz15_3 : w14.cell? ⟨gb179, 3, none⟩ = some (.slice A0_3 l0_3.length c0_3) := (bc BK179.out 3).trans rfl; have hfz15_0 := bf BK179.out 0; have hfz15_1 := bf BK179.out 1; have hfz15_2 := bf BK179.out 2; have hfz15_3 := bf BK179.out 3) | ((with_reducible refine gate_callee (f := 9) rfl ?_); refine goesL_ (some 13) rfl rfl Try.func9 (by kernel_rfl) rfl #[.agg #[.slice A0_0 l0_0.length c0_0, .slice A0_1 l0_1.length c0_1, .slice A0_2 l0_2.length c0_2, .slice A0_3 l0_3.length c0_3]] rfl (by (try simp only [List.map_toArray, List.map_cons, List.map_nil]); first | done | rfl | (simp only [List.length_drop, List.length_take]; rfl)) ?_; (with_reducible refine (laws_toAlgebra.calls k _ _ l0_0 _ _ l0_1 _ _ l0_2 _ _ l0_3 t181 t184 t187 t190 _ ?side1 ?side2 ?side3 ?side4 ?side5 ?side6 ?side7 ?side8 A7.out).mono ?_); (case side1 => repeat (first | exact (Kd.C_below HR0_0.out HB.out) | (with_reducible refine Kd.C_alloc ?_ _) | (with_reducible refine Kd.C_drewN ?_ _) | (with_reducible refine Kd.C_drew ?_))); (case side2 => exact HC0_0.out); (case side3 => repeat (first | exact (Kd.C_below HR0_1.out HB.out) | (with_reducible refine Kd.C_alloc ?_ _) | (with_reducible refine Kd.C_drewN ?_ _) | (with_reducible refine Kd.C_drew ?_))); (case side4 => exact HC0_1.out); (case side5 => repeat (first | exact (Kd.C_below HR0_2.out HB.out) | (with_reducible refine Kd.C_alloc ?_ _) | (with_reducible refine Kd.C_drewN ?_ _) | (with_reducible refine Kd.C_drew ?_))); (case side6 => exact HC0_2.out); (case side7 => repeat (first | exact (Kd.C_below HR0_3.out HB.out) | (with_reducible refine Kd.C_alloc ?_ _) | (with_reducible refine Kd.C_drewN ?_ _) | (with_reducible refine Kd.C_drew ?_))); (case side8 => exact HC0_3.out); rintro e w16 ⟨v182, v185, v188, v191, rfl, ho0, ho1, ho2, ho3, hb⟩; refine ⟨_, rfl, ?_⟩; have n0_ := AZ.mk (Kd.S_lower ho0 (pZ (by repeat (first | (with_reducible first | exact HB.out | apply pA | apply pN | apply pD | refine pS ?_ GE179.out) | exact HB.out)))); have n1_ := AZ.mk (Kd.S_lower ho1 (pZ (by repeat (first | (with_reducible first | exact HB.out | apply pA | apply pN | apply pD | refine pS ?_ GE179.out) | exact HB.out)))); have n2_ := AZ.mk (Kd.R_lower ho2 (pZ (by repeat (first | (with_reducible first | exact HB.out | apply pA | apply pN | apply pD | refine pS ?_ GE179.out) | exact HB.out)))); have n3_ := AZ.mk (Kd.R_lower ho3 (pZ (by repeat (first | (with_reducible first | exact HB.out | apply pA | apply pN | apply pD | refine pS ?_ GE179.out) | exact HB.out)))); have n4_ := AZ.mk (bb_ (g := gb179) (o := .cells #[.slice A0_0 l0_0.length c0_0, .slice A0_1 l0_1.length c0_1, .slice A0_2 l0_2.length c0_2, .slice A0_3 l0_3.length c0_3] 26 (0, 0)) (by (with_reducible repeat (first | refine bn_ ?_ _ | refine bd_ ?_ | refine ba_ ?_ _)); exact BK179.out) hb); have n5_ := AZ.mk (pT (by repeat (first | (with_reducible first | exact HB.out | apply pA | apply pN | apply pD | refine pS ?_ GE179.out) | exact HB.out)) hb); clear BK179; clear HB; have HO183 := n0_; have HO186 := n1_; have HO189 := n2_; have HO192 := n3_; have BK179 := n4_; have HB := n5_; clear n0_ n1_ n2_ n3_ n4_ n5_; (try clear hb); (try clear hb2); (try clear hk); (try clear hi); (try clear ho0); (try clear ho1); (try clear ho2); (try clear ho3); obtain ⟨Ao17, co17, eo17⟩ := Kd.S_slice HO183.out; subst eo17; obtain ⟨Ao18, co18, eo18⟩ := Kd.S_slice HO186.out; subst eo18; obtain ⟨Ao19, co19, eo19⟩ := Kd.R_slice HO189.out; subst eo19; obtain ⟨Ao20, co20, eo20⟩ := Kd.R_slice HO192.out; subst eo20) | ((with_reducible refine gate_callee (f := 8) rfl ?_); refine goesL_ (some 14) rfl rfl Try.func8 (by kernel_rfl) rfl #[.agg #[.slice Ao17 t181.length co17, .slice Ao18 t184.length co18, .slice Ao19 t187.length co19, .slice Ao20 t190.length co20]] rfl (by (try simp only [List.map_toArray, List.map_cons, List.map_nil]); first | done | rfl | (simp only [List.length_drop, List.length_take]; rfl)) ?_; (with_reducible refine (spec_ValidAlgebra.calls k _ _ t181 _ _ t184 _ _ t187 _ _ t190 t193 _ ?side1 ?side2 ?side3 ?side4 ?side5 ?side6 ?side7 ?side8 A8.out).mono ?_); (case side1 => repeat (first | exact (Kd.S_reads' HO183.out).2.2 | (with_reducible refine Kd.C_alloc ?_ _) | (with_reducible refine Kd.C_drewN ?_ _) | (with_reducible refine Kd.C_drew ?_))); (case side2 => exact (Kd.S_reads' HO183.out).2.1); (case side3 => repeat (first | exact (Kd.S_reads' HO186.out).2.2 | (with_reducible refine Kd.C_alloc ?_ _) | (with_reducible refine Kd.C_drewN ?_ _) | (with_reducible refine Kd.C_drew ?_))); (case side4 => exact (Kd.S_reads' HO186.out).2.1); (case side5 => repeat (first | exact (Kd.R_reads' HO189.out).2.2 | (with_reducible refine Kd.C_alloc ?_ _) | (with_reducible refine Kd.C_drewN ?_ _) | (with_reducible refine Kd.C_drew ?_))); (case side6 => exact (Kd.R_reads' HO189.out).2.1); (case side7 => repeat (first | exact (Kd.R_reads' HO192.out).2.2 | (with_reducible refine Kd.C_alloc ?_ _) | (with_reducible refine Kd.C_drewN ?_ _) | (with_reducible refine Kd.C_drew ?_))); (case side8 => exact (Kd.R_reads' HO192.out).2.1); rintro e w21 ⟨rfl, hb⟩; refine ⟨_, rfl, ?_⟩; have n0_ := AZ.mk (Kd.S_below (by (with_reducible repeat (first | apply Kd.S_alloc | apply Kd.S_drewN | apply Kd.S_drew)); exact HO183.out) hb); have n1_ := AZ.mk (Kd.S_below (by (with_reducible repeat (first | apply Kd.S_alloc | apply Kd.S_drewN | apply Kd.S_drew)); exact HO186.out) hb); have n2_ := AZ.mk (Kd.R_below (by (with_reducible repeat (first | apply Kd.R_alloc | apply Kd.R_drewN | apply Kd.R_drew)); exact HO189.out) hb); have n3_ := AZ.mk (Kd.R_below (by (with_reducible repeat (first | apply Kd.R_alloc | apply Kd.R_drewN | apply Kd.R_drew)); exact HO192.out) hb); have n4_ := AZ.mk (bb_ (g := gb179) (o := .cells #[.slice A0_0 l0_0.length c0_0, .slice A0_1 l0_1.length c0_1, .slice A0_2 l0_2.length c0_2, .slice A0_3 l0_3.length c0_3] 26 (0, 0)) (by (with_reducible repeat (first | refine bn_ ?_ _ | refine bd_ ?_ | refine ba_ ?_ _)); exact BK179.out) hb); have n5_ := AZ.mk (pT (by repeat (first | (with_reducible first | exact HB.out | apply pA | apply pN | apply pD | refine pS ?_ GE179.out) | exact HB.out)) hb); clear HO183; clear HO186; clear HO189; clear HO192; clear BK179; clear HB; have HO183 := n0_; have HO186 := n1_; have HO189 := n2_; have HO192 := n3_; have BK179 := n4_; have HB := n5_; clear n0_ n1_ n2_ n3_ n4_ n5_; (try clear hb); (try clear hb2); (try clear hk); (try clear hi); have hcz22_0 : w21.cell? ⟨gb179, 0, none⟩ = some (.slice A0_0 l0_0.length c0_0) := (bc BK179.out 0).trans rfl; have hcz22_1 : w21.cell? ⟨gb179, 1, none⟩ = some (.slice A0_1 l0_1.length c0_1) := (bc BK179.out 1).trans rfl; have hcz22_2 : w21.cell? ⟨gb179, 2, none⟩ = some (.slice A0_2 l0_2.length c0_2) := (bc BK179.out 2).trans rfl; have hcz22_3 : w21.cell? ⟨gb179, 3, none⟩ = some (.slice A0_3 l0_3.length c0_3) := (bc BK179.out 3).trans rfl; have hfz22_0 := bf BK179.out 0; have hfz22_1 := bf BK179.out 1; have hfz22_2 := bf BK179.out 2; have hfz22_3 := bf BK179.out 3) | ((with_reducible refine gate_callee (f := 9) rfl ?_); refine goesL_ (some 16) rfl rfl Try.func9 (by kernel_rfl) rfl #[.agg #[.slice A0_0 l0_0.length c0_0, .slice A0_1 l0_1.length c0_1, .slice A0_2 l0_2.length c0_2, .slice A0_3 l0_3.length c0_3]] rfl (by (try simp only [List.map_toArray, List.map_cons, List.map_nil]); first | done | rfl | (simp only [List.length_drop, List.length_take]; rfl)) ?_; (with_reducible refine (laws_toAlgebra.calls k _ _ l0_0 _ _ l0_1 _ _ l0_2 _ _ l0_3 t194 t197 t200 t203 _ ?side1 ?side2 ?side3 ?side4 ?side5 ?side6 ?side7 ?side8 A9.out).mono ?_); (case side1 => repeat (first | exact (Kd.C_below HR0_0.out HB.out) | (with_reducible refine Kd.C_alloc ?_ _) | (with_reducible refine Kd.C_drewN ?_ _) | (with_reducible refine Kd.C_drew ?_))); (case side2 => exact HC0_0.out); (case side3 => repeat (first | exact (Kd.C_below HR0_1.out HB.out) | (with_reducible refine Kd.C_alloc ?_ _) | (with_reducible refine Kd.C_drewN ?_ _) | (with_reducible refine Kd.C_drew ?_))); (case side4 => exact HC0_1.out); (case side5 => repeat (first | exact (Kd.C_below HR0_2.out HB.out) | (with_reducible refine Kd.C_alloc ?_ _) | (with_reducible refine Kd.C_drewN ?_ _) | (with_reducible refine Kd.C_drew ?_))); (case side6 => exact HC0_2.out); (case side7 => repeat (first | exact (Kd.C_below HR0_3.out HB.out) | (with_reducible refine Kd.C_alloc ?_ _) | (with_reducible refine Kd.C_drewN ?_ _) | (with_reducible refine Kd.C_drew ?_))); (case side8 => exact HC0_3.out); rintro e w23 ⟨v195, v198, v201, v204, rfl, ho0, ho1, ho2, ho3, hb⟩; refine ⟨_, rfl, ?_⟩; have n0_ := AZ.mk (Kd.S_mono (Kd.S_told (Kd.S_told (Kd.S_told (Kd.S_old (by (with_reducible repeat (first | apply Kd.S_alloc | apply Kd.S_drewN | apply Kd.S_drew)); exact HO183.out) hb) (Kd.S_base ho0)) (Kd.S_base ho1)) (Kd.R_base ho2)) (fun _ h_ => h_.1)); have n1_ := AZ.mk (Kd.S_mono (Kd.S_told (Kd.S_told (Kd.S_told (Kd.S_old (by (with_reducible repeat (first | apply Kd.S_alloc | apply Kd.S_drewN | apply Kd.S_drew)); exact HO186.out) hb) (Kd.S_base ho0)) (Kd.S_base ho1)) (Kd.R_base ho2)) (fun _ h_ => h_.1)); have n2_ := AZ.mk (Kd.R_elder' (by (with_reducible repeat (first | apply Kd.R_alloc | apply Kd.R_drewN | apply Kd.R_drew)); exact HO189.out) (Kd.R_base ho2) hb); have n3_ := AZ.mk (Kd.R_elder' (by (with_reducible repeat (first | apply Kd.R_alloc | apply Kd.R_drewN | apply Kd.R_drew)); exact HO192.out) (Kd.R_base ho3) hb); have n4_ := AZ.mk (Kd.S_lower (Kd.S_new' (Kd.S_new' (Kd.S_new' ho0 (Kd.S_lt (by (with_reducible repeat (first | apply Kd.S_alloc | apply Kd.S_drewN | apply Kd.S_drew)); exact HO183.out))) (Kd.S_lt (by (with_reducible repeat (first | apply Kd.S_alloc | apply Kd.S_drewN | apply Kd.S_drew)); exact HO186.out))) (Kd.R_lt (by (with_reducible repeat (first | apply Kd.R_alloc | apply Kd.R_drewN | apply Kd.R_drew)); exact HO189.out))) (pZ (by repeat (first | (with_reducible first | exact HB.out | apply pA | apply pN | apply pD | refine pS ?_ GE179.out) | exact HB.out)))); have n5_ := AZ.mk (Kd.S_lower (Kd.S_new' (Kd.S_new' (Kd.S_new' ho1 (Kd.S_lt (by (with_reducible repeat (first | apply Kd.S_alloc | apply Kd.S_drewN | apply Kd.S_drew)); exact HO183.out))) (Kd.S_lt (by (with_reducible repeat (first | apply Kd.S_alloc | apply Kd.S_drewN | apply Kd.S_drew)); exact HO186.out))) (Kd.R_lt (by (with_reducible repeat (first | apply Kd.R_alloc | apply Kd.R_drewN | apply Kd.R_drew)); exact HO189.out))) (pZ (by repeat (first | (with_reducible first | exact HB.out | apply pA | apply pN | apply pD | refine pS ?_ GE179.out) | exact HB.out)))); have n6_ := AZ.mk (Kd.R_lower (Kd.R_new' ho2 (Kd.R_lt (by (with_reducible repeat (first | apply Kd.R_alloc | apply Kd.R_drewN | apply Kd.R_drew)); exact HO189.out))) (pZ (by repeat (first | (with_reducible first | exact HB.out | apply pA | apply pN | apply pD | refine pS ?_ GE179.out) | exact HB.out)))); have n7_ := AZ.mk (Kd.R_lower (Kd.R_new' ho3 (Kd.R_lt (by (with_reducible repeat (first | apply Kd.R_alloc | apply Kd.R_drewN | apply Kd.R_drew)); exact HO192.out))) (pZ (by repeat (first | (with_reducible first | exact HB.out | apply pA | apply pN | apply pD | refine pS ?_ GE179.out) | exact HB.out)))); have n8_ := AZ.mk (bb_ (g := gb179) (o := .cells #[.slice A0_0 l0_0.length c0_0, .slice A0_1 l0_1.length c0_1, .slice A0_2 l0_2.length c0_2, .slice A0_3 l0_3.length c0_3] 26 (0, 0)) (by (with_reducible repeat (first | refine bn_ ?_ _ | refine bd_ ?_ | refine ba_ ?_ _)); exact BK179.out) hb); have n9_ := AZ.mk (pT (by repeat (first | (with_reducible first | exact HB.out | apply pA | apply pN | apply pD | refine pS ?_ GE179.out) | exact HB.out)) hb); clear HO183; clear HO186; clear HO189; clear HO192; clear BK179; clear HB; have HO183 := n0_; have HO186 := n1_; have HO189 := n2_; have HO192 := n3_; have HO196 := n4_; have HO199 := n5_; have HO202 := n6_; have HO205 := n7_; have BK179 := n8_; have HB := n9_; clear n0_ n1_ n2_ n3_ n4_ n5_ n6_ n7_ n8_ n9_; (try clear hb); (try clear hb2); (try clear hk); (try clear hi); (try clear ho0); (try clear ho1); (try clear ho2); (try clear ho3)) | ((with_reducible refine gate_dst (N := 5) rfl ?_); refine box_event ?hg (N := 5) ?hd (cs := #[.slice none 0 0, .slice none 0 0, .slice none 0 0, .slice none 0 0]) (t := 29) ?hr ?_; (case hd => rfl); (case hg => rfl); (case hr => first | (go_simp; done) | (go_simp; rfl)); intro gb206 hg w24 hbox hb; have n0_ := AZ.mk (Kd.S_below (by (with_reducible repeat (first | apply Kd.S_alloc | apply Kd.S_drewN | apply Kd.S_drew)); exact HO183.out) hb); have n1_ := AZ.mk (Kd.S_below (by (with_reducible repeat (first | apply Kd.S_alloc | apply Kd.S_drewN | apply Kd.S_drew)); exact HO186.out) hb); have n2_ := AZ.mk (Kd.R_below (by (with_reducible repeat (first | apply Kd.R_alloc | apply Kd.R_drewN | apply Kd.R_drew)); exact HO189.out) hb); have n3_ := AZ.mk (Kd.R_below (by (with_reducible repeat (first | apply Kd.R_alloc | apply Kd.R_drewN | apply Kd.R_drew)); exact HO192.out) hb); have n4_ := AZ.mk (Kd.S_below (by (with_reducible repeat (first | apply Kd.S_alloc | apply Kd.S_drewN | apply Kd.S_drew)); exact HO196.out) hb); have n5_ := AZ.mk (Kd.S_below (by (with_reducible repeat (first | apply Kd.S_alloc | apply Kd.S_drewN | apply Kd.S_drew)); exact HO199.out) hb); have n6_ := AZ.mk (Kd.R_below (by (with_reducible repeat (first | apply Kd.R_alloc | apply Kd.R_drewN | apply Kd.R_drew)); exact HO202.out) hb); have n7_ := AZ.mk (Kd.R_below (by (with_reducible repeat (first | apply Kd.R_alloc | apply Kd.R_drewN | apply Kd.R_drew)); exact HO205.out) hb); have n8_ := AZ.mk (bb_ (g := gb179) (o := .cells #[.slice A0_0 l0_0.length c0_0, .slice A0_1 l0_1.length c0_1, .slice A0_2 l0_2.length c0_2, .slice A0_3 l0_3.length c0_3] 26 (0, 0)) (by (with_reducible repeat (first | refine bn_ ?_ _ | refine bd_ ?_ | refine ba_ ?_ _)); exact BK179.out) hb); have n9_ := AZ.mk (pT (by repeat (first | (with_reducible first | exact HB.out | apply pA | apply pN | apply pD | refine pS ?_ GE179.out) | exact HB.out)) hb); have n10_ := AZ.mk (hbox); have n11_ := AZ.mk ((by rw [hg]; exact (pZ (by repeat (first | (with_reducible first | exact HB.out | apply pA | apply pN | apply pD | refine pS ?_ GE179.out) | exact HB.out))) : w.heap.size ≤ gb206)); have n12_ := AZ.mk ((by rw [hg]; exact (pZ (by repeat (first | (with_reducible first | exact HB.out | apply pA | apply pN | apply pD | refine pS ?_ GE179.out) | exact HB.out))) : w.heap.size ≤ gb206)); have n13_ := AZ.mk ((by rw [hg]; exact Nat.ne_of_lt (blk_lt (g := gb179) (o := .cells #[.slice A0_0 l0_0.length c0_0, .slice A0_1 l0_1.length c0_1, .slice A0_2 l0_2.length c0_2, .slice A0_3 l0_3.length c0_3] 26 (0, 0)) (by (with_reducible repeat (first | refine bn_ ?_ _ | refine bd_ ?_ | refine ba_ ?_ _)); exact BK179.out)) : gb179 ≠ gb206)); have n14_ := AZ.mk ((by rw [hg]; exact Nat.ne_of_gt (blk_lt (g := gb179) (o := .cells #[.slice A0_0 l0_0.length c0_0, .slice A0_1 l0_1.length c0_1, .slice A0_2 l0_2.length c0_2, .slice A0_3 l0_3.length c0_3] 26 (0, 0)) (by (with_reducible repeat (first | refine bn_ ?_ _ | refine bd_ ?_ | refine ba_ ?_ _)); exact BK179.out)) : gb206 ≠ gb179)); clear HO183; clear HO186; clear HO189; clear HO192; clear HO196; clear HO199; clear HO202; clear HO205; clear BK179; clear HB; have HO183 := n0_; have HO186 := n1_; have HO189 := n2_; have HO192 := n3_; have HO196 := n4_; have HO199 := n5_; have HO202 := n6_; have HO205 := n7_; have BK179 := n8_; have HB := n9_; have BK206 := n10_; have GW206 := n11_; have GE206 := n12_; have NB179_206 := n13_; have NB206_179 := n14_; clear n0_ n1_ n2_ n3_ n4_ n5_ n6_ n7_ n8_ n9_ n10_ n11_ n12_ n13_ n14_; clear hb hbox hg; obtain ⟨Ao25, co25, eo25⟩ := Kd.S_slice HO196.out; subst eo25; have hnb26 := NB206_179.out; have hnc26 := NB179_206.out; have hcz27_0 : w24.cell? ⟨gb206, 0, none⟩ = some (.slice none 0 0) := (bc BK206.out 0).trans rfl; have hcz27_1 : w24.cell? ⟨gb206, 1, none⟩ = some (.slice none 0 0) := (bc BK206.out 1).trans rfl; have hcz27_2 : w24.cell? ⟨gb206, 2, none⟩ = some (.slice none 0 0) := (bc BK206.out 2).trans rfl; have hcz27_3 : w24.cell? ⟨gb206, 3, none⟩ = some (.slice none 0 0) := (bc BK206.out 3).trans rfl; have hfz27_0 := bf BK206.out 0; have hfz27_1 := bf BK206.out 1; have hfz27_2 := bf BK206.out 2; have hfz27_3 := bf BK206.out 3; obtain ⟨Ao28, co28, eo28⟩ := Kd.S_slice HO199.out; subst eo28; obtain ⟨Ao29, co29, eo29⟩ := Kd.R_slice HO202.out; subst eo29; obtain ⟨Ao30, co30, eo30⟩ := Kd.R_slice HO205.out; subst eo30) | ((with_reducible refine gate_callee (f := 10) rfl ?_); refine goesL_ (some 18) rfl rfl Try.func10 (by kernel_rfl) rfl #[.agg #[.slice Ao25 t194.length co25, .slice Ao28 t197.length co28, .slice Ao29 t200.length co29, .slice Ao30 t203.length co30]] rfl (by (try simp only [List.map_toArray, List.map_cons, List.map_nil]); first | done | rfl | (simp only [List.length_drop, List.length_take]; rfl)) ?_; (with_reducible refine (impl_ValidAlgebra.calls _ _ t194 _ _ t197 _ _ t200 _ _ t203 t207 _ ?side1 ?side2 ?side3 ?side4 ?side5 ?side6 ?side7 ?side8 A10.out).mono ?_); (case side1 => refine (Kd.S_reads' (e := 23) (base := w.heap.size) (ok := fun k_ => ((((some k_ ≠ (.slice Ao28 t197.length co28 : Value).ownBlock ∧ some k_ ≠ (.slice Ao29 t200.length co29 : Value).ownBlock) ∧ some k_ ≠ (.slice Ao17 t181.length co17 : Value).ownBlock) ∧ some k_ ≠ (.slice Ao18 t184.length co18 : Value).ownBlock) ∧ some k_ ≠ (.slice Ao19 t187.length co19 : Value).ownBlock)) (n := t194.length) (c := co25) ?_).2.2; exact (by (with_reducible repeat (first | apply Kd.S_alloc | apply Kd.S_drewN | apply Kd.S_drew)); exact (Kd.S_mono (Kd.S_far (p := ⟨gb206, 3, none⟩) (Kd.S_far (p := ⟨gb206, 2, none⟩) (Kd.S_far (p := ⟨gb206, 1, none⟩) (Kd.S_far (p := ⟨gb206, 0, none⟩) (Kd.S_types HO196.out BK206.out (by decide)) (fun _ hk => hk.2) (.slice Ao25 t194.length co25)) (fun _ hk => hk.2) (.slice Ao28 t197.length co28)) (fun _ hk => hk.2) (.slice Ao29 t200.length co29)) (fun _ hk => hk.2) (.slice Ao30 t203.length co30)) (fun _ h_ => h_.1)))); (case side2 => exact (Kd.S_reads' HO196.out).2.1); (case side3 => refine (Kd.S_reads' (e := 23) (base := w.heap.size) (ok := fun k_ => ((((some k_ ≠ (.slice Ao25 t194.length co25 : Value).ownBlock ∧ some k_ ≠ (.slice Ao29 t200.length co29 : Value).ownBlock) ∧ some k_ ≠ (.slice Ao17 t181.length co17 : Value).ownBlock) ∧ some k_ ≠ (.slice Ao18 t184.length co18 : Value).ownBlock) ∧ some k_ ≠ (.slice Ao19 t187.length co19 : Value).ownBlock)) (n := t197.length) (c := co28) ?_).2.2; exact (by (with_reducible repeat (first | apply Kd.S_alloc | apply Kd.S_drewN | apply Kd.S_drew)); exact (Kd.S_mono (Kd.S_far (p := ⟨gb206, 3, none⟩) (Kd.S_far (p := ⟨gb206, 2, none⟩) (Kd.S_far (p := ⟨gb206, 1, none⟩) (Kd.S_far (p := ⟨gb206, 0, none⟩) (Kd.S_types HO199.out BK206.out (by decide)) (fun _ hk => hk.2) (.slice Ao25 t194.length co25)) (fun _ hk => hk.2) (.slice Ao28 t197.length co28)) (fun _ hk => hk.2) (.slice Ao29 t200.length co29)) (fun _ hk => hk.2) (.slice Ao30 t203.length co30)) (fun _ h_ => h_.1)))); (case side4 => exact (Kd.S_reads' HO199.out).2.1); (case side5 => refine (Kd.R_reads' (e := 2) (base := w.heap.size) (ok := fun k_ => (True ∧ some k_ ≠ (.slice Ao19 t187.length co19 : Value).ownBlock)) (n := t200.length) (c := co29) ?_).2.2; exact (by (with_reducible repeat (first | apply Kd.R_alloc | apply Kd.R_drewN | apply Kd.R_drew)); exact (Kd.R_mono (Kd.R_far (p := ⟨gb206, 3, none⟩) (Kd.R_far (p := ⟨gb206, 2, none⟩) (Kd.R_far (p := ⟨gb206, 1, none⟩) (Kd.R_far (p := ⟨gb206, 0, none⟩) (Kd.R_types HO202.out BK206.out (by decide)) (fun _ hk => hk.2) (.slice Ao25 t194.length co25)) (fun _ hk => hk.2) (.slice Ao28 t197.length co28)) (fun _ hk => hk.2) (.slice Ao29 t200.length co29)) (fun _ hk => hk.2) (.slice Ao30 t203.length co30)) (fun _ h_ => h_.1)))); (case side6 => exact (Kd.R_reads' HO202.out).2.1); (case side7 => refine (Kd.R_reads' (e := 4) (base := w.heap.size) (ok := fun k_ => (True ∧ some k_ ≠ (.slice Ao20 t190.length co20 : Value).ownBlock)) (n := t203.length) (c := co30) ?_).2.2; exact (by (with_reducible repeat (first | apply Kd.R_alloc | apply Kd.R_drewN | apply Kd.R_drew)); exact (Kd.R_mono (Kd.R_far (p := ⟨gb206, 3, none⟩) (Kd.R_far (p := ⟨gb206, 2, none⟩) (Kd.R_far (p := ⟨gb206, 1, none⟩) (Kd.R_far (p := ⟨gb206, 0, none⟩) (Kd.R_types HO205.out BK206.out (by decide)) (fun _ hk => hk.2) (.slice Ao25 t194.length co25)) (fun _ hk => hk.2) (.slice Ao28 t197.length co28)) (fun _ hk => hk.2) (.slice Ao29 t200.length co29)) (fun _ hk => hk.2) (.slice Ao30 t203.length co30)) (fun _ h_ => h_.1)))); (case side8 => exact (Kd.R_reads' HO205.out).2.1); rintro e w31 ⟨rfl, hb⟩; refine ⟨_, rfl, ?_⟩; have n0_ := AZ.mk (Kd.S_below (by (with_reducible repeat (first | apply Kd.S_alloc | apply Kd.S_drewN | apply Kd.S_drew)); exact (Kd.S_mono (Kd.S_far (p := ⟨gb206, 3, none⟩) (Kd.S_far (p := ⟨gb206, 2, none⟩) (Kd.S_far (p := ⟨gb206, 1, none⟩) (Kd.S_far (p := ⟨gb206, 0, none⟩) (Kd.S_types HO183.out BK206.out (by decide)) (fun _ hk => hk.2) (.slice Ao25 t194.length co25)) (fun _ hk => hk.2) (.slice Ao28 t197.length co28)) (fun _ hk => hk.2) (.slice Ao29 t200.length co29)) (fun _ hk => hk.2) (.slice Ao30 t203.length co30)) (fun _ h_ => h_.1))) hb); have n1_ := AZ.mk (Kd.S_below (by (with_reducible repeat (first | apply Kd.S_alloc | apply Kd.S_drewN | apply Kd.S_drew)); exact (Kd.S_mono (Kd.S_far (p := ⟨gb206, 3, none⟩) (Kd.S_far (p := ⟨gb206, 2, none⟩) (Kd.S_far (p := ⟨gb206, 1, none⟩) (Kd.S_far (p := ⟨gb206, 0, none⟩) (Kd.S_types HO186.out BK206.out (by decide)) (fun _ hk => hk.2) (.slice Ao25 t194.length co25)) (fun _ hk => hk.2) (.slice Ao28 t197.length co28)) (fun _ hk => hk.2) (.slice Ao29 t200.length co29)) (fun _ hk => hk.2) (.slice Ao30 t203.length co30)) (fun _ h_ => h_.1))) hb); have n2_ := AZ.mk (Kd.R_below (by (with_reducible repeat (first | apply Kd.R_alloc | apply Kd.R_drewN | apply Kd.R_drew)); exact (Kd.R_mono (Kd.R_far (p := ⟨gb206, 3, none⟩) (Kd.R_far (p := ⟨gb206, 2, none⟩) (Kd.R_far (p := ⟨gb206, 1, none⟩) (Kd.R_far (p := ⟨gb206, 0, none⟩) (Kd.R_types HO189.out BK206.out (by decide)) (fun _ hk => hk.2) (.slice Ao25 t194.length co25)) (fun _ hk => hk.2) (.slice Ao28 t197.length co28)) (fun _ hk => hk.2) (.slice Ao29 t200.length co29)) (fun _ hk => hk.2) (.slice Ao30 t203.length co30)) (fun _ h_ => h_.1))) hb); have n3_ := AZ.mk (Kd.R_below (by (with_reducible repeat (first | apply Kd.R_alloc | apply Kd.R_drewN | apply Kd.R_drew)); exact (Kd.R_mono (Kd.R_far (p := ⟨gb206, 3, none⟩) (Kd.R_far (p := ⟨gb206, 2, none⟩) (Kd.R_far (p := ⟨gb206, 1, none⟩) (Kd.R_far (p := ⟨gb206, 0, none⟩) (Kd.R_types HO192.out BK206.out (by decide)) (fun _ hk => hk.2) (.slice Ao25 t194.length co25)) (fun _ hk => hk.2) (.slice Ao28 t197.length co28)) (fun _ hk => hk.2) (.slice Ao29 t200.length co29)) (fun _ hk => hk.2) (.slice Ao30 t203.length co30)) (fun _ h_ => h_.1))) hb); have n4_ := AZ.mk (Kd.S_below (by (with_reducible repeat (first | apply Kd.S_alloc | apply Kd.S_drewN | apply Kd.S_drew)); exact (Kd.S_mono (Kd.S_far (p := ⟨gb206, 3, none⟩) (Kd.S_far (p := ⟨gb206, 2, none⟩) (Kd.S_far (p := ⟨gb206, 1, none⟩) (Kd.S_far (p := ⟨gb206, 0, none⟩) (Kd.S_types HO196.out BK206.out (by decide)) (fun _ hk => hk.2) (.slice Ao25 t194.length co25)) (fun _ hk => hk.2) (.slice Ao28 t197.length co28)) (fun _ hk => hk.2) (.slice Ao29 t200.length co29)) (fun _ hk => hk.2) (.slice Ao30 t203.length co30)) (fun _ h_ => h_.1))) hb); have n5_ := AZ.mk (Kd.S_below (by (with_reducible repeat (first | apply Kd.S_alloc | apply Kd.S_drewN | apply Kd.S_drew)); exact (Kd.S_mono (Kd.S_far (p := ⟨gb206, 3, none⟩) (Kd.S_far (p := ⟨gb206, 2, none⟩) (Kd.S_far (p := ⟨gb206, 1, none⟩) (Kd.S_far (p := ⟨gb206, 0, none⟩) (Kd.S_types HO199.out BK206.out (by decide)) (fun _ hk => hk.2) (.slice Ao25 t194.length co25)) (fun _ hk => hk.2) (.slice Ao28 t197.length co28)) (fun _ hk => hk.2) (.slice Ao29 t200.length co29)) (fun _ hk => hk.2) (.slice Ao30 t203.length co30)) (fun _ h_ => h_.1))) hb); have n6_ := AZ.mk (Kd.R_below (by (with_reducible repeat (first | apply Kd.R_alloc | apply Kd.R_drewN | apply Kd.R_drew)); exact (Kd.R_mono (Kd.R_far (p := ⟨gb206, 3, none⟩) (Kd.R_far (p := ⟨gb206, 2, none⟩) (Kd.R_far (p := ⟨gb206, 1, none⟩) (Kd.R_far (p := ⟨gb206, 0, none⟩) (Kd.R_types HO202.out BK206.out (by decide)) (fun _ hk => hk.2) (.slice Ao25 t194.length co25)) (fun _ hk => hk.2) (.slice Ao28 t197.length co28)) (fun _ hk => hk.2) (.slice Ao29 t200.length co29)) (fun _ hk => hk.2) (.slice Ao30 t203.length co30)) (fun _ h_ => h_.1))) hb); have n7_ := AZ.mk (Kd.R_below (by (with_reducible repeat (first | apply Kd.R_alloc | apply Kd.R_drewN | apply Kd.R_drew)); exact (Kd.R_mono (Kd.R_far (p := ⟨gb206, 3, none⟩) (Kd.R_far (p := ⟨gb206, 2, none⟩) (Kd.R_far (p := ⟨gb206, 1, none⟩) (Kd.R_far (p := ⟨gb206, 0, none⟩) (Kd.R_types HO205.out BK206.out (by decide)) (fun _ hk => hk.2) (.slice Ao25 t194.length co25)) (fun _ hk => hk.2) (.slice Ao28 t197.length co28)) (fun _ hk => hk.2) (.slice Ao29 t200.length co29)) (fun _ hk => hk.2) (.slice Ao30 t203.length co30)) (fun _ h_ => h_.1))) hb); have n8_ := AZ.mk (bb_ (g := gb179) (o := .cells #[.slice A0_0 l0_0.length c0_0, .slice A0_1 l0_1.length c0_1, .slice A0_2 l0_2.length c0_2, .slice A0_3 l0_3.length c0_3] 26 (0, 0)) (by (with_reducible repeat (first | refine bn_ ?_ _ | refine bd_ ?_ | refine ba_ ?_ _)); refine blk_far ?_ NB179_206.out _; (with_reducible repeat (first | refine bn_ ?_ _ | refine bd_ ?_ | refine ba_ ?_ _)); refine blk_far ?_ NB179_206.out _; (with_reducible repeat (first | refine bn_ ?_ _ | refine bd_ ?_ | refine ba_ ?_ _)); refine blk_far ?_ NB179_206.out _; (with_reducible repeat (first | refine bn_ ?_ _ | refine bd_ ?_ | refine ba_ ?_ _)); refine blk_far ?_ NB179_206.out _; (with_reducible repeat (first | refine bn_ ?_ _ | refine bd_ ?_ | refine ba_ ?_ _)); exact BK179.out) hb); have n9_ := AZ.mk (bb_ (g := gb206) (o := .cells #[.slice Ao25 t194.length co25, .slice Ao28 t197.length co28, .slice Ao29 t200.length co29, .slice Ao30 t203.length co30] 29 (0, 0)) (by (with_reducible repeat (first | refine bn_ ?_ _ | refine bd_ ?_ | refine ba_ ?_ _)); refine blk_put (cs := #[.slice Ao25 t194.length co25, .slice Ao28 t197.length co28, .slice Ao29 t200.length co29, .slice none 0 0]) ?_ 3 _ rfl; (with_reducible repeat (first | refine bn_ ?_ _ | refine bd_ ?_ | refine ba_ ?_ _)); refine blk_put (cs := #[.slice Ao25 t194.length co25, .slice Ao28 t197.length co28, .slice none 0 0, .slice none 0 0]) ?_ 2 _ rfl; (with_reducible repeat (first | refine bn_ ?_ _ | refine bd_ ?_ | refine ba_ ?_ _)); refine blk_put (cs := #[.slice Ao25 t194.length co25, .slice none 0 0, .slice none 0 0, .slice none 0 0]) ?_ 1 _ rfl; (with_reducible repeat (first | refine bn_ ?_ _ | refine bd_ ?_ | refine ba_ ?_ _)); refine blk_put (cs := #[.slice none 0 0, .slice none 0 0, .slice none 0 0, .slice none 0 0]) ?_ 0 _ rfl; (with_reducible repeat (first | refine bn_ ?_ _ | refine bd_ ?_ | refine ba_ ?_ _)); exact BK206.out) hb); have n10_ := AZ.mk (pT (by repeat (first | (with_reducible first | exact HB.out | apply pA | apply pN | apply pD | refine pS ?_ GE179.out | refine pS ?_ GE206.out) | exact HB.out)) hb); clear HO183; clear HO186; clear HO189; clear HO192; clear HO196; clear HO199; clear HO202; clear HO205; clear BK179; clear BK206; clear HB; have HO183 := n0_; have HO186 := n1_; have HO189 := n2_; have HO192 := n3_; have HO196 := n4_; have HO199 := n5_; have HO202 := n6_; have HO205 := n7_; have BK179 := n8_; have BK206 := n9_; have HB := n10_; clear n0_ n1_ n2_ n3_ n4_ n5_ n6_ n7_ n8_ n9_ n10_; (try clear hb); (try clear hb2); (try clear hk); (try clear hi)))
  go_ret
  exact ⟨by first | rfl | (simp [errW_none, errW_some] <;> rfl) | (simp [*, errW_none, errW_some] <;> rfl), by repeat (first | (with_reducible first | exact HB.out | apply pA | apply pN | apply pD | refine pS ?_ GE179.out | refine pS ?_ GE206.out) | exact HB.out)⟩
 rw [if_neg c11] at H
 have c11b0 : (t207 != t193) = false := by simpa using c11
 (try (have c11b1 : decide (t207 = t193) = true := by simpa using c11))
 (try (have c11b2 : (t207 == t193) = true := by simpa using c11))
 clear c11
 replace H := Option.bind_eq_some_iff.mp H
 obtain ⟨⟨t208, t211, t214, t217⟩, A320, H⟩ := H
 replace H : ((laws_eqAlgebra.f k t194 t197 t200 t203 t208 t211 t214 t217).bind fun t220 => (if t220 = true then (some true) else (some false))) = some r := H
 have A32 := AZ.mk A320
 clear A320
 replace H := Option.bind_eq_some_iff.mp H
 obtain ⟨t220, A330, H⟩ := H
 replace H : (if t220 = true then (some true) else (some false)) = some r := H
 have A33 := AZ.mk A330
 clear A330
 by_cases c34 : t220 = true
 ·subst c34
  have H1 : (some true) = some r := by rw [if_pos rfl] at H; exact H
  clear H
  have H := H1
  clear H1
  obtain rfl := Option.some.inj H
  go_enter Try.func3, Try.ntmps3
  try go_wp2_with (first | ((with_reducible refine gate_dst (N := 1) rfl ?_); refine box_event ?hg (N := 1) ?hd (cs := #[.slice A0_0 l0_0.length c0_0, .slice A0_1 l0_1.length c0_1, .slice A0_2 l0_2.length c0_2, .slice A0_3 l0_3.length c0_3]) (t := 26) ?hr ?_; (case hd => rfl); (case hg => rfl); (case hr => first | (go_simp; done) | (go_simp; rfl)); intro gb179 hg w35 hbox hb; have n0_ := AZ.mk (pT (by repeat (first | (with_reducible first | exact HB.out | apply pA | apply pN | apply pD) | exact HB.out)) hb); have n1_ := AZ.mk (hbox); have n2_ := AZ.mk ((by rw [hg]; exact (pZ (by repeat (first | (with_reducible first | exact HB.out | apply pA | apply pN | apply pD) | exact HB.out))) : w.heap.size ≤ gb179)); have n3_ := AZ.mk ((by rw [hg]; exact (pZ (by repeat (first | (with_reducible first | exact HB.out | apply pA | apply pN | apply pD) | exact HB.out))) : w.heap.size ≤ gb179)); clear HB; have HB := n0_; have BK179 := n1_; have GW179 := n2_; have GE179 := n3_; clear n0_ n1_ n2_ n3_; clear hb hbox hg; have hcz36_0 : w35.cell? ⟨gb179, 0, none⟩ = some (.slice A0_0 l0_0.length c0_0) := (bc BK179.out 0).trans rfl; have hcz36_1 : w35.cell? ⟨gb179, 1, none⟩ = some (.slice A0_1 l0_1.length c0_1) := (bc BK179.out 1).trans rfl; have hcz36_2 : w35.cell? ⟨gb179, 2, none⟩ = some (.slice A0_2 l0_2.length c0_2) := (bc BK179.out 2).trans rfl; have hcz36_3 : w35.cell? ⟨gb179, 3, none⟩ = some (.slice A0_3 l0_3.length c0_3) := (bc BK179.out 3).trans rfl; have hfz36_0 := bf BK179.out 0; have hfz36_1 := bf BK179.out 1; have hfz36_2 := bf BK179.out 2; have hfz36_3 := bf BK179.out 3) | ((with_reducible refine gate_callee (f := 7) rfl ?_); refine goesL_ (some 9) rfl rfl Try.func7 (by kernel_rfl) rfl #[.agg #[.slice A0_0 l0_0.length c0_0, .slice A0_1 l0_1.length c0_1, .slice A0_2 l0_2.length c0_2, .slice A0_3 l0_3.length c0_3], .int .i64 1048576] rfl (by (try simp only [List.map_toArray, List.map_cons, List.map_nil]); first | done | rfl | (simp only [List.length_drop, List.length_take]; rfl)) ?_; (with_reducible refine (laws_szAlgebra.calls k _ _ l0_0 _ _ l0_1 _ _ l0_2 _ _ l0_3 1048576 t180 _ ?side1 ?side2 ?side3 ?side4 ?side5 ?side6 ?side7 ?side8 A2.out).mono ?_); (case side1 => repeat (first | exact (Kd.C_below HR0_0.out HB.out) | (with_reducible refine Kd.C_alloc ?_ _) | (with_reducible refine Kd.C_drewN ?_ _) | (with_reducible refine Kd.C_drew ?_))); (case side2 => exact HC0_0.out); (case side3 => repeat (first | exact (Kd.C_below HR0_1.out HB.out) | (with_reducible refine Kd.C_alloc ?_ _) | (with_reducible refine Kd.C_drewN ?_ _) | (with_reducible refine Kd.C_drew ?_))); (case side4 => exact HC0_1.out); (case side5 => repeat (first | exact (Kd.C_below HR0_2.out HB.out) | (with_reducible refine Kd.C_alloc ?_ _) | (with_reducible refine Kd.C_drewN ?_ _) | (with_reducible refine Kd.C_drew ?_))); (case side6 => exact HC0_2.out); (case side7 => repeat (first | exact (Kd.C_below HR0_3.out HB.out) | (with_reducible refine Kd.C_alloc ?_ _) | (with_reducible refine Kd.C_drewN ?_ _) | (with_reducible refine Kd.C_drew ?_))); (case side8 => exact HC0_3.out); rintro e w37 ⟨rfl, hb⟩; refine ⟨_, rfl, ?_⟩; have n0_ := AZ.mk (bb_ (g := gb179) (o := .cells #[.slice A0_0 l0_0.length c0_0, .slice A0_1 l0_1.length c0_1, .slice A0_2 l0_2.length c0_2, .slice A0_3 l0_3.length c0_3] 26 (0, 0)) (by (with_reducible repeat (first | refine bn_ ?_ _ | refine bd_ ?_ | refine ba_ ?_ _)); exact BK179.out) hb); have n1_ := AZ.mk (pT (by repeat (first | (with_reducible first | exact HB.out | apply pA | apply pN | apply pD | refine pS ?_ GE179.out) | exact HB.out)) hb); clear BK179; clear HB; have BK179 := n0_; have HB := n1_; clear n0_ n1_; (try clear hb); (try clear hb2); (try clear hk); (try clear hi); have hcz38_0 : w37.cell? ⟨gb179, 0, none⟩ = some (.slice A0_0 l0_0.length c0_0) := (bc BK179.out 0).trans rfl; have hcz38_1 : w37.cell? ⟨gb179, 1, none⟩ = some (.slice A0_1 l0_1.length c0_1) := (bc BK179.out 1).trans rfl; have hcz38_2 : w37.cell? ⟨gb179, 2, none⟩ = some (.slice A0_2 l0_2.length c0_2) := (bc BK179.out 2).trans rfl; have hcz38_3 : w37.cell? ⟨gb179, 3, none⟩ = some (.slice A0_3 l0_3.length c0_3) := (bc BK179.out 3).trans rfl; have hfz38_0 := bf BK179.out 0; have hfz38_1 := bf BK179.out 1; have hfz38_2 := bf BK179.out 2; have hfz38_3 := bf BK179.out 3) | ((with_reducible refine gate_callee (f := 9) rfl ?_); refine goesL_ (some 13) rfl rfl Try.func9 (by kernel_rfl) rfl #[.agg #[.slice A0_0 l0_0.length c0_0, .slice A0_1 l0_1.length c0_1, .slice A0_2 l0_2.length c0_2, .slice A0_3 l0_3.length c0_3]] rfl (by (try simp only [List.map_toArray, List.map_cons, List.map_nil]); first | done | rfl | (simp only [List.length_drop, List.length_take]; rfl)) ?_; (with_reducible refine (laws_toAlgebra.calls k _ _ l0_0 _ _ l0_1 _ _ l0_2 _ _ l0_3 t181 t184 t187 t190 _ ?side1 ?side2 ?side3 ?side4 ?side5 ?side6 ?side7 ?side8 A7.out).mono ?_); (case side1 => repeat (first | exact (Kd.C_below HR0_0.out HB.out) | (with_reducible refine Kd.C_alloc ?_ _) | (with_reducible refine Kd.C_drewN ?_ _) | (with_reducible refine Kd.C_drew ?_))); (case side2 => exact HC0_0.out); (case side3 => repeat (first | exact (Kd.C_below HR0_1.out HB.out) | (with_reducible refine Kd.C_alloc ?_ _) | (with_reducible refine Kd.C_drewN ?_ _) | (with_reducible refine Kd.C_drew ?_))); (case side4 => exact HC0_1.out); (case side5 => repeat (first | exact (Kd.C_below HR0_2.out HB.out) | (with_reducible refine Kd.C_alloc ?_ _) | (with_reducible refine Kd.C_drewN ?_ _) | (with_reducible refine Kd.C_drew ?_))); (case side6 => exact HC0_2.out); (case side7 => repeat (first | exact (Kd.C_below HR0_3.out HB.out) | (with_reducible refine Kd.C_alloc ?_ _) | (with_reducible refine Kd.C_drewN ?_ _) | (with_reducible refine Kd.C_drew ?_))); (case side8 => exact HC0_3.out); rintro e w39 ⟨v182, v185, v188, v191, rfl, ho0, ho1, ho2, ho3, hb⟩; refine ⟨_, rfl, ?_⟩; have n0_ := AZ.mk (Kd.S_lower ho0 (pZ (by repeat (first | (with_reducible first | exact HB.out | apply pA | apply pN | apply pD | refine pS ?_ GE179.out) | exact HB.out)))); have n1_ := AZ.mk (Kd.S_lower ho1 (pZ (by repeat (first | (with_reducible first | exact HB.out | apply pA | apply pN | apply pD | refine pS ?_ GE179.out) | exact HB.out)))); have n2_ := AZ.mk (Kd.R_lower ho2 (pZ (by repeat (first | (with_reducible first | exact HB.out | apply pA | apply pN | apply pD | refine pS ?_ GE179.out) | exact HB.out)))); have n3_ := AZ.mk (Kd.R_lower ho3 (pZ (by repeat (first | (with_reducible first | exact HB.out | apply pA | apply pN | apply pD | refine pS ?_ GE179.out) | exact HB.out)))); have n4_ := AZ.mk (bb_ (g := gb179) (o := .cells #[.slice A0_0 l0_0.length c0_0, .slice A0_1 l0_1.length c0_1, .slice A0_2 l0_2.length c0_2, .slice A0_3 l0_3.length c0_3] 26 (0, 0)) (by (with_reducible repeat (first | refine bn_ ?_ _ | refine bd_ ?_ | refine ba_ ?_ _)); exact BK179.out) hb); have n5_ := AZ.mk (pT (by repeat (first | (with_reducible first | exact HB.out | apply pA | apply pN | apply pD | refine pS ?_ GE179.out) | exact HB.out)) hb); clear BK179; clear HB; have HO183 := n0_; have HO186 := n1_; have HO189 := n2_; have HO192 := n3_; have BK179 := n4_; have HB := n5_; clear n0_ n1_ n2_ n3_ n4_ n5_; (try clear hb); (try clear hb2); (try clear hk); (try clear hi); (try clear ho0); (try clear ho1); (try clear ho2); (try clear ho3); obtain ⟨Ao40, co40, eo40⟩ := Kd.S_slice HO183.out; subst eo40; obtain ⟨Ao41, co41, eo41⟩ := Kd.S_slice HO186.out; subst eo41; obtain ⟨Ao42, co42, eo42⟩ := Kd.R_slice HO189.out; subst eo42; obtain ⟨Ao43, co43, eo43⟩ := Kd.R_slice HO192.out; subst eo43) | ((with_reducible refine gate_callee (f := 8) rfl ?_); refine goesL_ (some 14) rfl rfl Try.func8 (by kernel_rfl) rfl #[.agg #[.slice Ao40 t181.length co40, .slice Ao41 t184.length co41, .slice Ao42 t187.length co42, .slice Ao43 t190.length co43]] rfl (by (try simp only [List.map_toArray, List.map_cons, List.map_nil]); first | done | rfl | (simp only [List.length_drop, List.length_take]; rfl)) ?_; (with_reducible refine (spec_ValidAlgebra.calls k _ _ t181 _ _ t184 _ _ t187 _ _ t190 t193 _ ?side1 ?side2 ?side3 ?side4 ?side5 ?side6 ?side7 ?side8 A8.out).mono ?_); (case side1 => repeat (first | exact (Kd.S_reads' HO183.out).2.2 | (with_reducible refine Kd.C_alloc ?_ _) | (with_reducible refine Kd.C_drewN ?_ _) | (with_reducible refine Kd.C_drew ?_))); (case side2 => exact (Kd.S_reads' HO183.out).2.1); (case side3 => repeat (first | exact (Kd.S_reads' HO186.out).2.2 | (with_reducible refine Kd.C_alloc ?_ _) | (with_reducible refine Kd.C_drewN ?_ _) | (with_reducible refine Kd.C_drew ?_))); (case side4 => exact (Kd.S_reads' HO186.out).2.1); (case side5 => repeat (first | exact (Kd.R_reads' HO189.out).2.2 | (with_reducible refine Kd.C_alloc ?_ _) | (with_reducible refine Kd.C_drewN ?_ _) | (with_reducible refine Kd.C_drew ?_))); (case side6 => exact (Kd.R_reads' HO189.out).2.1); (case side7 => repeat (first | exact (Kd.R_reads' HO192.out).2.2 | (with_reducible refine Kd.C_alloc ?_ _) | (with_reducible refine Kd.C_drewN ?_ _) | (with_reducible refine Kd.C_drew ?_))); (case side8 => exact (Kd.R_reads' HO192.out).2.1); rintro e w44 ⟨rfl, hb⟩; refine ⟨_, rfl, ?_⟩; have n0_ := AZ.mk (Kd.S_below (by (with_reducible repeat (first | apply Kd.S_alloc | apply Kd.S_drewN | apply Kd.S_drew)); exact HO183.out) hb); have n1_ := AZ.mk (Kd.S_below (by (with_reducible repeat (first | apply Kd.S_alloc | apply Kd.S_drewN | apply Kd.S_drew)); exact HO186.out) hb); have n2_ := AZ.mk (Kd.R_below (by (with_reducible repeat (first | apply Kd.R_alloc | apply Kd.R_drewN | apply Kd.R_drew)); exact HO189.out) hb); have n3_ := AZ.mk (Kd.R_below (by (with_reducible repeat (first | apply Kd.R_alloc | apply Kd.R_drewN | apply Kd.R_drew)); exact HO192.out) hb); have n4_ := AZ.mk (bb_ (g := gb179) (o := .cells #[.slice A0_0 l0_0.length c0_0, .slice A0_1 l0_1.length c0_1, .slice A0_2 l0_2.length c0_2, .slice A0_3 l0_3.length c0_3] 26 (0, 0)) (by (with_reducible repeat (first | refine bn_ ?_ _ | refine bd_ ?_ | refine ba_ ?_ _)); exact BK179.out) hb); have n5_ := AZ.mk (pT (by repeat (first | (with_reducible first | exact HB.out | apply pA | apply pN | apply pD | refine pS ?_ GE179.out) | exact HB.out)) hb); clear HO183; clear HO186; clear HO189; clear HO192; clear BK179; clear HB; have HO183 := n0_; have HO186 := n1_; have HO189 := n2_; have HO192 := n3_; have BK179 := n4_; have HB := n5_; clear n0_ n1_ n2_ n3_ n4_ n5_; (try clear hb); (try clear hb2); (try clear hk); (try clear hi); have hcz45_0 : w44.cell? ⟨gb179, 0, none⟩ = some (.slice A0_0 l0_0.length c0_0) := (bc BK179.out 0).trans rfl; have hcz45_1 : w44.cell? ⟨gb179, 1, none⟩ = some (.slice A0_1 l0_1.length c0_1) := (bc BK179.out 1).trans rfl; have hcz45_2 : w44.cell? ⟨gb179, 2, none⟩ = some (.slice A0_2 l0_2.length c0_2) := (bc BK179.out 2).trans rfl; have hcz45_3 : w44.cell? ⟨gb179, 3, none⟩ = some (.slice A0_3 l0_3.length c0_3) := (bc BK179.out 3).trans rfl; have hfz45_0 := bf BK179.out 0; have hfz45_1 := bf BK179.out 1; have hfz45_2 := bf BK179.out 2; have hfz45_3 := bf BK179.out 3) | ((with_reducible refine gate_callee (f := 9) rfl ?_); refine goesL_ (some 16) rfl rfl Try.func9 (by kernel_rfl) rfl #[.agg #[.slice A0_0 l0_0.length c0_0, .slice A0_1 l0_1.length c0_1, .slice A0_2 l0_2.length c0_2, .slice A0_3 l0_3.length c0_3]] rfl (by (try simp only [List.map_toArray, List.map_cons, List.map_nil]); first | done | rfl | (simp only [List.length_drop, List.length_take]; rfl)) ?_; (with_reducible refine (laws_toAlgebra.calls k _ _ l0_0 _ _ l0_1 _ _ l0_2 _ _ l0_3 t194 t197 t200 t203 _ ?side1 ?side2 ?side3 ?side4 ?side5 ?side6 ?side7 ?side8 A9.out).mono ?_); (case side1 => repeat (first | exact (Kd.C_below HR0_0.out HB.out) | (with_reducible refine Kd.C_alloc ?_ _) | (with_reducible refine Kd.C_drewN ?_ _) | (with_reducible refine Kd.C_drew ?_))); (case side2 => exact HC0_0.out); (case side3 => repeat (first | exact (Kd.C_below HR0_1.out HB.out) | (with_reducible refine Kd.C_alloc ?_ _) | (with_reducible refine Kd.C_drewN ?_ _) | (with_reducible refine Kd.C_drew ?_))); (case side4 => exact HC0_1.out); (case side5 => repeat (first | exact (Kd.C_below HR0_2.out HB.out) | (with_reducible refine Kd.C_alloc ?_ _) | (with_reducible refine Kd.C_drewN ?_ _) | (with_reducible refine Kd.C_drew ?_))); (case side6 => exact HC0_2.out); (case side7 => repeat (first | exact (Kd.C_below HR0_3.out HB.out) | (with_reducible refine Kd.C_alloc ?_ _) | (with_reducible refine Kd.C_drewN ?_ _) | (with_reducible refine Kd.C_drew ?_))); (case side8 => exact HC0_3.out); rintro e w46 ⟨v195, v198, v201, v204, rfl, ho0, ho1, ho2, ho3, hb⟩; refine ⟨_, rfl, ?_⟩; have n0_ := AZ.mk (Kd.S_mono (Kd.S_told (Kd.S_told (Kd.S_told (Kd.S_old (by (with_reducible repeat (first | apply Kd.S_alloc | apply Kd.S_drewN | apply Kd.S_drew)); exact HO183.out) hb) (Kd.S_base ho0)) (Kd.S_base ho1)) (Kd.R_base ho2)) (fun _ h_ => h_.1)); have n1_ := AZ.mk (Kd.S_mono (Kd.S_told (Kd.S_told (Kd.S_told (Kd.S_old (by (with_reducible repeat (first | apply Kd.S_alloc | apply Kd.S_drewN | apply Kd.S_drew)); exact HO186.out) hb) (Kd.S_base ho0)) (Kd.S_base ho1)) (Kd.R_base ho2)) (fun _ h_ => h_.1)); have n2_ := AZ.mk (Kd.R_elder' (by (with_reducible repeat (first | apply Kd.R_alloc | apply Kd.R_drewN | apply Kd.R_drew)); exact HO189.out) (Kd.R_base ho2) hb); have n3_ := AZ.mk (Kd.R_elder' (by (with_reducible repeat (first | apply Kd.R_alloc | apply Kd.R_drewN | apply Kd.R_drew)); exact HO192.out) (Kd.R_base ho3) hb); have n4_ := AZ.mk (Kd.S_lower (Kd.S_new' (Kd.S_new' (Kd.S_new' ho0 (Kd.S_lt (by (with_reducible repeat (first | apply Kd.S_alloc | apply Kd.S_drewN | apply Kd.S_drew)); exact HO183.out))) (Kd.S_lt (by (with_reducible repeat (first | apply Kd.S_alloc | apply Kd.S_drewN | apply Kd.S_drew)); exact HO186.out))) (Kd.R_lt (by (with_reducible repeat (first | apply Kd.R_alloc | apply Kd.R_drewN | apply Kd.R_drew)); exact HO189.out))) (pZ (by repeat (first | (with_reducible first | exact HB.out | apply pA | apply pN | apply pD | refine pS ?_ GE179.out) | exact HB.out)))); have n5_ := AZ.mk (Kd.S_lower (Kd.S_new' (Kd.S_new' (Kd.S_new' ho1 (Kd.S_lt (by (with_reducible repeat (first | apply Kd.S_alloc | apply Kd.S_drewN | apply Kd.S_drew)); exact HO183.out))) (Kd.S_lt (by (with_reducible repeat (first | apply Kd.S_alloc | apply Kd.S_drewN | apply Kd.S_drew)); exact HO186.out))) (Kd.R_lt (by (with_reducible repeat (first | apply Kd.R_alloc | apply Kd.R_drewN | apply Kd.R_drew)); exact HO189.out))) (pZ (by repeat (first | (with_reducible first | exact HB.out | apply pA | apply pN | apply pD | refine pS ?_ GE179.out) | exact HB.out)))); have n6_ := AZ.mk (Kd.R_lower (Kd.R_new' ho2 (Kd.R_lt (by (with_reducible repeat (first | apply Kd.R_alloc | apply Kd.R_drewN | apply Kd.R_drew)); exact HO189.out))) (pZ (by repeat (first | (with_reducible first | exact HB.out | apply pA | apply pN | apply pD | refine pS ?_ GE179.out) | exact HB.out)))); have n7_ := AZ.mk (Kd.R_lower (Kd.R_new' ho3 (Kd.R_lt (by (with_reducible repeat (first | apply Kd.R_alloc | apply Kd.R_drewN | apply Kd.R_drew)); exact HO192.out))) (pZ (by repeat (first | (with_reducible first | exact HB.out | apply pA | apply pN | apply pD | refine pS ?_ GE179.out) | exact HB.out)))); have n8_ := AZ.mk (bb_ (g := gb179) (o := .cells #[.slice A0_0 l0_0.length c0_0, .slice A0_1 l0_1.length c0_1, .slice A0_2 l0_2.length c0_2, .slice A0_3 l0_3.length c0_3] 26 (0, 0)) (by (with_reducible repeat (first | refine bn_ ?_ _ | refine bd_ ?_ | refine ba_ ?_ _)); exact BK179.out) hb); have n9_ := AZ.mk (pT (by repeat (first | (with_reducible first | exact HB.out | apply pA | apply pN | apply pD | refine pS ?_ GE179.out) | exact HB.out)) hb); clear HO183; clear HO186; clear HO189; clear HO192; clear BK179; clear HB; have HO183 := n0_; have HO186 := n1_; have HO189 := n2_; have HO192 := n3_; have HO196 := n4_; have HO199 := n5_; have HO202 := n6_; have HO205 := n7_; have BK179 := n8_; have HB := n9_; clear n0_ n1_ n2_ n3_ n4_ n5_ n6_ n7_ n8_ n9_; (try clear hb); (try clear hb2); (try clear hk); (try clear hi); (try clear ho0); (try clear ho1); (try clear ho2); (try clear ho3)) | ((with_reducible refine gate_dst (N := 5) rfl ?_); refine box_event ?hg (N := 5) ?hd (cs := #[.slice none 0 0, .slice none 0 0, .slice none 0 0, .slice none 0 0]) (t := 29) ?hr ?_; (case hd => rfl); (case hg => rfl); (case hr => first | (go_simp; done) | (go_simp; rfl)); intro gb206 hg w47 hbox hb; have n0_ := AZ.mk (Kd.S_below (by (with_reducible repeat (first | apply Kd.S_alloc | apply Kd.S_drewN | apply Kd.S_drew)); exact HO183.out) hb); have n1_ := AZ.mk (Kd.S_below (by (with_reducible repeat (first | apply Kd.S_alloc | apply Kd.S_drewN | apply Kd.S_drew)); exact HO186.out) hb); have n2_ := AZ.mk (Kd.R_below (by (with_reducible repeat (first | apply Kd.R_alloc | apply Kd.R_drewN | apply Kd.R_drew)); exact HO189.out) hb); have n3_ := AZ.mk (Kd.R_below (by (with_reducible repeat (first | apply Kd.R_alloc | apply Kd.R_drewN | apply Kd.R_drew)); exact HO192.out) hb); have n4_ := AZ.mk (Kd.S_below (by (with_reducible repeat (first | apply Kd.S_alloc | apply Kd.S_drewN | apply Kd.S_drew)); exact HO196.out) hb); have n5_ := AZ.mk (Kd.S_below (by (with_reducible repeat (first | apply Kd.S_alloc | apply Kd.S_drewN | apply Kd.S_drew)); exact HO199.out) hb); have n6_ := AZ.mk (Kd.R_below (by (with_reducible repeat (first | apply Kd.R_alloc | apply Kd.R_drewN | apply Kd.R_drew)); exact HO202.out) hb); have n7_ := AZ.mk (Kd.R_below (by (with_reducible repeat (first | apply Kd.R_alloc | apply Kd.R_drewN | apply Kd.R_drew)); exact HO205.out) hb); have n8_ := AZ.mk (bb_ (g := gb179) (o := .cells #[.slice A0_0 l0_0.length c0_0, .slice A0_1 l0_1.length c0_1, .slice A0_2 l0_2.length c0_2, .slice A0_3 l0_3.length c0_3] 26 (0, 0)) (by (with_reducible repeat (first | refine bn_ ?_ _ | refine bd_ ?_ | refine ba_ ?_ _)); exact BK179.out) hb); have n9_ := AZ.mk (pT (by repeat (first | (with_reducible first | exact HB.out | apply pA | apply pN | apply pD | refine pS ?_ GE179.out) | exact HB.out)) hb); have n10_ := AZ.mk (hbox); have n11_ := AZ.mk ((by rw [hg]; exact (pZ (by repeat (first | (with_reducible first | exact HB.out | apply pA | apply pN | apply pD | refine pS ?_ GE179.out) | exact HB.out))) : w.heap.size ≤ gb206)); have n12_ := AZ.mk ((by rw [hg]; exact (pZ (by repeat (first | (with_reducible first | exact HB.out | apply pA | apply pN | apply pD | refine pS ?_ GE179.out) | exact HB.out))) : w.heap.size ≤ gb206)); have n13_ := AZ.mk ((by rw [hg]; exact Nat.ne_of_lt (blk_lt (g := gb179) (o := .cells #[.slice A0_0 l0_0.length c0_0, .slice A0_1 l0_1.length c0_1, .slice A0_2 l0_2.length c0_2, .slice A0_3 l0_3.length c0_3] 26 (0, 0)) (by (with_reducible repeat (first | refine bn_ ?_ _ | refine bd_ ?_ | refine ba_ ?_ _)); exact BK179.out)) : gb179 ≠ gb206)); have n14_ := AZ.mk ((by rw [hg]; exact Nat.ne_of_gt (blk_lt (g := gb179) (o := .cells #[.slice A0_0 l0_0.length c0_0, .slice A0_1 l0_1.length c0_1, .slice A0_2 l0_2.length c0_2, .slice A0_3 l0_3.length c0_3] 26 (0, 0)) (by (with_reducible repeat (first | refine bn_ ?_ _ | refine bd_ ?_ | refine ba_ ?_ _)); exact BK179.out)) : gb206 ≠ gb179)); clear HO183; clear HO186; clear HO189; clear HO192; clear HO196; clear HO199; clear HO202; clear HO205; clear BK179; clear HB; have HO183 := n0_; have HO186 := n1_; have HO189 := n2_; have HO192 := n3_; have HO196 := n4_; have HO199 := n5_; have HO202 := n6_; have HO205 := n7_; have BK179 := n8_; have HB := n9_; have BK206 := n10_; have GW206 := n11_; have GE206 := n12_; have NB179_206 := n13_; have NB206_179 := n14_; clear n0_ n1_ n2_ n3_ n4_ n5_ n6_ n7_ n8_ n9_ n10_ n11_ n12_ n13_ n14_; clear hb hbox hg; obtain ⟨Ao48, co48, eo48⟩ := Kd.S_slice HO196.out; subst eo48; have hnb49 := NB206_179.out; have hnc49 := NB179_206.out; have hcz50_0 : w47.cell? ⟨gb206, 0, none⟩ = some (.slice none 0 0) := (bc BK206.out 0).trans rfl; have hcz50_1 : w47.cell? ⟨gb206, 1, none⟩ = some (.slice none 0 0) := (bc BK206.out 1).trans rfl; have hcz50_2 : w47.cell? ⟨gb206, 2, none⟩ = some (.slice none 0 0) := (bc BK206.out 2).trans rfl; have hcz50_3 : w47.cell? ⟨gb206, 3, none⟩ = some (.slice none 0 0) := (bc BK206.out 3).trans rfl; have hfz50_0 := bf BK206.out 0; have hfz50_1 := bf BK206.out 1; have hfz50_2 := bf BK206.out 2; have hfz50_3 := bf BK206.out 3; obtain ⟨Ao51, co51, eo51⟩ := Kd.S_slice HO199.out; subst eo51; obtain ⟨Ao52, co52, eo52⟩ := Kd.R_slice HO202.out; subst eo52; obtain ⟨Ao53, co53, eo53⟩ := Kd.R_slice HO205.out; subst eo53) | ((with_reducible refine gate_callee (f := 10) rfl ?_); refine goesL_ (some 18) rfl rfl Try.func10 (by kernel_rfl) rfl #[.agg #[.slice Ao48 t194.length co48, .slice Ao51 t197.length co51, .slice Ao52 t200.length co52, .slice Ao53 t203.length co53]] rfl (by (try simp only [List.map_toArray, List.map_cons, List.map_nil]); first | done | rfl | (simp only [List.length_drop, List.length_take]; rfl)) ?_; (with_reducible refine (impl_ValidAlgebra.calls _ _ t194 _ _ t197 _ _ t200 _ _ t203 t207 _ ?side1 ?side2 ?side3 ?side4 ?side5 ?side6 ?side7 ?side8 A10.out).mono ?_); (case side1 => refine (Kd.S_reads' (e := 23) (base := w.heap.size) (ok := fun k_ => ((((some k_ ≠ (.slice Ao51 t197.length co51 : Value).ownBlock ∧ some k_ ≠ (.slice Ao52 t200.length co52 : Value).ownBlock) ∧ some k_ ≠ (.slice Ao40 t181.length co40 : Value).ownBlock) ∧ some k_ ≠ (.slice Ao41 t184.length co41 : Value).ownBlock) ∧ some k_ ≠ (.slice Ao42 t187.length co42 : Value).ownBlock)) (n := t194.length) (c := co48) ?_).2.2; exact (by (with_reducible repeat (first | apply Kd.S_alloc | apply Kd.S_drewN | apply Kd.S_drew)); exact (Kd.S_mono (Kd.S_far (p := ⟨gb206, 3, none⟩) (Kd.S_far (p := ⟨gb206, 2, none⟩) (Kd.S_far (p := ⟨gb206, 1, none⟩) (Kd.S_far (p := ⟨gb206, 0, none⟩) (Kd.S_types HO196.out BK206.out (by decide)) (fun _ hk => hk.2) (.slice Ao48 t194.length co48)) (fun _ hk => hk.2) (.slice Ao51 t197.length co51)) (fun _ hk => hk.2) (.slice Ao52 t200.length co52)) (fun _ hk => hk.2) (.slice Ao53 t203.length co53)) (fun _ h_ => h_.1)))); (case side2 => exact (Kd.S_reads' HO196.out).2.1); (case side3 => refine (Kd.S_reads' (e := 23) (base := w.heap.size) (ok := fun k_ => ((((some k_ ≠ (.slice Ao48 t194.length co48 : Value).ownBlock ∧ some k_ ≠ (.slice Ao52 t200.length co52 : Value).ownBlock) ∧ some k_ ≠ (.slice Ao40 t181.length co40 : Value).ownBlock) ∧ some k_ ≠ (.slice Ao41 t184.length co41 : Value).ownBlock) ∧ some k_ ≠ (.slice Ao42 t187.length co42 : Value).ownBlock)) (n := t197.length) (c := co51) ?_).2.2; exact (by (with_reducible repeat (first | apply Kd.S_alloc | apply Kd.S_drewN | apply Kd.S_drew)); exact (Kd.S_mono (Kd.S_far (p := ⟨gb206, 3, none⟩) (Kd.S_far (p := ⟨gb206, 2, none⟩) (Kd.S_far (p := ⟨gb206, 1, none⟩) (Kd.S_far (p := ⟨gb206, 0, none⟩) (Kd.S_types HO199.out BK206.out (by decide)) (fun _ hk => hk.2) (.slice Ao48 t194.length co48)) (fun _ hk => hk.2) (.slice Ao51 t197.length co51)) (fun _ hk => hk.2) (.slice Ao52 t200.length co52)) (fun _ hk => hk.2) (.slice Ao53 t203.length co53)) (fun _ h_ => h_.1)))); (case side4 => exact (Kd.S_reads' HO199.out).2.1); (case side5 => refine (Kd.R_reads' (e := 2) (base := w.heap.size) (ok := fun k_ => (True ∧ some k_ ≠ (.slice Ao42 t187.length co42 : Value).ownBlock)) (n := t200.length) (c := co52) ?_).2.2; exact (by (with_reducible repeat (first | apply Kd.R_alloc | apply Kd.R_drewN | apply Kd.R_drew)); exact (Kd.R_mono (Kd.R_far (p := ⟨gb206, 3, none⟩) (Kd.R_far (p := ⟨gb206, 2, none⟩) (Kd.R_far (p := ⟨gb206, 1, none⟩) (Kd.R_far (p := ⟨gb206, 0, none⟩) (Kd.R_types HO202.out BK206.out (by decide)) (fun _ hk => hk.2) (.slice Ao48 t194.length co48)) (fun _ hk => hk.2) (.slice Ao51 t197.length co51)) (fun _ hk => hk.2) (.slice Ao52 t200.length co52)) (fun _ hk => hk.2) (.slice Ao53 t203.length co53)) (fun _ h_ => h_.1)))); (case side6 => exact (Kd.R_reads' HO202.out).2.1); (case side7 => refine (Kd.R_reads' (e := 4) (base := w.heap.size) (ok := fun k_ => (True ∧ some k_ ≠ (.slice Ao43 t190.length co43 : Value).ownBlock)) (n := t203.length) (c := co53) ?_).2.2; exact (by (with_reducible repeat (first | apply Kd.R_alloc | apply Kd.R_drewN | apply Kd.R_drew)); exact (Kd.R_mono (Kd.R_far (p := ⟨gb206, 3, none⟩) (Kd.R_far (p := ⟨gb206, 2, none⟩) (Kd.R_far (p := ⟨gb206, 1, none⟩) (Kd.R_far (p := ⟨gb206, 0, none⟩) (Kd.R_types HO205.out BK206.out (by decide)) (fun _ hk => hk.2) (.slice Ao48 t194.length co48)) (fun _ hk => hk.2) (.slice Ao51 t197.length co51)) (fun _ hk => hk.2) (.slice Ao52 t200.length co52)) (fun _ hk => hk.2) (.slice Ao53 t203.length co53)) (fun _ h_ => h_.1)))); (case side8 => exact (Kd.R_reads' HO205.out).2.1); rintro e w54 ⟨rfl, hb⟩; refine ⟨_, rfl, ?_⟩; have n0_ := AZ.mk (Kd.S_below (by (with_reducible repeat (first | apply Kd.S_alloc | apply Kd.S_drewN | apply Kd.S_drew)); exact (Kd.S_mono (Kd.S_far (p := ⟨gb206, 3, none⟩) (Kd.S_far (p := ⟨gb206, 2, none⟩) (Kd.S_far (p := ⟨gb206, 1, none⟩) (Kd.S_far (p := ⟨gb206, 0, none⟩) (Kd.S_types HO183.out BK206.out (by decide)) (fun _ hk => hk.2) (.slice Ao48 t194.length co48)) (fun _ hk => hk.2) (.slice Ao51 t197.length co51)) (fun _ hk => hk.2) (.slice Ao52 t200.length co52)) (fun _ hk => hk.2) (.slice Ao53 t203.length co53)) (fun _ h_ => h_.1))) hb); have n1_ := AZ.mk (Kd.S_below (by (with_reducible repeat (first | apply Kd.S_alloc | apply Kd.S_drewN | apply Kd.S_drew)); exact (Kd.S_mono (Kd.S_far (p := ⟨gb206, 3, none⟩) (Kd.S_far (p := ⟨gb206, 2, none⟩) (Kd.S_far (p := ⟨gb206, 1, none⟩) (Kd.S_far (p := ⟨gb206, 0, none⟩) (Kd.S_types HO186.out BK206.out (by decide)) (fun _ hk => hk.2) (.slice Ao48 t194.length co48)) (fun _ hk => hk.2) (.slice Ao51 t197.length co51)) (fun _ hk => hk.2) (.slice Ao52 t200.length co52)) (fun _ hk => hk.2) (.slice Ao53 t203.length co53)) (fun _ h_ => h_.1))) hb); have n2_ := AZ.mk (Kd.R_below (by (with_reducible repeat (first | apply Kd.R_alloc | apply Kd.R_drewN | apply Kd.R_drew)); exact (Kd.R_mono (Kd.R_far (p := ⟨gb206, 3, none⟩) (Kd.R_far (p := ⟨gb206, 2, none⟩) (Kd.R_far (p := ⟨gb206, 1, none⟩) (Kd.R_far (p := ⟨gb206, 0, none⟩) (Kd.R_types HO189.out BK206.out (by decide)) (fun _ hk => hk.2) (.slice Ao48 t194.length co48)) (fun _ hk => hk.2) (.slice Ao51 t197.length co51)) (fun _ hk => hk.2) (.slice Ao52 t200.length co52)) (fun _ hk => hk.2) (.slice Ao53 t203.length co53)) (fun _ h_ => h_.1))) hb); have n3_ := AZ.mk (Kd.R_below (by (with_reducible repeat (first | apply Kd.R_alloc | apply Kd.R_drewN | apply Kd.R_drew)); exact (Kd.R_mono (Kd.R_far (p := ⟨gb206, 3, none⟩) (Kd.R_far (p := ⟨gb206, 2, none⟩) (Kd.R_far (p := ⟨gb206, 1, none⟩) (Kd.R_far (p := ⟨gb206, 0, none⟩) (Kd.R_types HO192.out BK206.out (by decide)) (fun _ hk => hk.2) (.slice Ao48 t194.length co48)) (fun _ hk => hk.2) (.slice Ao51 t197.length co51)) (fun _ hk => hk.2) (.slice Ao52 t200.length co52)) (fun _ hk => hk.2) (.slice Ao53 t203.length co53)) (fun _ h_ => h_.1))) hb); have n4_ := AZ.mk (Kd.S_below (by (with_reducible repeat (first | apply Kd.S_alloc | apply Kd.S_drewN | apply Kd.S_drew)); exact (Kd.S_mono (Kd.S_far (p := ⟨gb206, 3, none⟩) (Kd.S_far (p := ⟨gb206, 2, none⟩) (Kd.S_far (p := ⟨gb206, 1, none⟩) (Kd.S_far (p := ⟨gb206, 0, none⟩) (Kd.S_types HO196.out BK206.out (by decide)) (fun _ hk => hk.2) (.slice Ao48 t194.length co48)) (fun _ hk => hk.2) (.slice Ao51 t197.length co51)) (fun _ hk => hk.2) (.slice Ao52 t200.length co52)) (fun _ hk => hk.2) (.slice Ao53 t203.length co53)) (fun _ h_ => h_.1))) hb); have n5_ := AZ.mk (Kd.S_below (by (with_reducible repeat (first | apply Kd.S_alloc | apply Kd.S_drewN | apply Kd.S_drew)); exact (Kd.S_mono (Kd.S_far (p := ⟨gb206, 3, none⟩) (Kd.S_far (p := ⟨gb206, 2, none⟩) (Kd.S_far (p := ⟨gb206, 1, none⟩) (Kd.S_far (p := ⟨gb206, 0, none⟩) (Kd.S_types HO199.out BK206.out (by decide)) (fun _ hk => hk.2) (.slice Ao48 t194.length co48)) (fun _ hk => hk.2) (.slice Ao51 t197.length co51)) (fun _ hk => hk.2) (.slice Ao52 t200.length co52)) (fun _ hk => hk.2) (.slice Ao53 t203.length co53)) (fun _ h_ => h_.1))) hb); have n6_ := AZ.mk (Kd.R_below (by (with_reducible repeat (first | apply Kd.R_alloc | apply Kd.R_drewN | apply Kd.R_drew)); exact (Kd.R_mono (Kd.R_far (p := ⟨gb206, 3, none⟩) (Kd.R_far (p := ⟨gb206, 2, none⟩) (Kd.R_far (p := ⟨gb206, 1, none⟩) (Kd.R_far (p := ⟨gb206, 0, none⟩) (Kd.R_types HO202.out BK206.out (by decide)) (fun _ hk => hk.2) (.slice Ao48 t194.length co48)) (fun _ hk => hk.2) (.slice Ao51 t197.length co51)) (fun _ hk => hk.2) (.slice Ao52 t200.length co52)) (fun _ hk => hk.2) (.slice Ao53 t203.length co53)) (fun _ h_ => h_.1))) hb); have n7_ := AZ.mk (Kd.R_below (by (with_reducible repeat (first | apply Kd.R_alloc | apply Kd.R_drewN | apply Kd.R_drew)); exact (Kd.R_mono (Kd.R_far (p := ⟨gb206, 3, none⟩) (Kd.R_far (p := ⟨gb206, 2, none⟩) (Kd.R_far (p := ⟨gb206, 1, none⟩) (Kd.R_far (p := ⟨gb206, 0, none⟩) (Kd.R_types HO205.out BK206.out (by decide)) (fun _ hk => hk.2) (.slice Ao48 t194.length co48)) (fun _ hk => hk.2) (.slice Ao51 t197.length co51)) (fun _ hk => hk.2) (.slice Ao52 t200.length co52)) (fun _ hk => hk.2) (.slice Ao53 t203.length co53)) (fun _ h_ => h_.1))) hb); have n8_ := AZ.mk (bb_ (g := gb179) (o := .cells #[.slice A0_0 l0_0.length c0_0, .slice A0_1 l0_1.length c0_1, .slice A0_2 l0_2.length c0_2, .slice A0_3 l0_3.length c0_3] 26 (0, 0)) (by (with_reducible repeat (first | refine bn_ ?_ _ | refine bd_ ?_ | refine ba_ ?_ _)); refine blk_far ?_ NB179_206.out _; (with_reducible repeat (first | refine bn_ ?_ _ | refine bd_ ?_ | refine ba_ ?_ _)); refine blk_far ?_ NB179_206.out _; (with_reducible repeat (first | refine bn_ ?_ _ | refine bd_ ?_ | refine ba_ ?_ _)); refine blk_far ?_ NB179_206.out _; (with_reducible repeat (first | refine bn_ ?_ _ | refine bd_ ?_ | refine ba_ ?_ _)); refine blk_far ?_ NB179_206.out _; (with_reducible repeat (first | refine bn_ ?_ _ | refine bd_ ?_ | refine ba_ ?_ _)); exact BK179.out) hb); have n9_ := AZ.mk (bb_ (g := gb206) (o := .cells #[.slice Ao48 t194.length co48, .slice Ao51 t197.length co51, .slice Ao52 t200.length co52, .slice Ao53 t203.length co53] 29 (0, 0)) (by (with_reducible repeat (first | refine bn_ ?_ _ | refine bd_ ?_ | refine ba_ ?_ _)); refine blk_put (cs := #[.slice Ao48 t194.length co48, .slice Ao51 t197.length co51, .slice Ao52 t200.length co52, .slice none 0 0]) ?_ 3 _ rfl; (with_reducible repeat (first | refine bn_ ?_ _ | refine bd_ ?_ | refine ba_ ?_ _)); refine blk_put (cs := #[.slice Ao48 t194.length co48, .slice Ao51 t197.length co51, .slice none 0 0, .slice none 0 0]) ?_ 2 _ rfl; (with_reducible repeat (first | refine bn_ ?_ _ | refine bd_ ?_ | refine ba_ ?_ _)); refine blk_put (cs := #[.slice Ao48 t194.length co48, .slice none 0 0, .slice none 0 0, .slice none 0 0]) ?_ 1 _ rfl; (with_reducible repeat (first | refine bn_ ?_ _ | refine bd_ ?_ | refine ba_ ?_ _)); refine blk_put (cs := #[.slice none 0 0, .slice none 0 0, .slice none 0 0, .slice none 0 0]) ?_ 0 _ rfl; (with_reducible repeat (first | refine bn_ ?_ _ | refine bd_ ?_ | refine ba_ ?_ _)); exact BK206.out) hb); have n10_ := AZ.mk (pT (by repeat (first | (with_reducible first | exact HB.out | apply pA | apply pN | apply pD | refine pS ?_ GE179.out | refine pS ?_ GE206.out) | exact HB.out)) hb); clear HO183; clear HO186; clear HO189; clear HO192; clear HO196; clear HO199; clear HO202; clear HO205; clear BK179; clear BK206; clear HB; have HO183 := n0_; have HO186 := n1_; have HO189 := n2_; have HO192 := n3_; have HO196 := n4_; have HO199 := n5_; have HO202 := n6_; have HO205 := n7_; have BK179 := n8_; have BK206 := n9_; have HB := n10_; clear n0_ n1_ n2_ n3_ n4_ n5_ n6_ n7_ n8_ n9_ n10_; (try clear hb); (try clear hb2); (try clear hk); (try clear hi)))
  have n0_ := AZ.mk (Kd.S_drew HO183.out)
  have n1_ := AZ.mk (Kd.S_drew HO186.out)
  have n2_ := AZ.mk (Kd.R_drew HO189.out)
  have n3_ := AZ.mk (Kd.R_drew HO192.out)
  have n4_ := AZ.mk (Kd.S_drew HO196.out)
  have n5_ := AZ.mk (Kd.S_drew HO199.out)
  have n6_ := AZ.mk (Kd.R_drew HO202.out)
  have n7_ := AZ.mk (Kd.R_drew HO205.out)
  have n8_ := AZ.mk (bd_ BK179.out)
  have n9_ := AZ.mk (bd_ BK206.out)
  have n10_ := AZ.mk (pD HB.out)
  clear HO183
  clear HO186
  clear HO189
  clear HO192
  clear HO196
  clear HO199
  clear HO202
  clear HO205
  clear BK179
  clear BK206
  clear HB
  have HO183 := n0_
  have HO186 := n1_
  have HO189 := n2_
  have HO192 := n3_
  have HO196 := n4_
  have HO199 := n5_
  have HO202 := n6_
  have HO205 := n7_
  have BK179 := n8_
  have BK206 := n9_
  have HB := n10_
  clear n0_ n1_ n2_ n3_ n4_ n5_ n6_ n7_ n8_ n9_ n10_
  refine start_ (n := 5) (S := fun w' => w'.cell? ⟨gb206, 0, none⟩ = some (.slice Ao48 t194.length co48) ∧ w'.cell? ⟨gb206, 1, none⟩ = some (.slice Ao51 t197.length co51) ∧ w'.cell? ⟨gb206, 2, none⟩ = some (.slice Ao52 t200.length co52) ∧ w'.cell? ⟨gb206, 3, none⟩ = some (.slice Ao53 t203.length co53) ∧ w'.cell? ⟨gb179, 0, none⟩ = some (.slice A0_0 l0_0.length c0_0) ∧ w'.cell? ⟨gb179, 1, none⟩ = some (.slice A0_1 l0_1.length c0_1) ∧ w'.cell? ⟨gb179, 2, none⟩ = some (.slice A0_2 l0_2.length c0_2) ∧ w'.cell? ⟨gb179, 3, none⟩ = some (.slice A0_3 l0_3.length c0_3)) (ds := []) #[false, false, false, false, false] (by kernel_rfl) rfl rfl ⟨(bc BK206.out 0).trans rfl, (bc BK206.out 1).trans rfl, (bc BK206.out 2).trans rfl, (bc BK206.out 3).trans rfl, (bc BK179.out 0).trans rfl, (bc BK179.out 1).trans rfl, (bc BK179.out 2).trans rfl, (bc BK179.out 3).trans rfl⟩ (fun hHeld => ?_)
  generalize w54.drew = w55 at HO183 HO186 HO189 HO192 HO196 HO199 HO202 HO205 BK179 BK206 HB hHeld ⊢
  refine take_ (i := 0) (N := some 22) (v := ?_) (a' := ?_) #[true, false, false, false, false] rfl rfl (by kernel_rfl) (fun _ _ _ h => h) (Or.inl ⟨by rfl, ?_⟩) hHeld ?_ ?_
  rotate_left
  ·rintro w' ⟨s0, s1, s2, s3, s4, s5, s6, s7⟩
   go_simp
   with_reducible rfl
  rotate_left
  ·simp only [Act.put, sA, sB, sC, i64_w, i32_w]
   rfl
  refine take_ (i := 1) (N := some 23) (v := ?_) (a' := ?_) #[true, true, false, false, false] rfl rfl (by kernel_rfl) (fun _ _ _ h => h) (Or.inl ⟨by rfl, ?_⟩) hHeld ?_ ?_
  rotate_left
  ·rintro w' ⟨s0, s1, s2, s3, s4, s5, s6, s7⟩
   go_simp
   with_reducible rfl
  rotate_left
  ·simp only [Act.put, sA, sB, sC, i64_w, i32_w]
   rfl
  refine one_ (i := 2) (N := some 24) #[true, true, true, false, false] rfl rfl (by kernel_rfl) (by decide) (fun K hK => ?_)
  refine goes_ Try.func9 (by kernel_rfl) rfl #[.agg #[.slice A0_0 l0_0.length c0_0, .slice A0_1 l0_1.length c0_1, .slice A0_2 l0_2.length c0_2, .slice A0_3 l0_3.length c0_3]] (by rfl) rfl rfl (by (try simp only [List.map_toArray, List.map_cons, List.map_nil]); first | done | rfl | (simp only [List.length_drop, List.length_take]; rfl)) ?_
  with_reducible refine (laws_toAlgebra.calls k _ _ l0_0 _ _ l0_1 _ _ l0_2 _ _ l0_3 t208 t211 t214 t217 _ ?side1 ?side2 ?side3 ?side4 ?side5 ?side6 ?side7 ?side8 A32.out).mono ?_
  (case side1 => repeat (first | exact (Kd.C_below HR0_0.out HB.out) | (with_reducible refine Kd.C_alloc ?_ _) | (with_reducible refine Kd.C_drewN ?_ _) | (with_reducible refine Kd.C_drew ?_)))
  (case side2 => exact HC0_0.out)
  (case side3 => repeat (first | exact (Kd.C_below HR0_1.out HB.out) | (with_reducible refine Kd.C_alloc ?_ _) | (with_reducible refine Kd.C_drewN ?_ _) | (with_reducible refine Kd.C_drew ?_)))
  (case side4 => exact HC0_1.out)
  (case side5 => repeat (first | exact (Kd.C_below HR0_2.out HB.out) | (with_reducible refine Kd.C_alloc ?_ _) | (with_reducible refine Kd.C_drewN ?_ _) | (with_reducible refine Kd.C_drew ?_)))
  (case side6 => exact HC0_2.out)
  (case side7 => repeat (first | exact (Kd.C_below HR0_3.out HB.out) | (with_reducible refine Kd.C_alloc ?_ _) | (with_reducible refine Kd.C_drewN ?_ _) | (with_reducible refine Kd.C_drew ?_)))
  (case side8 => exact HC0_3.out)
  rintro e w56 ⟨v209, v212, v215, v218, rfl, ho0, ho1, ho2, ho3, hb⟩
  refine ⟨_, rfl, ?_⟩
  have n0_ := AZ.mk (Kd.S_mono (Kd.S_told (Kd.S_told (Kd.S_told (Kd.S_old (by (with_reducible repeat (first | apply Kd.S_alloc | apply Kd.S_drewN | apply Kd.S_drew)); exact HO183.out) hb) (Kd.S_base ho0)) (Kd.S_base ho1)) (Kd.R_base ho2)) (fun _ h_ => h_.1))
  have n1_ := AZ.mk (Kd.S_mono (Kd.S_told (Kd.S_told (Kd.S_told (Kd.S_old (by (with_reducible repeat (first | apply Kd.S_alloc | apply Kd.S_drewN | apply Kd.S_drew)); exact HO186.out) hb) (Kd.S_base ho0)) (Kd.S_base ho1)) (Kd.R_base ho2)) (fun _ h_ => h_.1))
  have n2_ := AZ.mk (Kd.R_elder' (by (with_reducible repeat (first | apply Kd.R_alloc | apply Kd.R_drewN | apply Kd.R_drew)); exact HO189.out) (Kd.R_base ho2) hb)
  have n3_ := AZ.mk (Kd.R_elder' (by (with_reducible repeat (first | apply Kd.R_alloc | apply Kd.R_drewN | apply Kd.R_drew)); exact HO192.out) (Kd.R_base ho3) hb)
  have n4_ := AZ.mk (Kd.S_mono (Kd.S_told (Kd.S_told (Kd.S_told (Kd.S_old (by (with_reducible repeat (first | apply Kd.S_alloc | apply Kd.S_drewN | apply Kd.S_drew)); exact HO196.out) hb) (Kd.S_base ho0)) (Kd.S_base ho1)) (Kd.R_base ho2)) (fun _ h_ => h_.1))
  have n5_ := AZ.mk (Kd.S_mono (Kd.S_told (Kd.S_told (Kd.S_told (Kd.S_old (by (with_reducible repeat (first | apply Kd.S_alloc | apply Kd.S_drewN | apply Kd.S_drew)); exact HO199.out) hb) (Kd.S_base ho0)) (Kd.S_base ho1)) (Kd.R_base ho2)) (fun _ h_ => h_.1))
  have n6_ := AZ.mk (Kd.R_elder' (by (with_reducible repeat (first | apply Kd.R_alloc | apply Kd.R_drewN | apply Kd.R_drew)); exact HO202.out) (Kd.R_base ho2) hb)
  have n7_ := AZ.mk (Kd.R_elder' (by (with_reducible repeat (first | apply Kd.R_alloc | apply Kd.R_drewN | apply Kd.R_drew)); exact HO205.out) (Kd.R_base ho3) hb)
  have n8_ := AZ.mk (Kd.S_lower (Kd.S_new' (Kd.S_new' (Kd.S_new' (Kd.S_new' (Kd.S_new' (Kd.S_new' ho0 (Kd.S_lt (by (with_reducible repeat (first | apply Kd.S_alloc | apply Kd.S_drewN | apply Kd.S_drew)); exact HO183.out))) (Kd.S_lt (by (with_reducible repeat (first | apply Kd.S_alloc | apply Kd.S_drewN | apply Kd.S_drew)); exact HO186.out))) (Kd.R_lt (by (with_reducible repeat (first | apply Kd.R_alloc | apply Kd.R_drewN | apply Kd.R_drew)); exact HO189.out))) (Kd.S_lt (by (with_reducible repeat (first | apply Kd.S_alloc | apply Kd.S_drewN | apply Kd.S_drew)); exact HO196.out))) (Kd.S_lt (by (with_reducible repeat (first | apply Kd.S_alloc | apply Kd.S_drewN | apply Kd.S_drew)); exact HO199.out))) (Kd.R_lt (by (with_reducible repeat (first | apply Kd.R_alloc | apply Kd.R_drewN | apply Kd.R_drew)); exact HO202.out))) (pZ (by repeat (first | (with_reducible first | exact HB.out | apply pA | apply pN | apply pD | refine pS ?_ GE179.out | refine pS ?_ GE206.out) | exact HB.out))))
  have n9_ := AZ.mk (Kd.S_lower (Kd.S_new' (Kd.S_new' (Kd.S_new' (Kd.S_new' (Kd.S_new' (Kd.S_new' ho1 (Kd.S_lt (by (with_reducible repeat (first | apply Kd.S_alloc | apply Kd.S_drewN | apply Kd.S_drew)); exact HO183.out))) (Kd.S_lt (by (with_reducible repeat (first | apply Kd.S_alloc | apply Kd.S_drewN | apply Kd.S_drew)); exact HO186.out))) (Kd.R_lt (by (with_reducible repeat (first | apply Kd.R_alloc | apply Kd.R_drewN | apply Kd.R_drew)); exact HO189.out))) (Kd.S_lt (by (with_reducible repeat (first | apply Kd.S_alloc | apply Kd.S_drewN | apply Kd.S_drew)); exact HO196.out))) (Kd.S_lt (by (with_reducible repeat (first | apply Kd.S_alloc | apply Kd.S_drewN | apply Kd.S_drew)); exact HO199.out))) (Kd.R_lt (by (with_reducible repeat (first | apply Kd.R_alloc | apply Kd.R_drewN | apply Kd.R_drew)); exact HO202.out))) (pZ (by repeat (first | (with_reducible first | exact HB.out | apply pA | apply pN | apply pD | refine pS ?_ GE179.out | refine pS ?_ GE206.out) | exact HB.out))))
  have n10_ := AZ.mk (Kd.R_lower (Kd.R_new' (Kd.R_new' ho2 (Kd.R_lt (by (with_reducible repeat (first | apply Kd.R_alloc | apply Kd.R_drewN | apply Kd.R_drew)); exact HO189.out))) (Kd.R_lt (by (with_reducible repeat (first | apply Kd.R_alloc | apply Kd.R_drewN | apply Kd.R_drew)); exact HO202.out))) (pZ (by repeat (first | (with_reducible first | exact HB.out | apply pA | apply pN | apply pD | refine pS ?_ GE179.out | refine pS ?_ GE206.out) | exact HB.out))))
  have n11_ := AZ.mk (Kd.R_lower (Kd.R_new' (Kd.R_new' ho3 (Kd.R_lt (by (with_reducible repeat (first | apply Kd.R_alloc | apply Kd.R_drewN | apply Kd.R_drew)); exact HO192.out))) (Kd.R_lt (by (with_reducible repeat (first | apply Kd.R_alloc | apply Kd.R_drewN | apply Kd.R_drew)); exact HO205.out))) (pZ (by repeat (first | (with_reducible first | exact HB.out | apply pA | apply pN | apply pD | refine pS ?_ GE179.out | refine pS ?_ GE206.out) | exact HB.out))))
  have n12_ := AZ.mk (bb_ (g := gb179) (o := .cells #[.slice A0_0 l0_0.length c0_0, .slice A0_1 l0_1.length c0_1, .slice A0_2 l0_2.length c0_2, .slice A0_3 l0_3.length c0_3] 26 (0, 0)) (by (with_reducible repeat (first | refine bn_ ?_ _ | refine bd_ ?_ | refine ba_ ?_ _)); exact BK179.out) hb)
  have n13_ := AZ.mk (bb_ (g := gb206) (o := .cells #[.slice Ao48 t194.length co48, .slice Ao51 t197.length co51, .slice Ao52 t200.length co52, .slice Ao53 t203.length co53] 29 (0, 0)) (by (with_reducible repeat (first | refine bn_ ?_ _ | refine bd_ ?_ | refine ba_ ?_ _)); exact BK206.out) hb)
  have n14_ := AZ.mk (pT (by repeat (first | (with_reducible first | exact HB.out | apply pA | apply pN | apply pD | refine pS ?_ GE179.out | refine pS ?_ GE206.out) | exact HB.out)) hb)
  clear HO183
  clear HO186
  clear HO189
  clear HO192
  clear HO196
  clear HO199
  clear HO202
  clear HO205
  clear BK179
  clear BK206
  clear HB
  have HO183 := n0_
  have HO186 := n1_
  have HO189 := n2_
  have HO192 := n3_
  have HO196 := n4_
  have HO199 := n5_
  have HO202 := n6_
  have HO205 := n7_
  have HO210 := n8_
  have HO213 := n9_
  have HO216 := n10_
  have HO219 := n11_
  have BK179 := n12_
  have BK206 := n13_
  have HB := n14_
  clear n0_ n1_ n2_ n3_ n4_ n5_ n6_ n7_ n8_ n9_ n10_ n11_ n12_ n13_ n14_
  (try clear hb)
  (try clear hb2)
  (try clear hk)
  (try clear hi)
  (try clear ho0)
  (try clear ho1)
  (try clear ho2)
  (try clear ho3)
  obtain ⟨Ao57, co57, eo57⟩ := Kd.S_slice HO210.out
  (first | subst eo57 | (injection eo57 with f1_ f2_ f3_; have f4_ := f1_.symm; have f5_ := f3_.symm; clear f1_ f2_ f3_; subst f4_; subst f5_))
  obtain ⟨Ao58, co58, eo58⟩ := Kd.S_slice HO213.out
  (first | subst eo58 | (injection eo58 with f1_ f2_ f3_; have f4_ := f1_.symm; have f5_ := f3_.symm; clear f1_ f2_ f3_; subst f4_; subst f5_))
  obtain ⟨Ao59, co59, eo59⟩ := Kd.R_slice HO216.out
  (first | subst eo59 | (injection eo59 with f1_ f2_ f3_; have f4_ := f1_.symm; have f5_ := f3_.symm; clear f1_ f2_ f3_; subst f4_; subst f5_))
  obtain ⟨Ao60, co60, eo60⟩ := Kd.R_slice HO219.out
  (first | subst eo60 | (injection eo60 with f1_ f2_ f3_; have f4_ := f1_.symm; have f5_ := f3_.symm; clear f1_ f2_ f3_; subst f4_; subst f5_))
  refine hK.out _ _ ⟨(bc BK206.out 0).trans rfl, (bc BK206.out 1).trans rfl, (bc BK206.out 2).trans rfl, (bc BK206.out 3).trans rfl, (bc BK179.out 0).trans rfl, (bc BK179.out 1).trans rfl, (bc BK179.out 2).trans rfl, (bc BK179.out 3).trans rfl⟩ (fun hHeld => ?_)
  clear hK K
  refine norm_ (a' := ?_) ?_ ?_
  rotate_left
  ·show Act.put _ (some 24) _ = _
   simp only [Act.put, sA, sB, sC, i64_w, i32_w]
   rfl
  refine one_ (i := 3) (N := some 25) #[true, true, true, true, false] rfl rfl (by kernel_rfl) (by decide) (fun K hK => ?_)
  refine goes_ Try.func11 (by kernel_rfl) rfl #[.agg #[.slice Ao48 t194.length co48, .slice Ao51 t197.length co51, .slice Ao52 t200.length co52, .slice Ao53 t203.length co53], .agg #[.slice Ao57 t208.length co57, .slice Ao58 t211.length co58, .slice Ao59 t214.length co59, .slice Ao60 t217.length co60]] (by rfl) rfl rfl (by (try simp only [List.map_toArray, List.map_cons, List.map_nil]); first | done | rfl | (simp only [List.length_drop, List.length_take]; rfl)) ?_
  with_reducible refine (laws_eqAlgebra.calls k _ _ t194 _ _ t197 _ _ t200 _ _ t203 _ _ t208 _ _ t211 _ _ t214 _ _ t217 true _ ?side1 ?side2 ?side3 ?side4 ?side5 ?side6 ?side7 ?side8 ?side9 ?side10 ?side11 ?side12 ?side13 ?side14 ?side15 ?side16 A33.out).mono ?_
  (case side1 => repeat (first | exact (Kd.S_reads' HO196.out).2.2 | (with_reducible refine Kd.C_alloc ?_ _) | (with_reducible refine Kd.C_drewN ?_ _) | (with_reducible refine Kd.C_drew ?_)))
  (case side2 => exact (Kd.S_reads' HO196.out).2.1)
  (case side3 => repeat (first | exact (Kd.S_reads' HO199.out).2.2 | (with_reducible refine Kd.C_alloc ?_ _) | (with_reducible refine Kd.C_drewN ?_ _) | (with_reducible refine Kd.C_drew ?_)))
  (case side4 => exact (Kd.S_reads' HO199.out).2.1)
  (case side5 => repeat (first | exact (Kd.R_reads' HO202.out).2.2 | (with_reducible refine Kd.C_alloc ?_ _) | (with_reducible refine Kd.C_drewN ?_ _) | (with_reducible refine Kd.C_drew ?_)))
  (case side6 => exact (Kd.R_reads' HO202.out).2.1)
  (case side7 => repeat (first | exact (Kd.R_reads' HO205.out).2.2 | (with_reducible refine Kd.C_alloc ?_ _) | (with_reducible refine Kd.C_drewN ?_ _) | (with_reducible refine Kd.C_drew ?_)))
  (case side8 => exact (Kd.R_reads' HO205.out).2.1)
  (case side9 => repeat (first | exact (Kd.S_reads' HO210.out).2.2 | (with_reducible refine Kd.C_alloc ?_ _) | (with_reducible refine Kd.C_drewN ?_ _) | (with_reducible refine Kd.C_drew ?_)))
  (case side10 => exact (Kd.S_reads' HO210.out).2.1)
  (case side11 => repeat (first | exact (Kd.S_reads' HO213.out).2.2 | (with_reducible refine Kd.C_alloc ?_ _) | (with_reducible refine Kd.C_drewN ?_ _) | (with_reducible refine Kd.C_drew ?_)))
  (case side12 => exact (Kd.S_reads' HO213.out).2.1)
  (case side13 => repeat (first | exact (Kd.R_reads' HO216.out).2.2 | (with_reducible refine Kd.C_alloc ?_ _) | (with_reducible refine Kd.C_drewN ?_ _) | (with_reducible refine Kd.C_drew ?_)))
  (case side14 => exact (Kd.R_reads' HO216.out).2.1)
  (case side15 => repeat (first | exact (Kd.R_reads' HO219.out).2.2 | (with_reducible refine Kd.C_alloc ?_ _) | (with_reducible refine Kd.C_drewN ?_ _) | (with_reducible refine Kd.C_drew ?_)))
  (case side16 => exact (Kd.R_reads' HO219.out).2.1)
  rintro e w61 ⟨rfl, hb⟩
  refine ⟨_, rfl, ?_⟩
  have n0_ := AZ.mk (Kd.S_below (by (with_reducible repeat (first | apply Kd.S_alloc | apply Kd.S_drewN | apply Kd.S_drew)); exact HO183.out) hb)
  have n1_ := AZ.mk (Kd.S_below (by (with_reducible repeat (first | apply Kd.S_alloc | apply Kd.S_drewN | apply Kd.S_drew)); exact HO186.out) hb)
  have n2_ := AZ.mk (Kd.R_below (by (with_reducible repeat (first | apply Kd.R_alloc | apply Kd.R_drewN | apply Kd.R_drew)); exact HO189.out) hb)
  have n3_ := AZ.mk (Kd.R_below (by (with_reducible repeat (first | apply Kd.R_alloc | apply Kd.R_drewN | apply Kd.R_drew)); exact HO192.out) hb)
  have n4_ := AZ.mk (Kd.S_below (by (with_reducible repeat (first | apply Kd.S_alloc | apply Kd.S_drewN | apply Kd.S_drew)); exact HO196.out) hb)
  have n5_ := AZ.mk (Kd.S_below (by (with_reducible repeat (first | apply Kd.S_alloc | apply Kd.S_drewN | apply Kd.S_drew)); exact HO199.out) hb)
  have n6_ := AZ.mk (Kd.R_below (by (with_reducible repeat (first | apply Kd.R_alloc | apply Kd.R_drewN | apply Kd.R_drew)); exact HO202.out) hb)
  have n7_ := AZ.mk (Kd.R_below (by (with_reducible repeat (first | apply Kd.R_alloc | apply Kd.R_drewN | apply Kd.R_drew)); exact HO205.out) hb)
  have n8_ := AZ.mk (Kd.S_below (by (with_reducible repeat (first | apply Kd.S_alloc | apply Kd.S_drewN | apply Kd.S_drew)); exact HO210.out) hb)
  have n9_ := AZ.mk (Kd.S_below (by (with_reducible repeat (first | apply Kd.S_alloc | apply Kd.S_drewN | apply Kd.S_drew)); exact HO213.out) hb)
  have n10_ := AZ.mk (Kd.R_below (by (with_reducible repeat (first | apply Kd.R_alloc | apply Kd.R_drewN | apply Kd.R_drew)); exact HO216.out) hb)
  have n11_ := AZ.mk (Kd.R_below (by (with_reducible repeat (first | apply Kd.R_alloc | apply Kd.R_drewN | apply Kd.R_drew)); exact HO219.out) hb)
  have n12_ := AZ.mk (bb_ (g := gb179) (o := .cells #[.slice A0_0 l0_0.length c0_0, .slice A0_1 l0_1.length c0_1, .slice A0_2 l0_2.length c0_2, .slice A0_3 l0_3.length c0_3] 26 (0, 0)) (by (with_reducible repeat (first | refine bn_ ?_ _ | refine bd_ ?_ | refine ba_ ?_ _)); exact BK179.out) hb)
  have n13_ := AZ.mk (bb_ (g := gb206) (o := .cells #[.slice Ao48 t194.length co48, .slice Ao51 t197.length co51, .slice Ao52 t200.length co52, .slice Ao53 t203.length co53] 29 (0, 0)) (by (with_reducible repeat (first | refine bn_ ?_ _ | refine bd_ ?_ | refine ba_ ?_ _)); exact BK206.out) hb)
  have n14_ := AZ.mk (pT (by repeat (first | (with_reducible first | exact HB.out | apply pA | apply pN | apply pD | refine pS ?_ GE179.out | refine pS ?_ GE206.out) | exact HB.out)) hb)
  clear HO183
  clear HO186
  clear HO189
  clear HO192
  clear HO196
  clear HO199
  clear HO202
  clear HO205
  clear HO210
  clear HO213
  clear HO216
  clear HO219
  clear BK179
  clear BK206
  clear HB
  have HO183 := n0_
  have HO186 := n1_
  have HO189 := n2_
  have HO192 := n3_
  have HO196 := n4_
  have HO199 := n5_
  have HO202 := n6_
  have HO205 := n7_
  have HO210 := n8_
  have HO213 := n9_
  have HO216 := n10_
  have HO219 := n11_
  have BK179 := n12_
  have BK206 := n13_
  have HB := n14_
  clear n0_ n1_ n2_ n3_ n4_ n5_ n6_ n7_ n8_ n9_ n10_ n11_ n12_ n13_ n14_
  (try clear hb)
  (try clear hb2)
  (try clear hk)
  (try clear hi)
  refine hK.out _ _ ⟨(bc BK206.out 0).trans rfl, (bc BK206.out 1).trans rfl, (bc BK206.out 2).trans rfl, (bc BK206.out 3).trans rfl, (bc BK179.out 0).trans rfl, (bc BK179.out 1).trans rfl, (bc BK179.out 2).trans rfl, (bc BK179.out 3).trans rfl⟩ (fun hHeld => ?_)
  clear hK K
  refine norm_ (a' := ?_) ?_ ?_
  rotate_left
  ·show Act.put _ (some 25) _ = _
   simp only [Act.put, sA, sB, sC, i64_w, i32_w]
   rfl
  refine pure_ (i := 4) (N := some 26) (v := ?_) (a' := ?_) #[true, true, true, true, true] rfl rfl (by kernel_rfl) (fun _ _ _ h => h) (Or.inl ⟨by rfl, ?_⟩) ?_ ?_
  rotate_left
  ·intro w'
   go_simp
   with_reducible rfl
  rotate_left
  ·simp only [Act.put, sA, sB, sC, i64_w, i32_w]
   rfl
  refine done_ (by kernel_rfl) ?_
  try go_wp2
  go_ret
  exact ⟨by first | rfl | (simp [errW_none, errW_some] <;> rfl) | (simp [*, errW_none, errW_some] <;> rfl), by repeat (first | (with_reducible first | exact HB.out | apply pA | apply pN | apply pD | refine pS ?_ GE179.out | refine pS ?_ GE206.out) | exact HB.out)⟩
 replace c34 := Bool.eq_false_iff.mpr c34
 subst c34
 have H1 : (some false) = some r := by rw [if_neg (show ¬ (false = true) by decide)] at H; exact H
 clear H
 have H := H1
 clear H1
 obtain rfl := Option.some.inj H
 go_enter Try.func3, Try.ntmps3
 try go_wp2_with (first | ((with_reducible refine gate_dst (N := 1) rfl ?_); refine box_event ?hg (N := 1) ?hd (cs := #[.slice A0_0 l0_0.length c0_0, .slice A0_1 l0_1.length c0_1, .slice A0_2 l0_2.length c0_2, .slice A0_3 l0_3.length c0_3]) (t := 26) ?hr ?_; (case hd => rfl); (case hg => rfl); (case hr => first | (go_simp; done) | (go_simp; rfl)); intro gb179 hg w62 hbox hb; have n0_ := AZ.mk (pT (by repeat (first | (with_reducible first | exact HB.out | apply pA | apply pN | apply pD) | exact HB.out)) hb); have n1_ := AZ.mk (hbox); have n2_ := AZ.mk ((by rw [hg]; exact (pZ (by repeat (first | (with_reducible first | exact HB.out | apply pA | apply pN | apply pD) | exact HB.out))) : w.heap.size ≤ gb179)); have n3_ := AZ.mk ((by rw [hg]; exact (pZ (by repeat (first | (with_reducible first | exact HB.out | apply pA | apply pN | apply pD) | exact HB.out))) : w.heap.size ≤ gb179)); clear HB; have HB := n0_; have BK179 := n1_; have GW179 := n2_; have GE179 := n3_; clear n0_ n1_ n2_ n3_; clear hb hbox hg; have hcz63_0 : w62.cell? ⟨gb179, 0, none⟩ = some (.slice A0_0 l0_0.length c0_0) := (bc BK179.out 0).trans rfl; have hcz63_1 : w62.cell? ⟨gb179, 1, none⟩ = some (.slice A0_1 l0_1.length c0_1) := (bc BK179.out 1).trans rfl; have hcz63_2 : w62.cell? ⟨gb179, 2, none⟩ = some (.slice A0_2 l0_2.length c0_2) := (bc BK179.out 2).trans rfl; have hcz63_3 : w62.cell? ⟨gb179, 3, none⟩ = some (.slice A0_3 l0_3.length c0_3) := (bc BK179.out 3).trans rfl; have hfz63_0 := bf BK179.out 0; have hfz63_1 := bf BK179.out 1; have hfz63_2 := bf BK179.out 2; have hfz63_3 := bf BK179.out 3) | ((with_reducible refine gate_callee (f := 7) rfl ?_); refine goesL_ (some 9) rfl rfl Try.func7 (by kernel_rfl) rfl #[.agg #[.slice A0_0 l0_0.length c0_0, .slice A0_1 l0_1.length c0_1, .slice A0_2 l0_2.length c0_2, .slice A0_3 l0_3.length c0_3], .int .i64 1048576] rfl (by (try simp only [List.map_toArray, List.map_cons, List.map_nil]); first | done | rfl | (simp only [List.length_drop, List.length_take]; rfl)) ?_; (with_reducible refine (laws_szAlgebra.calls k _ _ l0_0 _ _ l0_1 _ _ l0_2 _ _ l0_3 1048576 t180 _ ?side1 ?side2 ?side3 ?side4 ?side5 ?side6 ?side7 ?side8 A2.out).mono ?_); (case side1 => repeat (first | exact (Kd.C_below HR0_0.out HB.out) | (with_reducible refine Kd.C_alloc ?_ _) | (with_reducible refine Kd.C_drewN ?_ _) | (with_reducible refine Kd.C_drew ?_))); (case side2 => exact HC0_0.out); (case side3 => repeat (first | exact (Kd.C_below HR0_1.out HB.out) | (with_reducible refine Kd.C_alloc ?_ _) | (with_reducible refine Kd.C_drewN ?_ _) | (with_reducible refine Kd.C_drew ?_))); (case side4 => exact HC0_1.out); (case side5 => repeat (first | exact (Kd.C_below HR0_2.out HB.out) | (with_reducible refine Kd.C_alloc ?_ _) | (with_reducible refine Kd.C_drewN ?_ _) | (with_reducible refine Kd.C_drew ?_))); (case side6 => exact HC0_2.out); (case side7 => repeat (first | exact (Kd.C_below HR0_3.out HB.out) | (with_reducible refine Kd.C_alloc ?_ _) | (with_reducible refine Kd.C_drewN ?_ _) | (with_reducible refine Kd.C_drew ?_))); (case side8 => exact HC0_3.out); rintro e w64 ⟨rfl, hb⟩; refine ⟨_, rfl, ?_⟩; have n0_ := AZ.mk (bb_ (g := gb179) (o := .cells #[.slice A0_0 l0_0.length c0_0, .slice A0_1 l0_1.length c0_1, .slice A0_2 l0_2.length c0_2, .slice A0_3 l0_3.length c0_3] 26 (0, 0)) (by (with_reducible repeat (first | refine bn_ ?_ _ | refine bd_ ?_ | refine ba_ ?_ _)); exact BK179.out) hb); have n1_ := AZ.mk (pT (by repeat (first | (with_reducible first | exact HB.out | apply pA | apply pN | apply pD | refine pS ?_ GE179.out) | exact HB.out)) hb); clear BK179; clear HB; have BK179 := n0_; have HB := n1_; clear n0_ n1_; (try clear hb); (try clear hb2); (try clear hk); (try clear hi); have hcz65_0 : w64.cell? ⟨gb179, 0, none⟩ = some (.slice A0_0 l0_0.length c0_0) := (bc BK179.out 0).trans rfl; have hcz65_1 : w64.cell? ⟨gb179, 1, none⟩ = some (.slice A0_1 l0_1.length c0_1) := (bc BK179.out 1).trans rfl; have hcz65_2 : w64.cell? ⟨gb179, 2, none⟩ = some (.slice A0_2 l0_2.length c0_2) := (bc BK179.out 2).trans rfl; have hcz65_3 : w64.cell? ⟨gb179, 3, none⟩ = some (.slice A0_3 l0_3.length c0_3) := (bc BK179.out 3).trans rfl; have hfz65_0 := bf BK179.out 0; have hfz65_1 := bf BK179.out 1; have hfz65_2 := bf BK179.out 2; have hfz65_3 := bf BK179.out 3) | ((with_reducible refine gate_callee (f := 9) rfl ?_); refine goesL_ (some 13) rfl rfl Try.func9 (by kernel_rfl) rfl #[.agg #[.slice A0_0 l0_0.length c0_0, .slice A0_1 l0_1.length c0_1, .slice A0_2 l0_2.length c0_2, .slice A0_3 l0_3.length c0_3]] rfl (by (try simp only [List.map_toArray, List.map_cons, List.map_nil]); first | done | rfl | (simp only [List.length_drop, List.length_take]; rfl)) ?_; (with_reducible refine (laws_toAlgebra.calls k _ _ l0_0 _ _ l0_1 _ _ l0_2 _ _ l0_3 t181 t184 t187 t190 _ ?side1 ?side2 ?side3 ?side4 ?side5 ?side6 ?side7 ?side8 A7.out).mono ?_); (case side1 => repeat (first | exact (Kd.C_below HR0_0.out HB.out) | (with_reducible refine Kd.C_alloc ?_ _) | (with_reducible refine Kd.C_drewN ?_ _) | (with_reducible refine Kd.C_drew ?_))); (case side2 => exact HC0_0.out); (case side3 => repeat (first | exact (Kd.C_below HR0_1.out HB.out) | (with_reducible refine Kd.C_alloc ?_ _) | (with_reducible refine Kd.C_drewN ?_ _) | (with_reducible refine Kd.C_drew ?_))); (case side4 => exact HC0_1.out); (case side5 => repeat (first | exact (Kd.C_below HR0_2.out HB.out) | (with_reducible refine Kd.C_alloc ?_ _) | (with_reducible refine Kd.C_drewN ?_ _) | (with_reducible refine Kd.C_drew ?_))); (case side6 => exact HC0_2.out); (case side7 => repeat (first | exact (Kd.C_below HR0_3.out HB.out) | (with_reducible refine Kd.C_alloc ?_ _) | (with_reducible refine Kd.C_drewN ?_ _) | (with_reducible refine Kd.C_drew ?_))); (case side8 => exact HC0_3.out); rintro e w66 ⟨v182, v185, v188, v191, rfl, ho0, ho1, ho2, ho3, hb⟩; refine ⟨_, rfl, ?_⟩; have n0_ := AZ.mk (Kd.S_lower ho0 (pZ (by repeat (first | (with_reducible first | exact HB.out | apply pA | apply pN | apply pD | refine pS ?_ GE179.out) | exact HB.out)))); have n1_ := AZ.mk (Kd.S_lower ho1 (pZ (by repeat (first | (with_reducible first | exact HB.out | apply pA | apply pN | apply pD | refine pS ?_ GE179.out) | exact HB.out)))); have n2_ := AZ.mk (Kd.R_lower ho2 (pZ (by repeat (first | (with_reducible first | exact HB.out | apply pA | apply pN | apply pD | refine pS ?_ GE179.out) | exact HB.out)))); have n3_ := AZ.mk (Kd.R_lower ho3 (pZ (by repeat (first | (with_reducible first | exact HB.out | apply pA | apply pN | apply pD | refine pS ?_ GE179.out) | exact HB.out)))); have n4_ := AZ.mk (bb_ (g := gb179) (o := .cells #[.slice A0_0 l0_0.length c0_0, .slice A0_1 l0_1.length c0_1, .slice A0_2 l0_2.length c0_2, .slice A0_3 l0_3.length c0_3] 26 (0, 0)) (by (with_reducible repeat (first | refine bn_ ?_ _ | refine bd_ ?_ | refine ba_ ?_ _)); exact BK179.out) hb); have n5_ := AZ.mk (pT (by repeat (first | (with_reducible first | exact HB.out | apply pA | apply pN | apply pD | refine pS ?_ GE179.out) | exact HB.out)) hb); clear BK179; clear HB; have HO183 := n0_; have HO186 := n1_; have HO189 := n2_; have HO192 := n3_; have BK179 := n4_; have HB := n5_; clear n0_ n1_ n2_ n3_ n4_ n5_; (try clear hb); (try clear hb2); (try clear hk); (try clear hi); (try clear ho0); (try clear ho1); (try clear ho2); (try clear ho3); obtain ⟨Ao67, co67, eo67⟩ := Kd.S_slice HO183.out; subst eo67; obtain ⟨Ao68, co68, eo68⟩ := Kd.S_slice HO186.out; subst eo68; obtain ⟨Ao69, co69, eo69⟩ := Kd.R_slice HO189.out; subst eo69; obtain ⟨Ao70, co70, eo70⟩ := Kd.R_slice HO192.out; subst eo70) | ((with_reducible refine gate_callee (f := 8) rfl ?_); refine goesL_ (some 14) rfl rfl Try.func8 (by kernel_rfl) rfl #[.agg #[.slice Ao67 t181.length co67, .slice Ao68 t184.length co68, .slice Ao69 t187.length co69, .slice Ao70 t190.length co70]] rfl (by (try simp only [List.map_toArray, List.map_cons, List.map_nil]); first | done | rfl | (simp only [List.length_drop, List.length_take]; rfl)) ?_; (with_reducible refine (spec_ValidAlgebra.calls k _ _ t181 _ _ t184 _ _ t187 _ _ t190 t193 _ ?side1 ?side2 ?side3 ?side4 ?side5 ?side6 ?side7 ?side8 A8.out).mono ?_); (case side1 => repeat (first | exact (Kd.S_reads' HO183.out).2.2 | (with_reducible refine Kd.C_alloc ?_ _) | (with_reducible refine Kd.C_drewN ?_ _) | (with_reducible refine Kd.C_drew ?_))); (case side2 => exact (Kd.S_reads' HO183.out).2.1); (case side3 => repeat (first | exact (Kd.S_reads' HO186.out).2.2 | (with_reducible refine Kd.C_alloc ?_ _) | (with_reducible refine Kd.C_drewN ?_ _) | (with_reducible refine Kd.C_drew ?_))); (case side4 => exact (Kd.S_reads' HO186.out).2.1); (case side5 => repeat (first | exact (Kd.R_reads' HO189.out).2.2 | (with_reducible refine Kd.C_alloc ?_ _) | (with_reducible refine Kd.C_drewN ?_ _) | (with_reducible refine Kd.C_drew ?_))); (case side6 => exact (Kd.R_reads' HO189.out).2.1); (case side7 => repeat (first | exact (Kd.R_reads' HO192.out).2.2 | (with_reducible refine Kd.C_alloc ?_ _) | (with_reducible refine Kd.C_drewN ?_ _) | (with_reducible refine Kd.C_drew ?_))); (case side8 => exact (Kd.R_reads' HO192.out).2.1); rintro e w71 ⟨rfl, hb⟩; refine ⟨_, rfl, ?_⟩; have n0_ := AZ.mk (Kd.S_below (by (with_reducible repeat (first | apply Kd.S_alloc | apply Kd.S_drewN | apply Kd.S_drew)); exact HO183.out) hb); have n1_ := AZ.mk (Kd.S_below (by (with_reducible repeat (first | apply Kd.S_alloc | apply Kd.S_drewN | apply Kd.S_drew)); exact HO186.out) hb); have n2_ := AZ.mk (Kd.R_below (by (with_reducible repeat (first | apply Kd.R_alloc | apply Kd.R_drewN | apply Kd.R_drew)); exact HO189.out) hb); have n3_ := AZ.mk (Kd.R_below (by (with_reducible repeat (first | apply Kd.R_alloc | apply Kd.R_drewN | apply Kd.R_drew)); exact HO192.out) hb); have n4_ := AZ.mk (bb_ (g := gb179) (o := .cells #[.slice A0_0 l0_0.length c0_0, .slice A0_1 l0_1.length c0_1, .slice A0_2 l0_2.length c0_2, .slice A0_3 l0_3.length c0_3] 26 (0, 0)) (by (with_reducible repeat (first | refine bn_ ?_ _ | refine bd_ ?_ | refine ba_ ?_ _)); exact BK179.out) hb); have n5_ := AZ.mk (pT (by repeat (first | (with_reducible first | exact HB.out | apply pA | apply pN | apply pD | refine pS ?_ GE179.out) | exact HB.out)) hb); clear HO183; clear HO186; clear HO189; clear HO192; clear BK179; clear HB; have HO183 := n0_; have HO186 := n1_; have HO189 := n2_; have HO192 := n3_; have BK179 := n4_; have HB := n5_; clear n0_ n1_ n2_ n3_ n4_ n5_; (try clear hb); (try clear hb2); (try clear hk); (try clear hi); have hcz72_0 : w71.cell? ⟨gb179, 0, none⟩ = some (.slice A0_0 l0_0.length c0_0) := (bc BK179.out 0).trans rfl; have hcz72_1 : w71.cell? ⟨gb179, 1, none⟩ = some (.slice A0_1 l0_1.length c0_1) := (bc BK179.out 1).trans rfl; have hcz72_2 : w71.cell? ⟨gb179, 2, none⟩ = some (.slice A0_2 l0_2.length c0_2) := (bc BK179.out 2).trans rfl; have hcz72_3 : w71.cell? ⟨gb179, 3, none⟩ = some (.slice A0_3 l0_3.length c0_3) := (bc BK179.out 3).trans rfl; have hfz72_0 := bf BK179.out 0; have hfz72_1 := bf BK179.out 1; have hfz72_2 := bf BK179.out 2; have hfz72_3 := bf BK179.out 3) | ((with_reducible refine gate_callee (f := 9) rfl ?_); refine goesL_ (some 16) rfl rfl Try.func9 (by kernel_rfl) rfl #[.agg #[.slice A0_0 l0_0.length c0_0, .slice A0_1 l0_1.length c0_1, .slice A0_2 l0_2.length c0_2, .slice A0_3 l0_3.length c0_3]] rfl (by (try simp only [List.map_toArray, List.map_cons, List.map_nil]); first | done | rfl | (simp only [List.length_drop, List.length_take]; rfl)) ?_; (with_reducible refine (laws_toAlgebra.calls k _ _ l0_0 _ _ l0_1 _ _ l0_2 _ _ l0_3 t194 t197 t200 t203 _ ?side1 ?side2 ?side3 ?side4 ?side5 ?side6 ?side7 ?side8 A9.out).mono ?_); (case side1 => repeat (first | exact (Kd.C_below HR0_0.out HB.out) | (with_reducible refine Kd.C_alloc ?_ _) | (with_reducible refine Kd.C_drewN ?_ _) | (with_reducible refine Kd.C_drew ?_))); (case side2 => exact HC0_0.out); (case side3 => repeat (first | exact (Kd.C_below HR0_1.out HB.out) | (with_reducible refine Kd.C_alloc ?_ _) | (with_reducible refine Kd.C_drewN ?_ _) | (with_reducible refine Kd.C_drew ?_))); (case side4 => exact HC0_1.out); (case side5 => repeat (first | exact (Kd.C_below HR0_2.out HB.out) | (with_reducible refine Kd.C_alloc ?_ _) | (with_reducible refine Kd.C_drewN ?_ _) | (with_reducible refine Kd.C_drew ?_))); (case side6 => exact HC0_2.out); (case side7 => repeat (first | exact (Kd.C_below HR0_3.out HB.out) | (with_reducible refine Kd.C_alloc ?_ _) | (with_reducible refine Kd.C_drewN ?_ _) | (with_reducible refine Kd.C_drew ?_))); (case side8 => exact HC0_3.out); rintro e w73 ⟨v195, v198, v201, v204, rfl, ho0, ho1, ho2, ho3, hb⟩; refine ⟨_, rfl, ?_⟩; have n0_ := AZ.mk (Kd.S_mono (Kd.S_told (Kd.S_told (Kd.S_told (Kd.S_old (by (with_reducible repeat (first | apply Kd.S_alloc | apply Kd.S_drewN | apply Kd.S_drew)); exact HO183.out) hb) (Kd.S_base ho0)) (Kd.S_base ho1)) (Kd.R_base ho2)) (fun _ h_ => h_.1)); have n1_ := AZ.mk (Kd.S_mono (Kd.S_told (Kd.S_told (Kd.S_told (Kd.S_old (by (with_reducible repeat (first | apply Kd.S_alloc | apply Kd.S_drewN | apply Kd.S_drew)); exact HO186.out) hb) (Kd.S_base ho0)) (Kd.S_base ho1)) (Kd.R_base ho2)) (fun _ h_ => h_.1)); have n2_ := AZ.mk (Kd.R_elder' (by (with_reducible repeat (first | apply Kd.R_alloc | apply Kd.R_drewN | apply Kd.R_drew)); exact HO189.out) (Kd.R_base ho2) hb); have n3_ := AZ.mk (Kd.R_elder' (by (with_reducible repeat (first | apply Kd.R_alloc | apply Kd.R_drewN | apply Kd.R_drew)); exact HO192.out) (Kd.R_base ho3) hb); have n4_ := AZ.mk (Kd.S_lower (Kd.S_new' (Kd.S_new' (Kd.S_new' ho0 (Kd.S_lt (by (with_reducible repeat (first | apply Kd.S_alloc | apply Kd.S_drewN | apply Kd.S_drew)); exact HO183.out))) (Kd.S_lt (by (with_reducible repeat (first | apply Kd.S_alloc | apply Kd.S_drewN | apply Kd.S_drew)); exact HO186.out))) (Kd.R_lt (by (with_reducible repeat (first | apply Kd.R_alloc | apply Kd.R_drewN | apply Kd.R_drew)); exact HO189.out))) (pZ (by repeat (first | (with_reducible first | exact HB.out | apply pA | apply pN | apply pD | refine pS ?_ GE179.out) | exact HB.out)))); have n5_ := AZ.mk (Kd.S_lower (Kd.S_new' (Kd.S_new' (Kd.S_new' ho1 (Kd.S_lt (by (with_reducible repeat (first | apply Kd.S_alloc | apply Kd.S_drewN | apply Kd.S_drew)); exact HO183.out))) (Kd.S_lt (by (with_reducible repeat (first | apply Kd.S_alloc | apply Kd.S_drewN | apply Kd.S_drew)); exact HO186.out))) (Kd.R_lt (by (with_reducible repeat (first | apply Kd.R_alloc | apply Kd.R_drewN | apply Kd.R_drew)); exact HO189.out))) (pZ (by repeat (first | (with_reducible first | exact HB.out | apply pA | apply pN | apply pD | refine pS ?_ GE179.out) | exact HB.out)))); have n6_ := AZ.mk (Kd.R_lower (Kd.R_new' ho2 (Kd.R_lt (by (with_reducible repeat (first | apply Kd.R_alloc | apply Kd.R_drewN | apply Kd.R_drew)); exact HO189.out))) (pZ (by repeat (first | (with_reducible first | exact HB.out | apply pA | apply pN | apply pD | refine pS ?_ GE179.out) | exact HB.out)))); have n7_ := AZ.mk (Kd.R_lower (Kd.R_new' ho3 (Kd.R_lt (by (with_reducible repeat (first | apply Kd.R_alloc | apply Kd.R_drewN | apply Kd.R_drew)); exact HO192.out))) (pZ (by repeat (first | (with_reducible first | exact HB.out | apply pA | apply pN | apply pD | refine pS ?_ GE179.out) | exact HB.out)))); have n8_ := AZ.mk (bb_ (g := gb179) (o := .cells #[.slice A0_0 l0_0.length c0_0, .slice A0_1 l0_1.length c0_1, .slice A0_2 l0_2.length c0_2, .slice A0_3 l0_3.length c0_3] 26 (0, 0)) (by (with_reducible repeat (first | refine bn_ ?_ _ | refine bd_ ?_ | refine ba_ ?_ _)); exact BK179.out) hb); have n9_ := AZ.mk (pT (by repeat (first | (with_reducible first | exact HB.out | apply pA | apply pN | apply pD | refine pS ?_ GE179.out) | exact HB.out)) hb); clear HO183; clear HO186; clear HO189; clear HO192; clear BK179; clear HB; have HO183 := n0_; have HO186 := n1_; have HO189 := n2_; have HO192 := n3_; have HO196 := n4_; have HO199 := n5_; have HO202 := n6_; have HO205 := n7_; have BK179 := n8_; have HB := n9_; clear n0_ n1_ n2_ n3_ n4_ n5_ n6_ n7_ n8_ n9_; (try clear hb); (try clear hb2); (try clear hk); (try clear hi); (try clear ho0); (try clear ho1); (try clear ho2); (try clear ho3)) | ((with_reducible refine gate_dst (N := 5) rfl ?_); refine box_event ?hg (N := 5) ?hd (cs := #[.slice none 0 0, .slice none 0 0, .slice none 0 0, .slice none 0 0]) (t := 29) ?hr ?_; (case hd => rfl); (case hg => rfl); (case hr => first | (go_simp; done) | (go_simp; rfl)); intro gb206 hg w74 hbox hb; have n0_ := AZ.mk (Kd.S_below (by (with_reducible repeat (first | apply Kd.S_alloc | apply Kd.S_drewN | apply Kd.S_drew)); exact HO183.out) hb); have n1_ := AZ.mk (Kd.S_below (by (with_reducible repeat (first | apply Kd.S_alloc | apply Kd.S_drewN | apply Kd.S_drew)); exact HO186.out) hb); have n2_ := AZ.mk (Kd.R_below (by (with_reducible repeat (first | apply Kd.R_alloc | apply Kd.R_drewN | apply Kd.R_drew)); exact HO189.out) hb); have n3_ := AZ.mk (Kd.R_below (by (with_reducible repeat (first | apply Kd.R_alloc | apply Kd.R_drewN | apply Kd.R_drew)); exact HO192.out) hb); have n4_ := AZ.mk (Kd.S_below (by (with_reducible repeat (first | apply Kd.S_alloc | apply Kd.S_drewN | apply Kd.S_drew)); exact HO196.out) hb); have n5_ := AZ.mk (Kd.S_below (by (with_reducible repeat (first | apply Kd.S_alloc | apply Kd.S_drewN | apply Kd.S_drew)); exact HO199.out) hb); have n6_ := AZ.mk (Kd.R_below (by (with_reducible repeat (first | apply Kd.R_alloc | apply Kd.R_drewN | apply Kd.R_drew)); exact HO202.out) hb); have n7_ := AZ.mk (Kd.R_below (by (with_reducible repeat (first | apply Kd.R_alloc | apply Kd.R_drewN | apply Kd.R_drew)); exact HO205.out) hb); have n8_ := AZ.mk (bb_ (g := gb179) (o := .cells #[.slice A0_0 l0_0.length c0_0, .slice A0_1 l0_1.length c0_1, .slice A0_2 l0_2.length c0_2, .slice A0_3 l0_3.length c0_3] 26 (0, 0)) (by (with_reducible repeat (first | refine bn_ ?_ _ | refine bd_ ?_ | refine ba_ ?_ _)); exact BK179.out) hb); have n9_ := AZ.mk (pT (by repeat (first | (with_reducible first | exact HB.out | apply pA | apply pN | apply pD | refine pS ?_ GE179.out) | exact HB.out)) hb); have n10_ := AZ.mk (hbox); have n11_ := AZ.mk ((by rw [hg]; exact (pZ (by repeat (first | (with_reducible first | exact HB.out | apply pA | apply pN | apply pD | refine pS ?_ GE179.out) | exact HB.out))) : w.heap.size ≤ gb206)); have n12_ := AZ.mk ((by rw [hg]; exact (pZ (by repeat (first | (with_reducible first | exact HB.out | apply pA | apply pN | apply pD | refine pS ?_ GE179.out) | exact HB.out))) : w.heap.size ≤ gb206)); have n13_ := AZ.mk ((by rw [hg]; exact Nat.ne_of_lt (blk_lt (g := gb179) (o := .cells #[.slice A0_0 l0_0.length c0_0, .slice A0_1 l0_1.length c0_1, .slice A0_2 l0_2.length c0_2, .slice A0_3 l0_3.length c0_3] 26 (0, 0)) (by (with_reducible repeat (first | refine bn_ ?_ _ | refine bd_ ?_ | refine ba_ ?_ _)); exact BK179.out)) : gb179 ≠ gb206)); have n14_ := AZ.mk ((by rw [hg]; exact Nat.ne_of_gt (blk_lt (g := gb179) (o := .cells #[.slice A0_0 l0_0.length c0_0, .slice A0_1 l0_1.length c0_1, .slice A0_2 l0_2.length c0_2, .slice A0_3 l0_3.length c0_3] 26 (0, 0)) (by (with_reducible repeat (first | refine bn_ ?_ _ | refine bd_ ?_ | refine ba_ ?_ _)); exact BK179.out)) : gb206 ≠ gb179)); clear HO183; clear HO186; clear HO189; clear HO192; clear HO196; clear HO199; clear HO202; clear HO205; clear BK179; clear HB; have HO183 := n0_; have HO186 := n1_; have HO189 := n2_; have HO192 := n3_; have HO196 := n4_; have HO199 := n5_; have HO202 := n6_; have HO205 := n7_; have BK179 := n8_; have HB := n9_; have BK206 := n10_; have GW206 := n11_; have GE206 := n12_; have NB179_206 := n13_; have NB206_179 := n14_; clear n0_ n1_ n2_ n3_ n4_ n5_ n6_ n7_ n8_ n9_ n10_ n11_ n12_ n13_ n14_; clear hb hbox hg; obtain ⟨Ao75, co75, eo75⟩ := Kd.S_slice HO196.out; subst eo75; have hnb76 := NB206_179.out; have hnc76 := NB179_206.out; have hcz77_0 : w74.cell? ⟨gb206, 0, none⟩ = some (.slice none 0 0) := (bc BK206.out 0).trans rfl; have hcz77_1 : w74.cell? ⟨gb206, 1, none⟩ = some (.slice none 0 0) := (bc BK206.out 1).trans rfl; have hcz77_2 : w74.cell? ⟨gb206, 2, none⟩ = some (.slice none 0 0) := (bc BK206.out 2).trans rfl; have hcz77_3 : w74.cell? ⟨gb206, 3, none⟩ = some (.slice none 0 0) := (bc BK206.out 3).trans rfl; have hfz77_0 := bf BK206.out 0; have hfz77_1 := bf BK206.out 1; have hfz77_2 := bf BK206.out 2; have hfz77_3 := bf BK206.out 3; obtain ⟨Ao78, co78, eo78⟩ := Kd.S_slice HO199.out; subst eo78; obtain ⟨Ao79, co79, eo79⟩ := Kd.R_slice HO202.out; subst eo79; obtain ⟨Ao80, co80, eo80⟩ := Kd.R_slice HO205.out; subst eo80) | ((with_reducible refine gate_callee (f := 10) rfl ?_); refine goesL_ (some 18) rfl rfl Try.func10 (by kernel_rfl) rfl #[.agg #[.slice Ao75 t194.length co75, .slice Ao78 t197.length co78, .slice Ao79 t200.length co79, .slice Ao80 t203.length co80]] rfl (by (try simp only [List.map_toArray, List.map_cons, List.map_nil]); first | done | rfl | (simp only [List.length_drop, List.length_take]; rfl)) ?_; (with_reducible refine (impl_ValidAlgebra.calls _ _ t194 _ _ t197 _ _ t200 _ _ t203 t207 _ ?side1 ?side2 ?side3 ?side4 ?side5 ?side6 ?side7 ?side8 A10.out).mono ?_); (case side1 => refine (Kd.S_reads' (e := 23) (base := w.heap.size) (ok := fun k_ => ((((some k_ ≠ (.slice Ao78 t197.length co78 : Value).ownBlock ∧ some k_ ≠ (.slice Ao79 t200.length co79 : Value).ownBlock) ∧ some k_ ≠ (.slice Ao67 t181.length co67 : Value).ownBlock) ∧ some k_ ≠ (.slice Ao68 t184.length co68 : Value).ownBlock) ∧ some k_ ≠ (.slice Ao69 t187.length co69 : Value).ownBlock)) (n := t194.length) (c := co75) ?_).2.2; exact (by (with_reducible repeat (first | apply Kd.S_alloc | apply Kd.S_drewN | apply Kd.S_drew)); exact (Kd.S_mono (Kd.S_far (p := ⟨gb206, 3, none⟩) (Kd.S_far (p := ⟨gb206, 2, none⟩) (Kd.S_far (p := ⟨gb206, 1, none⟩) (Kd.S_far (p := ⟨gb206, 0, none⟩) (Kd.S_types HO196.out BK206.out (by decide)) (fun _ hk => hk.2) (.slice Ao75 t194.length co75)) (fun _ hk => hk.2) (.slice Ao78 t197.length co78)) (fun _ hk => hk.2) (.slice Ao79 t200.length co79)) (fun _ hk => hk.2) (.slice Ao80 t203.length co80)) (fun _ h_ => h_.1)))); (case side2 => exact (Kd.S_reads' HO196.out).2.1); (case side3 => refine (Kd.S_reads' (e := 23) (base := w.heap.size) (ok := fun k_ => ((((some k_ ≠ (.slice Ao75 t194.length co75 : Value).ownBlock ∧ some k_ ≠ (.slice Ao79 t200.length co79 : Value).ownBlock) ∧ some k_ ≠ (.slice Ao67 t181.length co67 : Value).ownBlock) ∧ some k_ ≠ (.slice Ao68 t184.length co68 : Value).ownBlock) ∧ some k_ ≠ (.slice Ao69 t187.length co69 : Value).ownBlock)) (n := t197.length) (c := co78) ?_).2.2; exact (by (with_reducible repeat (first | apply Kd.S_alloc | apply Kd.S_drewN | apply Kd.S_drew)); exact (Kd.S_mono (Kd.S_far (p := ⟨gb206, 3, none⟩) (Kd.S_far (p := ⟨gb206, 2, none⟩) (Kd.S_far (p := ⟨gb206, 1, none⟩) (Kd.S_far (p := ⟨gb206, 0, none⟩) (Kd.S_types HO199.out BK206.out (by decide)) (fun _ hk => hk.2) (.slice Ao75 t194.length co75)) (fun _ hk => hk.2) (.slice Ao78 t197.length co78)) (fun _ hk => hk.2) (.slice Ao79 t200.length co79)) (fun _ hk => hk.2) (.slice Ao80 t203.length co80)) (fun _ h_ => h_.1)))); (case side4 => exact (Kd.S_reads' HO199.out).2.1); (case side5 => refine (Kd.R_reads' (e := 2) (base := w.heap.size) (ok := fun k_ => (True ∧ some k_ ≠ (.slice Ao69 t187.length co69 : Value).ownBlock)) (n := t200.length) (c := co79) ?_).2.2; exact (by (with_reducible repeat (first | apply Kd.R_alloc | apply Kd.R_drewN | apply Kd.R_drew)); exact (Kd.R_mono (Kd.R_far (p := ⟨gb206, 3, none⟩) (Kd.R_far (p := ⟨gb206, 2, none⟩) (Kd.R_far (p := ⟨gb206, 1, none⟩) (Kd.R_far (p := ⟨gb206, 0, none⟩) (Kd.R_types HO202.out BK206.out (by decide)) (fun _ hk => hk.2) (.slice Ao75 t194.length co75)) (fun _ hk => hk.2) (.slice Ao78 t197.length co78)) (fun _ hk => hk.2) (.slice Ao79 t200.length co79)) (fun _ hk => hk.2) (.slice Ao80 t203.length co80)) (fun _ h_ => h_.1)))); (case side6 => exact (Kd.R_reads' HO202.out).2.1); (case side7 => refine (Kd.R_reads' (e := 4) (base := w.heap.size) (ok := fun k_ => (True ∧ some k_ ≠ (.slice Ao70 t190.length co70 : Value).ownBlock)) (n := t203.length) (c := co80) ?_).2.2; exact (by (with_reducible repeat (first | apply Kd.R_alloc | apply Kd.R_drewN | apply Kd.R_drew)); exact (Kd.R_mono (Kd.R_far (p := ⟨gb206, 3, none⟩) (Kd.R_far (p := ⟨gb206, 2, none⟩) (Kd.R_far (p := ⟨gb206, 1, none⟩) (Kd.R_far (p := ⟨gb206, 0, none⟩) (Kd.R_types HO205.out BK206.out (by decide)) (fun _ hk => hk.2) (.slice Ao75 t194.length co75)) (fun _ hk => hk.2) (.slice Ao78 t197.length co78)) (fun _ hk => hk.2) (.slice Ao79 t200.length co79)) (fun _ hk => hk.2) (.slice Ao80 t203.length co80)) (fun _ h_ => h_.1)))); (case side8 => exact (Kd.R_reads' HO205.out).2.1); rintro e w81 ⟨rfl, hb⟩; refine ⟨_, rfl, ?_⟩; have n0_ := AZ.mk (Kd.S_below (by (with_reducible repeat (first | apply Kd.S_alloc | apply Kd.S_drewN | apply Kd.S_drew)); exact (Kd.S_mono (Kd.S_far (p := ⟨gb206, 3, none⟩) (Kd.S_far (p := ⟨gb206, 2, none⟩) (Kd.S_far (p := ⟨gb206, 1, none⟩) (Kd.S_far (p := ⟨gb206, 0, none⟩) (Kd.S_types HO183.out BK206.out (by decide)) (fun _ hk => hk.2) (.slice Ao75 t194.length co75)) (fun _ hk => hk.2) (.slice Ao78 t197.length co78)) (fun _ hk => hk.2) (.slice Ao79 t200.length co79)) (fun _ hk => hk.2) (.slice Ao80 t203.length co80)) (fun _ h_ => h_.1))) hb); have n1_ := AZ.mk (Kd.S_below (by (with_reducible repeat (first | apply Kd.S_alloc | apply Kd.S_drewN | apply Kd.S_drew)); exact (Kd.S_mono (Kd.S_far (p := ⟨gb206, 3, none⟩) (Kd.S_far (p := ⟨gb206, 2, none⟩) (Kd.S_far (p := ⟨gb206, 1, none⟩) (Kd.S_far (p := ⟨gb206, 0, none⟩) (Kd.S_types HO186.out BK206.out (by decide)) (fun _ hk => hk.2) (.slice Ao75 t194.length co75)) (fun _ hk => hk.2) (.slice Ao78 t197.length co78)) (fun _ hk => hk.2) (.slice Ao79 t200.length co79)) (fun _ hk => hk.2) (.slice Ao80 t203.length co80)) (fun _ h_ => h_.1))) hb); have n2_ := AZ.mk (Kd.R_below (by (with_reducible repeat (first | apply Kd.R_alloc | apply Kd.R_drewN | apply Kd.R_drew)); exact (Kd.R_mono (Kd.R_far (p := ⟨gb206, 3, none⟩) (Kd.R_far (p := ⟨gb206, 2, none⟩) (Kd.R_far (p := ⟨gb206, 1, none⟩) (Kd.R_far (p := ⟨gb206, 0, none⟩) (Kd.R_types HO189.out BK206.out (by decide)) (fun _ hk => hk.2) (.slice Ao75 t194.length co75)) (fun _ hk => hk.2) (.slice Ao78 t197.length co78)) (fun _ hk => hk.2) (.slice Ao79 t200.length co79)) (fun _ hk => hk.2) (.slice Ao80 t203.length co80)) (fun _ h_ => h_.1))) hb); have n3_ := AZ.mk (Kd.R_below (by (with_reducible repeat (first | apply Kd.R_alloc | apply Kd.R_drewN | apply Kd.R_drew)); exact (Kd.R_mono (Kd.R_far (p := ⟨gb206, 3, none⟩) (Kd.R_far (p := ⟨gb206, 2, none⟩) (Kd.R_far (p := ⟨gb206, 1, none⟩) (Kd.R_far (p := ⟨gb206, 0, none⟩) (Kd.R_types HO192.out BK206.out (by decide)) (fun _ hk => hk.2) (.slice Ao75 t194.length co75)) (fun _ hk => hk.2) (.slice Ao78 t197.length co78)) (fun _ hk => hk.2) (.slice Ao79 t200.length co79)) (fun _ hk => hk.2) (.slice Ao80 t203.length co80)) (fun _ h_ => h_.1))) hb); have n4_ := AZ.mk (Kd.S_below (by (with_reducible repeat (first | apply Kd.S_alloc | apply Kd.S_drewN | apply Kd.S_drew)); exact (Kd.S_mono (Kd.S_far (p := ⟨gb206, 3, none⟩) (Kd.S_far (p := ⟨gb206, 2, none⟩) (Kd.S_far (p := ⟨gb206, 1, none⟩) (Kd.S_far (p := ⟨gb206, 0, none⟩) (Kd.S_types HO196.out BK206.out (by decide)) (fun _ hk => hk.2) (.slice Ao75 t194.length co75)) (fun _ hk => hk.2) (.slice Ao78 t197.length co78)) (fun _ hk => hk.2) (.slice Ao79 t200.length co79)) (fun _ hk => hk.2) (.slice Ao80 t203.length co80)) (fun _ h_ => h_.1))) hb); have n5_ := AZ.mk (Kd.S_below (by (with_reducible repeat (first | apply Kd.S_alloc | apply Kd.S_drewN | apply Kd.S_drew)); exact (Kd.S_mono (Kd.S_far (p := ⟨gb206, 3, none⟩) (Kd.S_far (p := ⟨gb206, 2, none⟩) (Kd.S_far (p := ⟨gb206, 1, none⟩) (Kd.S_far (p := ⟨gb206, 0, none⟩) (Kd.S_types HO199.out BK206.out (by decide)) (fun _ hk => hk.2) (.slice Ao75 t194.length co75)) (fun _ hk => hk.2) (.slice Ao78 t197.length co78)) (fun _ hk => hk.2) (.slice Ao79 t200.length co79)) (fun _ hk => hk.2) (.slice Ao80 t203.length co80)) (fun _ h_ => h_.1))) hb); have n6_ := AZ.mk (Kd.R_below (by (with_reducible repeat (first | apply Kd.R_alloc | apply Kd.R_drewN | apply Kd.R_drew)); exact (Kd.R_mono (Kd.R_far (p := ⟨gb206, 3, none⟩) (Kd.R_far (p := ⟨gb206, 2, none⟩) (Kd.R_far (p := ⟨gb206, 1, none⟩) (Kd.R_far (p := ⟨gb206, 0, none⟩) (Kd.R_types HO202.out BK206.out (by decide)) (fun _ hk => hk.2) (.slice Ao75 t194.length co75)) (fun _ hk => hk.2) (.slice Ao78 t197.length co78)) (fun _ hk => hk.2) (.slice Ao79 t200.length co79)) (fun _ hk => hk.2) (.slice Ao80 t203.length co80)) (fun _ h_ => h_.1))) hb); have n7_ := AZ.mk (Kd.R_below (by (with_reducible repeat (first | apply Kd.R_alloc | apply Kd.R_drewN | apply Kd.R_drew)); exact (Kd.R_mono (Kd.R_far (p := ⟨gb206, 3, none⟩) (Kd.R_far (p := ⟨gb206, 2, none⟩) (Kd.R_far (p := ⟨gb206, 1, none⟩) (Kd.R_far (p := ⟨gb206, 0, none⟩) (Kd.R_types HO205.out BK206.out (by decide)) (fun _ hk => hk.2) (.slice Ao75 t194.length co75)) (fun _ hk => hk.2) (.slice Ao78 t197.length co78)) (fun _ hk => hk.2) (.slice Ao79 t200.length co79)) (fun _ hk => hk.2) (.slice Ao80 t203.length co80)) (fun _ h_ => h_.1))) hb); have n8_ := AZ.mk (bb_ (g := gb179) (o := .cells #[.slice A0_0 l0_0.length c0_0, .slice A0_1 l0_1.length c0_1, .slice A0_2 l0_2.length c0_2, .slice A0_3 l0_3.length c0_3] 26 (0, 0)) (by (with_reducible repeat (first | refine bn_ ?_ _ | refine bd_ ?_ | refine ba_ ?_ _)); refine blk_far ?_ NB179_206.out _; (with_reducible repeat (first | refine bn_ ?_ _ | refine bd_ ?_ | refine ba_ ?_ _)); refine blk_far ?_ NB179_206.out _; (with_reducible repeat (first | refine bn_ ?_ _ | refine bd_ ?_ | refine ba_ ?_ _)); refine blk_far ?_ NB179_206.out _; (with_reducible repeat (first | refine bn_ ?_ _ | refine bd_ ?_ | refine ba_ ?_ _)); refine blk_far ?_ NB179_206.out _; (with_reducible repeat (first | refine bn_ ?_ _ | refine bd_ ?_ | refine ba_ ?_ _)); exact BK179.out) hb); have n9_ := AZ.mk (bb_ (g := gb206) (o := .cells #[.slice Ao75 t194.length co75, .slice Ao78 t197.length co78, .slice Ao79 t200.length co79, .slice Ao80 t203.length co80] 29 (0, 0)) (by (with_reducible repeat (first | refine bn_ ?_ _ | refine bd_ ?_ | refine ba_ ?_ _)); refine blk_put (cs := #[.slice Ao75 t194.length co75, .slice Ao78 t197.length co78, .slice Ao79 t200.length co79, .slice none 0 0]) ?_ 3 _ rfl; (with_reducible repeat (first | refine bn_ ?_ _ | refine bd_ ?_ | refine ba_ ?_ _)); refine blk_put (cs := #[.slice Ao75 t194.length co75, .slice Ao78 t197.length co78, .slice none 0 0, .slice none 0 0]) ?_ 2 _ rfl; (with_reducible repeat (first | refine bn_ ?_ _ | refine bd_ ?_ | refine ba_ ?_ _)); refine blk_put (cs := #[.slice Ao75 t194.length co75, .slice none 0 0, .slice none 0 0, .slice none 0 0]) ?_ 1 _ rfl; (with_reducible repeat (first | refine bn_ ?_ _ | refine bd_ ?_ | refine ba_ ?_ _)); refine blk_put (cs := #[.slice none 0 0, .slice none 0 0, .slice none 0 0, .slice none 0 0]) ?_ 0 _ rfl; (with_reducible repeat (first | refine bn_ ?_ _ | refine bd_ ?_ | refine ba_ ?_ _)); exact BK206.out) hb); have n10_ := AZ.mk (pT (by repeat (first | (with_reducible first | exact HB.out | apply pA | apply pN | apply pD | refine pS ?_ GE179.out | refine pS ?_ GE206.out) | exact HB.out)) hb); clear HO183; clear HO186; clear HO189; clear HO192; clear HO196; clear HO199; clear HO202; clear HO205; clear BK179; clear BK206; clear HB; have HO183 := n0_; have HO186 := n1_; have HO189 := n2_; have HO192 := n3_; have HO196 := n4_; have HO199 := n5_; have HO202 := n6_; have HO205 := n7_; have BK179 := n8_; have BK206 := n9_; have HB := n10_; clear n0_ n1_ n2_ n3_ n4_ n5_ n6_ n7_ n8_ n9_ n10_; (try clear hb); (try clear hb2); (try clear hk); (try clear hi)))
 have n0_ := AZ.mk (Kd.S_drew HO183.out)
 have n1_ := AZ.mk (Kd.S_drew HO186.out)
 have n2_ := AZ.mk (Kd.R_drew HO189.out)
 have n3_ := AZ.mk (Kd.R_drew HO192.out)
 have n4_ := AZ.mk (Kd.S_drew HO196.out)
 have n5_ := AZ.mk (Kd.S_drew HO199.out)
 have n6_ := AZ.mk (Kd.R_drew HO202.out)
 have n7_ := AZ.mk (Kd.R_drew HO205.out)
 have n8_ := AZ.mk (bd_ BK179.out)
 have n9_ := AZ.mk (bd_ BK206.out)
 have n10_ := AZ.mk (pD HB.out)
 clear HO183
 clear HO186
 clear HO189
 clear HO192
 clear HO196
 clear HO199
 clear HO202
 clear HO205
 clear BK179
 clear BK206
 clear HB
 have HO183 := n0_
 have HO186 := n1_
 have HO189 := n2_
 have HO192 := n3_
 have HO196 := n4_
 have HO199 := n5_
 have HO202 := n6_
 have HO205 := n7_
 have BK179 := n8_
 have BK206 := n9_
 have HB := n10_
 clear n0_ n1_ n2_ n3_ n4_ n5_ n6_ n7_ n8_ n9_ n10_
 refine start_ (n := 5) (S := fun w' => w'.cell? ⟨gb206, 0, none⟩ = some (.slice Ao75 t194.length co75) ∧ w'.cell? ⟨gb206, 1, none⟩ = some (.slice Ao78 t197.length co78) ∧ w'.cell? ⟨gb206, 2, none⟩ = some (.slice Ao79 t200.length co79) ∧ w'.cell? ⟨gb206, 3, none⟩ = some (.slice Ao80 t203.length co80) ∧ w'.cell? ⟨gb179, 0, none⟩ = some (.slice A0_0 l0_0.length c0_0) ∧ w'.cell? ⟨gb179, 1, none⟩ = some (.slice A0_1 l0_1.length c0_1) ∧ w'.cell? ⟨gb179, 2, none⟩ = some (.slice A0_2 l0_2.length c0_2) ∧ w'.cell? ⟨gb179, 3, none⟩ = some (.slice A0_3 l0_3.length c0_3)) (ds := []) #[false, false, false, false, false] (by kernel_rfl) rfl rfl ⟨(bc BK206.out 0).trans rfl, (bc BK206.out 1).trans rfl, (bc BK206.out 2).trans rfl, (bc BK206.out 3).trans rfl, (bc BK179.out 0).trans rfl, (bc BK179.out 1).trans rfl, (bc BK179.out 2).trans rfl, (bc BK179.out 3).trans rfl⟩ (fun hHeld => ?_)
 generalize w81.drew = w82 at HO183 HO186 HO189 HO192 HO196 HO199 HO202 HO205 BK179 BK206 HB hHeld ⊢
 refine take_ (i := 0) (N := some 22) (v := ?_) (a' := ?_) #[true, false, false, false, false] rfl rfl (by kernel_rfl) (fun _ _ _ h => h) (Or.inl ⟨by rfl, ?_⟩) hHeld ?_ ?_
 rotate_left
 ·rintro w' ⟨s0, s1, s2, s3, s4, s5, s6, s7⟩
  go_simp
  with_reducible rfl
 rotate_left
 ·simp only [Act.put, sA, sB, sC, i64_w, i32_w]
  rfl
 refine take_ (i := 1) (N := some 23) (v := ?_) (a' := ?_) #[true, true, false, false, false] rfl rfl (by kernel_rfl) (fun _ _ _ h => h) (Or.inl ⟨by rfl, ?_⟩) hHeld ?_ ?_
 rotate_left
 ·rintro w' ⟨s0, s1, s2, s3, s4, s5, s6, s7⟩
  go_simp
  with_reducible rfl
 rotate_left
 ·simp only [Act.put, sA, sB, sC, i64_w, i32_w]
  rfl
 refine one_ (i := 2) (N := some 24) #[true, true, true, false, false] rfl rfl (by kernel_rfl) (by decide) (fun K hK => ?_)
 refine goes_ Try.func9 (by kernel_rfl) rfl #[.agg #[.slice A0_0 l0_0.length c0_0, .slice A0_1 l0_1.length c0_1, .slice A0_2 l0_2.length c0_2, .slice A0_3 l0_3.length c0_3]] (by rfl) rfl rfl (by (try simp only [List.map_toArray, List.map_cons, List.map_nil]); first | done | rfl | (simp only [List.length_drop, List.length_take]; rfl)) ?_
 with_reducible refine (laws_toAlgebra.calls k _ _ l0_0 _ _ l0_1 _ _ l0_2 _ _ l0_3 t208 t211 t214 t217 _ ?side1 ?side2 ?side3 ?side4 ?side5 ?side6 ?side7 ?side8 A32.out).mono ?_
 (case side1 => repeat (first | exact (Kd.C_below HR0_0.out HB.out) | (with_reducible refine Kd.C_alloc ?_ _) | (with_reducible refine Kd.C_drewN ?_ _) | (with_reducible refine Kd.C_drew ?_)))
 (case side2 => exact HC0_0.out)
 (case side3 => repeat (first | exact (Kd.C_below HR0_1.out HB.out) | (with_reducible refine Kd.C_alloc ?_ _) | (with_reducible refine Kd.C_drewN ?_ _) | (with_reducible refine Kd.C_drew ?_)))
 (case side4 => exact HC0_1.out)
 (case side5 => repeat (first | exact (Kd.C_below HR0_2.out HB.out) | (with_reducible refine Kd.C_alloc ?_ _) | (with_reducible refine Kd.C_drewN ?_ _) | (with_reducible refine Kd.C_drew ?_)))
 (case side6 => exact HC0_2.out)
 (case side7 => repeat (first | exact (Kd.C_below HR0_3.out HB.out) | (with_reducible refine Kd.C_alloc ?_ _) | (with_reducible refine Kd.C_drewN ?_ _) | (with_reducible refine Kd.C_drew ?_)))
 (case side8 => exact HC0_3.out)
 rintro e w83 ⟨v209, v212, v215, v218, rfl, ho0, ho1, ho2, ho3, hb⟩
 refine ⟨_, rfl, ?_⟩
 have n0_ := AZ.mk (Kd.S_mono (Kd.S_told (Kd.S_told (Kd.S_told (Kd.S_old (by (with_reducible repeat (first | apply Kd.S_alloc | apply Kd.S_drewN | apply Kd.S_drew)); exact HO183.out) hb) (Kd.S_base ho0)) (Kd.S_base ho1)) (Kd.R_base ho2)) (fun _ h_ => h_.1))
 have n1_ := AZ.mk (Kd.S_mono (Kd.S_told (Kd.S_told (Kd.S_told (Kd.S_old (by (with_reducible repeat (first | apply Kd.S_alloc | apply Kd.S_drewN | apply Kd.S_drew)); exact HO186.out) hb) (Kd.S_base ho0)) (Kd.S_base ho1)) (Kd.R_base ho2)) (fun _ h_ => h_.1))
 have n2_ := AZ.mk (Kd.R_elder' (by (with_reducible repeat (first | apply Kd.R_alloc | apply Kd.R_drewN | apply Kd.R_drew)); exact HO189.out) (Kd.R_base ho2) hb)
 have n3_ := AZ.mk (Kd.R_elder' (by (with_reducible repeat (first | apply Kd.R_alloc | apply Kd.R_drewN | apply Kd.R_drew)); exact HO192.out) (Kd.R_base ho3) hb)
 have n4_ := AZ.mk (Kd.S_mono (Kd.S_told (Kd.S_told (Kd.S_told (Kd.S_old (by (with_reducible repeat (first | apply Kd.S_alloc | apply Kd.S_drewN | apply Kd.S_drew)); exact HO196.out) hb) (Kd.S_base ho0)) (Kd.S_base ho1)) (Kd.R_base ho2)) (fun _ h_ => h_.1))
 have n5_ := AZ.mk (Kd.S_mono (Kd.S_told (Kd.S_told (Kd.S_told (Kd.S_old (by (with_reducible repeat (first | apply Kd.S_alloc | apply Kd.S_drewN | apply Kd.S_drew)); exact HO199.out) hb) (Kd.S_base ho0)) (Kd.S_base ho1)) (Kd.R_base ho2)) (fun _ h_ => h_.1))
 have n6_ := AZ.mk (Kd.R_elder' (by (with_reducible repeat (first | apply Kd.R_alloc | apply Kd.R_drewN | apply Kd.R_drew)); exact HO202.out) (Kd.R_base ho2) hb)
 have n7_ := AZ.mk (Kd.R_elder' (by (with_reducible repeat (first | apply Kd.R_alloc | apply Kd.R_drewN | apply Kd.R_drew)); exact HO205.out) (Kd.R_base ho3) hb)
 have n8_ := AZ.mk (Kd.S_lower (Kd.S_new' (Kd.S_new' (Kd.S_new' (Kd.S_new' (Kd.S_new' (Kd.S_new' ho0 (Kd.S_lt (by (with_reducible repeat (first | apply Kd.S_alloc | apply Kd.S_drewN | apply Kd.S_drew)); exact HO183.out))) (Kd.S_lt (by (with_reducible repeat (first | apply Kd.S_alloc | apply Kd.S_drewN | apply Kd.S_drew)); exact HO186.out))) (Kd.R_lt (by (with_reducible repeat (first | apply Kd.R_alloc | apply Kd.R_drewN | apply Kd.R_drew)); exact HO189.out))) (Kd.S_lt (by (with_reducible repeat (first | apply Kd.S_alloc | apply Kd.S_drewN | apply Kd.S_drew)); exact HO196.out))) (Kd.S_lt (by (with_reducible repeat (first | apply Kd.S_alloc | apply Kd.S_drewN | apply Kd.S_drew)); exact HO199.out))) (Kd.R_lt (by (with_reducible repeat (first | apply Kd.R_alloc | apply Kd.R_drewN | apply Kd.R_drew)); exact HO202.out))) (pZ (by repeat (first | (with_reducible first | exact HB.out | apply pA | apply pN | apply pD | refine pS ?_ GE179.out | refine pS ?_ GE206.out) | exact HB.out))))
 have n9_ := AZ.mk (Kd.S_lower (Kd.S_new' (Kd.S_new' (Kd.S_new' (Kd.S_new' (Kd.S_new' (Kd.S_new' ho1 (Kd.S_lt (by (with_reducible repeat (first | apply Kd.S_alloc | apply Kd.S_drewN | apply Kd.S_drew)); exact HO183.out))) (Kd.S_lt (by (with_reducible repeat (first | apply Kd.S_alloc | apply Kd.S_drewN | apply Kd.S_drew)); exact HO186.out))) (Kd.R_lt (by (with_reducible repeat (first | apply Kd.R_alloc | apply Kd.R_drewN | apply Kd.R_drew)); exact HO189.out))) (Kd.S_lt (by (with_reducible repeat (first | apply Kd.S_alloc | apply Kd.S_drewN | apply Kd.S_drew)); exact HO196.out))) (Kd.S_lt (by (with_reducible repeat (first | apply Kd.S_alloc | apply Kd.S_drewN | apply Kd.S_drew)); exact HO199.out))) (Kd.R_lt (by (with_reducible repeat (first | apply Kd.R_alloc | apply Kd.R_drewN | apply Kd.R_drew)); exact HO202.out))) (pZ (by repeat (first | (with_reducible first | exact HB.out | apply pA | apply pN | apply pD | refine pS ?_ GE179.out | refine pS ?_ GE206.out) | exact HB.out))))
 have n10_ := AZ.mk (Kd.R_lower (Kd.R_new' (Kd.R_new' ho2 (Kd.R_lt (by (with_reducible repeat (first | apply Kd.R_alloc | apply Kd.R_drewN | apply Kd.R_drew)); exact HO189.out))) (Kd.R_lt (by (with_reducible repeat (first | apply Kd.R_alloc | apply Kd.R_drewN | apply Kd.R_drew)); exact HO202.out))) (pZ (by repeat (first | (with_reducible first | exact HB.out | apply pA | apply pN | apply pD | refine pS ?_ GE179.out | refine pS ?_ GE206.out) | exact HB.out))))
 have n11_ := AZ.mk (Kd.R_lower (Kd.R_new' (Kd.R_new' ho3 (Kd.R_lt (by (with_reducible repeat (first | apply Kd.R_alloc | apply Kd.R_drewN | apply Kd.R_drew)); exact HO192.out))) (Kd.R_lt (by (with_reducible repeat (first | apply Kd.R_alloc | apply Kd.R_drewN | apply Kd.R_drew)); exact HO205.out))) (pZ (by repeat (first | (with_reducible first | exact HB.out | apply pA | apply pN | apply pD | refine pS ?_ GE179.out | refine pS ?_ GE206.out) | exact HB.out))))
 have n12_ := AZ.mk (bb_ (g := gb179) (o := .cells #[.slice A0_0 l0_0.length c0_0, .slice A0_1 l0_1.length c0_1, .slice A0_2 l0_2.length c0_2, .slice A0_3 l0_3.length c0_3] 26 (0, 0)) (by (with_reducible repeat (first | refine bn_ ?_ _ | refine bd_ ?_ | refine ba_ ?_ _)); exact BK179.out) hb)
 have n13_ := AZ.mk (bb_ (g := gb206) (o := .cells #[.slice Ao75 t194.length co75, .slice Ao78 t197.length co78, .slice Ao79 t200.length co79, .slice Ao80 t203.length co80] 29 (0, 0)) (by (with_reducible repeat (first | refine bn_ ?_ _ | refine bd_ ?_ | refine ba_ ?_ _)); exact BK206.out) hb)
 have n14_ := AZ.mk (pT (by repeat (first | (with_reducible first | exact HB.out | apply pA | apply pN | apply pD | refine pS ?_ GE179.out | refine pS ?_ GE206.out) | exact HB.out)) hb)
 clear HO183
 clear HO186
 clear HO189
 clear HO192
 clear HO196
 clear HO199
 clear HO202
 clear HO205
 clear BK179
 clear BK206
 clear HB
 have HO183 := n0_
 have HO186 := n1_
 have HO189 := n2_
 have HO192 := n3_
 have HO196 := n4_
 have HO199 := n5_
 have HO202 := n6_
 have HO205 := n7_
 have HO210 := n8_
 have HO213 := n9_
 have HO216 := n10_
 have HO219 := n11_
 have BK179 := n12_
 have BK206 := n13_
 have HB := n14_
 clear n0_ n1_ n2_ n3_ n4_ n5_ n6_ n7_ n8_ n9_ n10_ n11_ n12_ n13_ n14_
 (try clear hb)
 (try clear hb2)
 (try clear hk)
 (try clear hi)
 (try clear ho0)
 (try clear ho1)
 (try clear ho2)
 (try clear ho3)
 obtain ⟨Ao84, co84, eo84⟩ := Kd.S_slice HO210.out
 (first | subst eo84 | (injection eo84 with f1_ f2_ f3_; have f4_ := f1_.symm; have f5_ := f3_.symm; clear f1_ f2_ f3_; subst f4_; subst f5_))
 obtain ⟨Ao85, co85, eo85⟩ := Kd.S_slice HO213.out
 (first | subst eo85 | (injection eo85 with f1_ f2_ f3_; have f4_ := f1_.symm; have f5_ := f3_.symm; clear f1_ f2_ f3_; subst f4_; subst f5_))
 obtain ⟨Ao86, co86, eo86⟩ := Kd.R_slice HO216.out
 (first | subst eo86 | (injection eo86 with f1_ f2_ f3_; have f4_ := f1_.symm; have f5_ := f3_.symm; clear f1_ f2_ f3_; subst f4_; subst f5_))
 obtain ⟨Ao87, co87, eo87⟩ := Kd.R_slice HO219.out
 (first | subst eo87 | (injection eo87 with f1_ f2_ f3_; have f4_ := f1_.symm; have f5_ := f3_.symm; clear f1_ f2_ f3_; subst f4_; subst f5_))
 refine hK.out _ _ ⟨(bc BK206.out 0).trans rfl, (bc BK206.out 1).trans rfl, (bc BK206.out 2).trans rfl, (bc BK206.out 3).trans rfl, (bc BK179.out 0).trans rfl, (bc BK179.out 1).trans rfl, (bc BK179.out 2).trans rfl, (bc BK179.out 3).trans rfl⟩ (fun hHeld => ?_)
 clear hK K
 refine norm_ (a' := ?_) ?_ ?_
 rotate_left
 ·show Act.put _ (some 24) _ = _
  simp only [Act.put, sA, sB, sC, i64_w, i32_w]
  rfl
 refine one_ (i := 3) (N := some 25) #[true, true, true, true, false] rfl rfl (by kernel_rfl) (by decide) (fun K hK => ?_)
 refine goes_ Try.func11 (by kernel_rfl) rfl #[.agg #[.slice Ao75 t194.length co75, .slice Ao78 t197.length co78, .slice Ao79 t200.length co79, .slice Ao80 t203.length co80], .agg #[.slice Ao84 t208.length co84, .slice Ao85 t211.length co85, .slice Ao86 t214.length co86, .slice Ao87 t217.length co87]] (by rfl) rfl rfl (by (try simp only [List.map_toArray, List.map_cons, List.map_nil]); first | done | rfl | (simp only [List.length_drop, List.length_take]; rfl)) ?_
 with_reducible refine (laws_eqAlgebra.calls k _ _ t194 _ _ t197 _ _ t200 _ _ t203 _ _ t208 _ _ t211 _ _ t214 _ _ t217 false _ ?side1 ?side2 ?side3 ?side4 ?side5 ?side6 ?side7 ?side8 ?side9 ?side10 ?side11 ?side12 ?side13 ?side14 ?side15 ?side16 A33.out).mono ?_
 (case side1 => repeat (first | exact (Kd.S_reads' HO196.out).2.2 | (with_reducible refine Kd.C_alloc ?_ _) | (with_reducible refine Kd.C_drewN ?_ _) | (with_reducible refine Kd.C_drew ?_)))
 (case side2 => exact (Kd.S_reads' HO196.out).2.1)
 (case side3 => repeat (first | exact (Kd.S_reads' HO199.out).2.2 | (with_reducible refine Kd.C_alloc ?_ _) | (with_reducible refine Kd.C_drewN ?_ _) | (with_reducible refine Kd.C_drew ?_)))
 (case side4 => exact (Kd.S_reads' HO199.out).2.1)
 (case side5 => repeat (first | exact (Kd.R_reads' HO202.out).2.2 | (with_reducible refine Kd.C_alloc ?_ _) | (with_reducible refine Kd.C_drewN ?_ _) | (with_reducible refine Kd.C_drew ?_)))
 (case side6 => exact (Kd.R_reads' HO202.out).2.1)
 (case side7 => repeat (first | exact (Kd.R_reads' HO205.out).2.2 | (with_reducible refine Kd.C_alloc ?_ _) | (with_reducible refine Kd.C_drewN ?_ _) | (with_reducible refine Kd.C_drew ?_)))
 (case side8 => exact (Kd.R_reads' HO205.out).2.1)
 (case side9 => repeat (first | exact (Kd.S_reads' HO210.out).2.2 | (with_reducible refine Kd.C_alloc ?_ _) | (with_reducible refine Kd.C_drewN ?_ _) | (with_reducible refine Kd.C_drew ?_)))
 (case side10 => exact (Kd.S_reads' HO210.out).2.1)
 (case side11 => repeat (first | exact (Kd.S_reads' HO213.out).2.2 | (with_reducible refine Kd.C_alloc ?_ _) | (with_reducible refine Kd.C_drewN ?_ _) | (with_reducible refine Kd.C_drew ?_)))
 (case side12 => exact (Kd.S_reads' HO213.out).2.1)
 (case side13 => repeat (first | exact (Kd.R_reads' HO216.out).2.2 | (with_reducible refine Kd.C_alloc ?_ _) | (with_reducible refine Kd.C_drewN ?_ _) | (with_reducible refine Kd.C_drew ?_)))
 (case side14 => exact (Kd.R_reads' HO216.out).2.1)
 (case side15 => repeat (first | exact (Kd.R_reads' HO219.out).2.2 | (with_reducible refine Kd.C_alloc ?_ _) | (with_reducible refine Kd.C_drewN ?_ _) | (with_reducible refine Kd.C_drew ?_)))
 (case side16 => exact (Kd.R_reads' HO219.out).2.1)
 rintro e w88 ⟨rfl, hb⟩
 refine ⟨_, rfl, ?_⟩
 have n0_ := AZ.mk (Kd.S_below (by (with_reducible repeat (first | apply Kd.S_alloc | apply Kd.S_drewN | apply Kd.S_drew)); exact HO183.out) hb)
 have n1_ := AZ.mk (Kd.S_below (by (with_reducible repeat (first | apply Kd.S_alloc | apply Kd.S_drewN | apply Kd.S_drew)); exact HO186.out) hb)
 have n2_ := AZ.mk (Kd.R_below (by (with_reducible repeat (first | apply Kd.R_alloc | apply Kd.R_drewN | apply Kd.R_drew)); exact HO189.out) hb)
 have n3_ := AZ.mk (Kd.R_below (by (with_reducible repeat (first | apply Kd.R_alloc | apply Kd.R_drewN | apply Kd.R_drew)); exact HO192.out) hb)
 have n4_ := AZ.mk (Kd.S_below (by (with_reducible repeat (first | apply Kd.S_alloc | apply Kd.S_drewN | apply Kd.S_drew)); exact HO196.out) hb)
 have n5_ := AZ.mk (Kd.S_below (by (with_reducible repeat (first | apply Kd.S_alloc | apply Kd.S_drewN | apply Kd.S_drew)); exact HO199.out) hb)
 have n6_ := AZ.mk (Kd.R_below (by (with_reducible repeat (first | apply Kd.R_alloc | apply Kd.R_drewN | apply Kd.R_drew)); exact HO202.out) hb)
 have n7_ := AZ.mk (Kd.R_below (by (with_reducible repeat (first | apply Kd.R_alloc | apply Kd.R_drewN | apply Kd.R_drew)); exact HO205.out) hb)
 have n8_ := AZ.mk (Kd.S_below (by (with_reducible repeat (first | apply Kd.S_alloc | apply Kd.S_drewN | apply Kd.S_drew)); exact HO210.out) hb)
 have n9_ := AZ.mk (Kd.S_below (by (with_reducible repeat (first | apply Kd.S_alloc | apply Kd.S_drewN | apply Kd.S_drew)); exact HO213.out) hb)
 have n10_ := AZ.mk (Kd.R_below (by (with_reducible repeat (first | apply Kd.R_alloc | apply Kd.R_drewN | apply Kd.R_drew)); exact HO216.out) hb)
 have n11_ := AZ.mk (Kd.R_below (by (with_reducible repeat (first | apply Kd.R_alloc | apply Kd.R_drewN | apply Kd.R_drew)); exact HO219.out) hb)
 have n12_ := AZ.mk (bb_ (g := gb179) (o := .cells #[.slice A0_0 l0_0.length c0_0, .slice A0_1 l0_1.length c0_1, .slice A0_2 l0_2.length c0_2, .slice A0_3 l0_3.length c0_3] 26 (0, 0)) (by (with_reducible repeat (first | refine bn_ ?_ _ | refine bd_ ?_ | refine ba_ ?_ _)); exact BK179.out) hb)
 have n13_ := AZ.mk (bb_ (g := gb206) (o := .cells #[.slice Ao75 t194.length co75, .slice Ao78 t197.length co78, .slice Ao79 t200.length co79, .slice Ao80 t203.length co80] 29 (0, 0)) (by (with_reducible repeat (first | refine bn_ ?_ _ | refine bd_ ?_ | refine ba_ ?_ _)); exact BK206.out) hb)
 have n14_ := AZ.mk (pT (by repeat (first | (with_reducible first | exact HB.out | apply pA | apply pN | apply pD | refine pS ?_ GE179.out | refine pS ?_ GE206.out) | exact HB.out)) hb)
 clear HO183
 clear HO186
 clear HO189
 clear HO192
 clear HO196
 clear HO199
 clear HO202
 clear HO205
 clear HO210
 clear HO213
 clear HO216
 clear HO219
 clear BK179
 clear BK206
 clear HB
 have HO183 := n0_
 have HO186 := n1_
 have HO189 := n2_
 have HO192 := n3_
 have HO196 := n4_
 have HO199 := n5_
 have HO202 := n6_
 have HO205 := n7_
 have HO210 := n8_
 have HO213 := n9_
 have HO216 := n10_
 have HO219 := n11_
 have BK179 := n12_
 have BK206 := n13_
 have HB := n14_
 clear n0_ n1_ n2_ n3_ n4_ n5_ n6_ n7_ n8_ n9_ n10_ n11_ n12_ n13_ n14_
 (try clear hb)
 (try clear hb2)
 (try clear hk)
 (try clear hi)
 refine hK.out _ _ ⟨(bc BK206.out 0).trans rfl, (bc BK206.out 1).trans rfl, (bc BK206.out 2).trans rfl, (bc BK206.out 3).trans rfl, (bc BK179.out 0).trans rfl, (bc BK179.out 1).trans rfl, (bc BK179.out 2).trans rfl, (bc BK179.out 3).trans rfl⟩ (fun hHeld => ?_)
 clear hK K
 refine norm_ (a' := ?_) ?_ ?_
 rotate_left
 ·show Act.put _ (some 25) _ = _
  simp only [Act.put, sA, sB, sC, i64_w, i32_w]
  rfl
 refine pure_ (i := 4) (N := some 26) (v := ?_) (a' := ?_) #[true, true, true, true, true] rfl rfl (by kernel_rfl) (fun _ _ _ h => h) (Or.inl ⟨by rfl, ?_⟩) ?_ ?_
 rotate_left
 ·intro w'
  go_simp
  with_reducible rfl
 rotate_left
 ·simp only [Act.put, sA, sB, sC, i64_w, i32_w]
  rfl
 refine done_ (by kernel_rfl) ?_
 try go_wp2
 go_ret
 exact ⟨by first | rfl | (simp [errW_none, errW_some] <;> rfl) | (simp [*, errW_none, errW_some] <;> rfl), by repeat (first | (with_reducible first | exact HB.out | apply pA | apply pN | apply pD | refine pS ?_ GE179.out | refine pS ?_ GE206.out) | exact HB.out)⟩
def laws_FnExactValidAlgebra.Pure : Prop := ∀ (l0_0 : List (List Int)) (l0_1 : List (List Int)) (l0_2 : List Int) (l0_3 : List Bool), (l0_0.length ≤ maxLen ∧ ∀ x0 ∈ l0_0, (x0.length ≤ maxLen ∧ ∀ x1 ∈ x0, (Lit.int .i64 x1).wf = true)) → (l0_1.length ≤ maxLen ∧ ∀ x0 ∈ l0_1, (x0.length ≤ maxLen ∧ ∀ x1 ∈ x0, (Lit.int .i64 x1).wf = true)) → (l0_2.length ≤ maxLen ∧ ∀ x0 ∈ l0_2, (Lit.int .i64 x0).wf = true) → (l0_3.length ≤ maxLen ∧ ∀ x0 ∈ l0_3, True) → ∃ k, laws_FnExactValidAlgebra.f k l0_0 l0_1 l0_2 l0_3 = some true
end Go.Proofs.Ytgfilbgjnloopaa.P
namespace Go.Proofs.Ytgfilbgjnloopaa.Th

def isC (b : Int) : Bool := b == 40 || b == 91
def isR (b : Int) : Bool := b == 41 || b == 93

structure St where
  p : List Int
  r : List Int
  c : List Int
  d : List Int
  q : List Int

def top (c : List Int) : Int := c.getLast?.getD (-1)

def step (s : St) (i b : Int) : St :=
  if isR b = true then
    if s.c = [] then ⟨s.p ++ [-2], s.r ++ [i], [], s.d ++ [0], s.q ++ [-1]⟩
    else ⟨s.p.set (top s.c).toNat i ++ [top s.c], s.r, s.c.dropLast, s.d ++ [(s.c.dropLast.length : Int)], s.q ++ [top s.c.dropLast]⟩
  else if isC b = true then ⟨s.p ++ [-2], s.r, s.c ++ [i], s.d ++ [(s.c.length : Int) + 1], s.q ++ [top s.c]⟩
  else ⟨s.p ++ [-1], s.r, s.c, s.d ++ [(s.c.length : Int)], s.q ++ [top s.c]⟩

def g (l : List Int) (j : Nat) : Int := l.getD j 0

end Go.Proofs.Ytgfilbgjnloopaa.Th
namespace Go.Proofs.Ytgfilbgjnloopaa.Br
open Go.RowKit Go.Proofs.Ytgfilbgjnloopaa.P Go.Proofs.YtgfilbgjnloopaaW.PrintWords Go.Proofs.YtgfilbgjnloopaaW.PrintLast Go.Proofs.YtgfilbgjnloopaaW.PrintMore Go.Proofs.Ytgfilbgjnloopaa.Th
set_option linter.unusedVariables false
set_option linter.unusedSimpArgs false
theorem Ev.succ {α : Type} {g : Nat → Option α} {r : α} (h : Ev (fun k => g (k + 1)) r) : Ev g r := by
  obtain ⟨K, hK⟩ := h
  refine ⟨K + 1, fun k hk => ?_⟩
  obtain ⟨m, rfl⟩ : ∃ m, k = m + 1 := ⟨k - 1, by omega⟩
  exact hK m (by omega)
theorem Ev.done {α : Type} {r s : α} (h : r = s) : Ev (fun _ : Nat => some r) s := h ▸ Ev.now r
theorem w64 {x : Int} (h0 : -9223372036854775808 ≤ x) (h1 : x ≤ 9223372036854775807) : wrap64 x = x := by unfold wrap64; omega

end Go.Proofs.Ytgfilbgjnloopaa.Br
namespace Go.Proofs.Ytgfilbgjnloopaa.Br
open Go.RowKit Go.Proofs.Ytgfilbgjnloopaa.P Go.Proofs.YtgfilbgjnloopaaW.PrintWords Go.Proofs.YtgfilbgjnloopaaW.PrintLast Go.Proofs.YtgfilbgjnloopaaW.PrintMore Go.Proofs.Ytgfilbgjnloopaa.Th
set_option linter.unusedVariables false
set_option linter.unusedSimpArgs false
theorem down {P : Nat → Prop} (n : Nat) (h0 : P n) (h1 : ∀ i, i < n → P (i + 1) → P i) : ∀ i, i ≤ n → P i := by
  have key : ∀ d i, i + d = n → P i := by
    intro d
    induction d with
    | zero => intro i hi; obtain rfl : i = n := by omega
              exact h0
    | succ d ih => intro i hi; exact h1 i (by omega) (ih (i + 1) (by omega))
  intro i hi
  exact key (n - i) i (by omega)
theorem up1 (i : Nat) (h : i < 9223372036854775807) : wrap64 ((i : Int) + 1) = ((i + 1 : Nat) : Int) := by
  rw [w64 (by omega) (by omega)]; rfl
theorem ilt {i n : Nat} (h : i < n) : (i : Int) < (n : Int) := by omega
theorem inlt {n : Nat} : ¬ ((n : Int) < (n : Int)) := by omega
theorem i0 (i : Nat) : 0 ≤ (i : Int) := by omega
theorem getD_mem {α : Type} (l : List α) (i : Nat) (d : α) (h : i < l.length) : l.getD i d ∈ l := by
  rw [List.getD_eq_getElem?_getD, List.getElem?_eq_getElem h]
  exact List.getElem_mem h
theorem take1 (a : Int) (n : Nat) (h0 : 0 ≤ a) (h1 : a ≤ 1048576) (hn : n ≤ 9223372036854775807) : wrap64 (a - (n : Int)) = a - (n : Int) := w64 (by omega) (by omega)

/-! ### loops, plainly -/
def allN (n : Nat) (e : Nat → Bool) : Bool := (List.range n).all e
def eqv {α : Type} (e : α → α → Bool) (d : α) (x y : List α) : Bool := decide (x.length = y.length) && allN x.length (fun i => e (x.getD i d) (y.getD i d))
theorem allN_true {n : Nat} {e : Nat → Bool} (h : ∀ i, i < n → e i = true) : allN n e = true := by
  unfold allN
  rw [List.all_eq_true]
  intro i hi
  exact h i (List.mem_range.1 hi)
theorem eqv_self {α : Type} (e : α → α → Bool) (d : α) (x : List α) (h : ∀ a ∈ x, e a a = true) : eqv e d x x = true := by
  unfold eqv
  rw [decide_eq_true rfl, Bool.true_and]
  exact allN_true (fun i hi => h _ (getD_mem x i d hi))
def allFromN (n : Nat) (e : Nat → Bool) : Nat → Bool
  | i => (List.range n).all fun j => decide (j < i) || e j
theorem allFromN_zero (n : Nat) (e : Nat → Bool) : allFromN n e 0 = allN n e := by
  unfold allFromN allN
  simp
theorem allFromN_end (n : Nat) (e : Nat → Bool) : allFromN n e n = true := by
  unfold allFromN
  rw [List.all_eq_true]
  intro j hj
  simp [List.mem_range.1 hj]
theorem allFromN_step (n : Nat) (e : Nat → Bool) (i : Nat) (hi : i < n) : allFromN n e i = (e i && allFromN n e (i + 1)) := by
  unfold allFromN
  apply Bool.eq_iff_iff.2
  rw [Bool.and_eq_true, List.all_eq_true, List.all_eq_true]
  constructor
  · intro H
    refine ⟨by simpa using H i (List.mem_range.2 hi), fun j hj => ?_⟩
    have := H j hj
    simp only [Bool.or_eq_true, decide_eq_true_eq] at this ⊢
    rcases this with h1 | h1
    · exact .inl (by omega)
    · exact .inr h1
  · rintro ⟨H0, H⟩ j hj
    have := H j hj
    simp only [Bool.or_eq_true, decide_eq_true_eq] at this ⊢
    by_cases h : j = i
    · subst h; exact .inr H0
    · rcases this with h1 | h1
      · exact .inl (by omega)
      · exact .inr h1
theorem allLoop (n : Nat) (L : Nat → Nat → Option Bool) (e : Nat → Bool) (hend : Ev (L n) true) (hs : ∀ i, i < n → ∀ r, Ev (L (i + 1)) r → Ev (L i) (e i && r)) : Ev (L 0) (allN n e) := by
  rw [← allFromN_zero]
  refine down (P := fun i => Ev (L i) (allFromN n e i)) n ?_ ?_ 0 (by omega)
  · show Ev (L n) (allFromN n e n)
    rw [allFromN_end]; exact hend
  · intro i hi ih
    show Ev (L i) (allFromN n e i)
    rw [allFromN_step n e i hi]
    exact hs i hi _ ih
theorem andEv {g : Nat → Option Bool} {a r : Bool} {f : Nat → Option Bool} (h : Ev g a) (k : Ev f r) : Ev (fun n => (g n).bind fun t => if t = true then f n else some false) (a && r) := by
  refine Ev.bind h ?_
  cases a with
  | true => simp only [if_true, Bool.true_and]; exact k
  | false => simp only [Bool.false_eq_true, if_false, Bool.false_and]; exact Ev.now _
theorem iteEv {a r : Bool} {f : Nat → Option Bool} (k : Ev f r) : Ev (fun n => if a = true then f n else some false) (a && r) := by
  cases a with
  | true => simp only [if_true, Bool.true_and]; exact k
  | false => simp only [Bool.false_eq_true, if_false, Bool.false_and]; exact Ev.now _
theorem notEv {a r : Bool} {f : Nat → Option Bool} (k : Ev f r) : Ev (fun n => if a = true then some false else f n) (!a && r) := by
  cases a with
  | false => simp only [Bool.false_eq_true, if_false, Bool.not_false, Bool.true_and]; exact k
  | true => simp only [if_true, Bool.not_true, Bool.false_and]; exact Ev.now _
theorem eqEv {a b : Int} {r : Bool} {f : Nat → Option Bool} (k : Ev f r) : Ev (fun n => if a = b then f n else some false) (a == b && r) := by
  by_cases h : a = b
  · subst h; simp only [if_true, beq_self_eq_true, Bool.true_and]; exact k
  · simp only [if_neg h, beq_false_of_ne h, Bool.false_and]; exact Ev.now _
theorem lenEv {m n : Nat} {r : Bool} {f : Nat → Option Bool} (k : m = n → Ev f r) : Ev (fun q => if (m : Int) = (n : Int) then f q else some false) (decide (m = n) && r) := by
  by_cases h : m = n
  · simp only [if_pos (show (m : Int) = (n : Int) by omega), decide_eq_true h, Bool.true_and]; exact k h
  · simp only [if_neg (show ¬ (m : Int) = (n : Int) by omega), decide_eq_false h, Bool.false_and]; exact Ev.now _
theorem toLoop {β : Type} (n : Nat) (L : Nat → List β → Nat → Option (List β)) (v : List β) (d : β) (hv : v.length = n) (hend : ∀ o, Ev (L n o) o)
    (hs : ∀ i o, i < n → o.length = n → Ev (L (i + 1) (o.set i (v.getD i d))) v → Ev (L i o) v) : ∀ o, o.length = n → Ev (L 0 o) v := by
  have key : ∀ i, i ≤ n → ∀ o, o.length = n → o.take i = v.take i → Ev (L i o) v := by
    refine down n ?_ ?_
    · intro o ho ht
      have : o = v := by rw [← List.take_length (l := o), ho, ht, List.take_of_length_le (by omega)]
      subst this
      exact hend o
    · intro i hi ih o ho ht
      refine hs i o hi ho (ih _ (by simpa using ho) ?_)
      rw [List.take_add_one, List.take_add_one, List.take_set_of_le (by omega), ht, List.getElem?_set_self (by omega), List.getElem?_eq_getElem (show i < v.length by omega), List.getD_eq_getElem?_getD, List.getElem?_eq_getElem (show i < v.length by omega)]
      rfl
  intro o ho
  exact key 0 (by omega) o ho (by simp)
theorem szLoop {α : Type} (l : List α) (d : α) (ok : α → Prop) (L : Nat → Int → Nat → Option Int) (hend : ∀ a, Ev (L l.length a) a)
    (hs : ∀ i, i < l.length → ∀ a, 0 ≤ a → a ≤ 1048576 → Ev (L i a) (-1) ∨ (ok (l.getD i d) ∧ ∃ b, 0 ≤ b ∧ b ≤ a ∧ ∀ r, Ev (L (i + 1) b) r → Ev (L i a) r)) :
    ∀ a, 0 ≤ a → a ≤ 1048576 → ∃ r, Ev (L 0 a) r ∧ (r < 0 ∨ (0 ≤ r ∧ r ≤ a ∧ ∀ x ∈ l, ok x)) := by
  have key : ∀ i, i ≤ l.length → ∀ a, 0 ≤ a → a ≤ 1048576 → ∃ r, Ev (L i a) r ∧ (r < 0 ∨ (0 ≤ r ∧ r ≤ a ∧ ∀ j, i ≤ j → j < l.length → ok (l.getD j d))) := by
    refine down l.length ?_ ?_
    · intro a h0 h1
      exact ⟨a, hend a, .inr ⟨h0, by omega, fun j _ _ => by omega⟩⟩
    · intro i hi ih a h0 h1
      rcases hs i hi a h0 h1 with h | ⟨ho, b, b0, b1, h⟩
      · exact ⟨-1, h, .inl (by omega)⟩
      · obtain ⟨r, hr, hr2⟩ := ih b b0 (by omega)
        refine ⟨r, h r hr, ?_⟩
        rcases hr2 with h2 | ⟨q0, q1, q2⟩
        · exact .inl h2
        · refine .inr ⟨q0, by omega, fun j hj hj2 => ?_⟩
          by_cases e : j = i
          · subst e; exact ho
          · exact q2 j (by omega) hj2
  intro a h0 h1
  obtain ⟨r, hr, hr2⟩ := key 0 (by omega) a h0 h1
  refine ⟨r, hr, ?_⟩
  rcases hr2 with h2 | ⟨q0, q1, q2⟩
  · exact .inl h2
  · refine .inr ⟨q0, q1, fun x hx => ?_⟩
    obtain ⟨j, hj⟩ := List.getElem?_of_mem hx
    have := q2 j (by omega) (List.getElem?_eq_some_iff.1 hj).1
    rwa [List.getD_eq_getElem?_getD, hj] at this
end Go.Proofs.Ytgfilbgjnloopaa.Br
namespace Go.Proofs.Ytgfilbgjnloopaa.Br
open Go.RowKit Go.Proofs.Ytgfilbgjnloopaa.P Go.Proofs.YtgfilbgjnloopaaW.PrintWords Go.Proofs.YtgfilbgjnloopaaW.PrintLast Go.Proofs.YtgfilbgjnloopaaW.PrintMore Go.Proofs.Ytgfilbgjnloopaa.Th
set_option linter.unusedVariables false
set_option linter.unusedSimpArgs false
def eint (a b : Int) : Bool := a == b
def ebool (a b : Bool) : Bool := !(a != b)
/-- How long a row is, and those inside. -/
def sm0 {α : Type} (l : List α) : Prop := l.length ≤ 1048576
def sm1 {α : Type} (l : List (List α)) : Prop := l.length ≤ 1048576 ∧ ∀ x ∈ l, sm0 x
theorem laws_eqInt64S_ev (x y : List Int) (hx : sm0 x) : Ev (fun k => laws_eqInt64S.f k x y) (eqv eint 0 x y) := by
  have hl : x.length ≤ 1048576 := hx
  unfold laws_eqInt64S.f eqv
  refine lenEv (fun h => allLoop x.length (fun i k => laws_eqInt64S.l0 k x y (i : Int)) _ ?_ ?_)
  · refine Ev.succ ?_
    simp only [laws_eqInt64S.l0, if_neg inlt]
    exact Ev.now _
  · intro i hi r hr
    refine Ev.succ ?_
    simp only [laws_eqInt64S.l0, if_pos (ilt hi), if_pos (i0 i), if_pos (ilt (show i < y.length by omega)), up1 i (by omega)]
    exact eqEv hr

theorem laws_eqBoolS_ev (x y : List Bool) (hx : sm0 x) : Ev (fun k => laws_eqBoolS.f k x y) (eqv ebool false x y) := by
  have hl : x.length ≤ 1048576 := hx
  unfold laws_eqBoolS.f eqv
  refine lenEv (fun h => allLoop x.length (fun i k => laws_eqBoolS.l0 k x y (i : Int)) _ ?_ ?_)
  · refine Ev.succ ?_
    simp only [laws_eqBoolS.l0, if_neg inlt]
    exact Ev.now _
  · intro i hi r hr
    refine Ev.succ ?_
    simp only [laws_eqBoolS.l0, if_pos (ilt hi), if_pos (i0 i), if_pos (ilt (show i < y.length by omega)), up1 i (by omega)]
    exact notEv hr

theorem laws_eqInt64SS_ev (x y : List (List Int)) (hx : sm1 x) : Ev (fun k => laws_eqInt64SS.f k x y) (eqv (eqv eint 0) ([] : (List Int)) x y) := by
  have hl : x.length ≤ 1048576 := hx.1
  unfold laws_eqInt64SS.f eqv
  refine lenEv (fun h => allLoop x.length (fun i k => laws_eqInt64SS.l0 k x y (i : Int)) _ ?_ ?_)
  · refine Ev.succ ?_
    simp only [laws_eqInt64SS.l0, if_neg inlt]
    exact Ev.now _
  · intro i hi r hr
    refine Ev.succ ?_
    simp only [laws_eqInt64SS.l0, if_pos (ilt hi), if_pos (i0 i), if_pos (ilt (show i < y.length by omega)), up1 i (by omega)]
    exact andEv (laws_eqInt64S_ev _ _ (hx.2 _ (getD_mem x i _ hi))) hr

end Go.Proofs.Ytgfilbgjnloopaa.Br
namespace Go.Proofs.Ytgfilbgjnloopaa.Br
open Go.RowKit Go.Proofs.Ytgfilbgjnloopaa.P Go.Proofs.YtgfilbgjnloopaaW.PrintWords Go.Proofs.YtgfilbgjnloopaaW.PrintLast Go.Proofs.YtgfilbgjnloopaaW.PrintMore Go.Proofs.Ytgfilbgjnloopaa.Th
set_option linter.unusedVariables false
set_option linter.unusedSimpArgs false
theorem laws_toInt64S_ev (l : List Int) (hl : sm0 l) : Ev (fun k => laws_toInt64S.f k l) l := by
  have hl' : l.length ≤ 1048576 := hl
  unfold laws_toInt64S.f
  simp only [if_pos (i0 l.length), Int.toNat_natCast, if_pos (show l.length ≤ 35184372088832 by omega)]
  refine toLoop l.length (fun i o k => laws_toInt64S.l0 k l o i) l 0 rfl ?_ ?_ _ (by simp)
  · intro o
    refine Ev.succ ?_
    simp only [laws_toInt64S.l0, if_neg inlt]
    exact Ev.now _
  · intro i o hi ho h
    refine Ev.succ ?_
    simp only [laws_toInt64S.l0, if_pos (ilt hi), if_pos (i0 i), if_pos (ilt (show i < o.length by omega)), up1 i (by omega), Int.toNat_natCast]
    exact h
theorem laws_toBoolS_ev (l : List Bool) (hl : sm0 l) : Ev (fun k => laws_toBoolS.f k l) l := by
  have hl' : l.length ≤ 1048576 := hl
  unfold laws_toBoolS.f
  simp only [if_pos (i0 l.length), Int.toNat_natCast, if_pos (show l.length ≤ 281474976710656 by omega)]
  refine toLoop l.length (fun i o k => laws_toBoolS.l0 k l o i) l false rfl ?_ ?_ _ (by simp)
  · intro o
    refine Ev.succ ?_
    simp only [laws_toBoolS.l0, if_neg inlt]
    exact Ev.now _
  · intro i o hi ho h
    refine Ev.succ ?_
    simp only [laws_toBoolS.l0, if_pos (ilt hi), if_pos (i0 i), if_pos (ilt (show i < o.length by omega)), up1 i (by omega), Int.toNat_natCast]
    exact h
theorem laws_toInt64SS_ev (l : List (List Int)) (hl : sm1 l) : Ev (fun k => laws_toInt64SS.f k l) l := by
  have hl' : l.length ≤ 1048576 := hl.1
  unfold laws_toInt64SS.f
  simp only [if_pos (i0 l.length), Int.toNat_natCast, if_pos (show l.length ≤ 11728124029610 by omega)]
  refine toLoop l.length (fun i o k => laws_toInt64SS.l0 k l o i) l [] rfl ?_ ?_ _ (by simp)
  · intro o
    refine Ev.succ ?_
    simp only [laws_toInt64SS.l0, if_neg inlt]
    exact Ev.now _
  · intro i o hi ho h
    refine Ev.succ ?_
    simp only [laws_toInt64SS.l0, if_pos (ilt hi), if_pos (i0 i), if_pos (ilt (show i < o.length by omega)), up1 i (by omega), Int.toNat_natCast]
    exact Ev.bind (laws_toInt64S_ev (l.getD i []) (hl.2 _ (getD_mem l i _ hi))) h
theorem eint_self (a : Int) : eint a a = true := by simp [eint]
theorem ebool_self (a : Bool) : ebool a a = true := by simp [ebool]
theorem laws_szBoolS_ev (l : List Bool) (a : Int) (h0 : 0 ≤ a) (h1 : a ≤ 1048576) (hl : l.length ≤ 9223372036854775807) : ∃ r, laws_szBoolS.f l a = some r ∧ (r < 0 ∨ (0 ≤ r ∧ r ≤ a ∧ sm0 l)) := by
  unfold laws_szBoolS.f
  rw [take1 a _ h0 h1 hl]
  by_cases h : a - (l.length : Int) < 0
  · exact ⟨-1, by rw [if_pos h], .inl (by omega)⟩
  · exact ⟨_, by rw [if_neg h], .inr ⟨by omega, by omega, by show l.length ≤ 1048576; omega⟩⟩
theorem laws_szInt64S_ev (l : List Int) (a : Int) (h0 : 0 ≤ a) (h1 : a ≤ 1048576) (hl : l.length ≤ 9223372036854775807) : ∃ r, laws_szInt64S.f l a = some r ∧ (r < 0 ∨ (0 ≤ r ∧ r ≤ a ∧ sm0 l)) := by
  unfold laws_szInt64S.f
  rw [take1 a _ h0 h1 hl]
  by_cases h : a - (l.length : Int) < 0
  · exact ⟨-1, by rw [if_pos h], .inl (by omega)⟩
  · exact ⟨_, by rw [if_neg h], .inr ⟨by omega, by omega, by show l.length ≤ 1048576; omega⟩⟩
theorem laws_szInt64SS_ev (l : List (List Int)) (a : Int) (h0 : 0 ≤ a) (h1 : a ≤ 1048576) (hl : l.length ≤ 9223372036854775807) (hi : ∀ x ∈ l, x.length ≤ 9223372036854775807) :
    ∃ r, Ev (fun k => laws_szInt64SS.f k l a) r ∧ (r < 0 ∨ (0 ≤ r ∧ r ≤ a ∧ sm1 l)) := by
  unfold laws_szInt64SS.f
  rw [take1 a _ h0 h1 hl]
  by_cases h : a - (l.length : Int) < 0
  · exact ⟨-1, by simp only [if_pos h]; exact Ev.now _, .inl (by omega)⟩
  · obtain ⟨r, hr, hr2⟩ := szLoop l [] sm0 (fun i c k => laws_szInt64SS.l0 k l c i) (fun c => by
        refine Ev.succ ?_
        simp only [laws_szInt64SS.l0, if_neg inlt]
        exact Ev.now _) (fun i hi' c c0 c1 => by
        have hm := getD_mem l i [] hi'
        obtain ⟨r, hr, hr2⟩ := laws_szInt64S_ev (l.getD i []) c c0 c1 (hi _ hm)
        by_cases hn : r < 0
        · refine .inl (Ev.succ ?_)
          simp only [laws_szInt64SS.l0, if_pos (ilt hi'), if_pos (i0 i)]
          exact Ev.bind ⟨0, fun _ _ => hr⟩ (by simp only [if_pos hn]; exact Ev.now _)
        · rcases hr2 with h2 | ⟨q0, q1, q2⟩
          · exact absurd h2 hn
          · refine .inr ⟨q2, r, q0, q1, fun s hs => Ev.succ ?_⟩
            simp only [laws_szInt64SS.l0, if_pos (ilt hi'), if_pos (i0 i), up1 i (by omega)]
            exact Ev.bind ⟨0, fun _ _ => hr⟩ (by simp only [if_neg hn]; exact hs)) (a - (l.length : Int)) (by omega) (by omega)
    refine ⟨r, by simp only [if_neg h]; exact hr, ?_⟩
    rcases hr2 with h2 | ⟨q0, q1, q2⟩
    · exact .inl h2
    · exact .inr ⟨q0, by omega, ⟨by omega, q2⟩⟩
end Go.Proofs.Ytgfilbgjnloopaa.Br
namespace Go.Proofs.Ytgfilbgjnloopaa.Br
open Go.RowKit Go.Proofs.Ytgfilbgjnloopaa.P Go.Proofs.YtgfilbgjnloopaaW.PrintWords Go.Proofs.YtgfilbgjnloopaaW.PrintLast Go.Proofs.YtgfilbgjnloopaaW.PrintMore Go.Proofs.Ytgfilbgjnloopaa.Th
set_option linter.unusedVariables false
set_option linter.unusedSimpArgs false
theorem laws_szAlgebra_ev (l0 l1 : List (List Int)) (l2 : List Int) (l3 : List Bool) (c : Int) (h0 : 0 ≤ c) (h1 : c ≤ 1048576)
    (g0 : l0.length ≤ 9223372036854775807 ∧ ∀ x ∈ l0, x.length ≤ 9223372036854775807) (g1 : l1.length ≤ 9223372036854775807 ∧ ∀ x ∈ l1, x.length ≤ 9223372036854775807)
    (g2 : l2.length ≤ 9223372036854775807) (g3 : l3.length ≤ 9223372036854775807) :
    ∃ r, Ev (fun k => laws_szAlgebra.f k l0 l1 l2 l3 c) r ∧ (r < 0 ∨ (0 ≤ r ∧ r ≤ c ∧ sm1 l0 ∧ sm1 l1 ∧ sm0 l2 ∧ sm0 l3)) := by
  unfold laws_szAlgebra.f
  obtain ⟨r2, e2, q2⟩ := laws_szInt64SS_ev l0 c h0 h1 g0.1 g0.2
  by_cases n2 : r2 < 0
  · exact ⟨-1, Ev.bind e2 (by simp only [if_pos n2]; exact Ev.now _), .inl (by omega)⟩
  obtain ⟨r3, e3, q3⟩ := laws_szInt64SS_ev l1 r2 (by omega) (by omega) g1.1 g1.2
  by_cases n3 : r3 < 0
  · exact ⟨-1, Ev.bind e2 (by simp only [if_neg n2]; exact Ev.bind e3 (by simp only [if_pos n3]; exact Ev.now _)), .inl (by omega)⟩
  obtain ⟨r4, e4, q4⟩ := laws_szInt64S_ev l2 r3 (by omega) (by omega) g2
  by_cases n4 : r4 < 0
  · exact ⟨-1, Ev.bind e2 (by simp only [if_neg n2]; exact Ev.bind e3 (by simp only [if_neg n3]; exact Ev.bind ⟨0, fun _ _ => e4⟩ (by simp only [if_pos n4]; exact Ev.now _))), .inl (by omega)⟩
  obtain ⟨r5, e5, q5⟩ := laws_szBoolS_ev l3 r4 (by omega) (by omega) g3
  by_cases n5 : r5 < 0
  · exact ⟨-1, Ev.bind e2 (by simp only [if_neg n2]; exact Ev.bind e3 (by simp only [if_neg n3]; exact Ev.bind ⟨0, fun _ _ => e4⟩ (by simp only [if_neg n4]; exact Ev.bind ⟨0, fun _ _ => e5⟩ (by simp only [if_pos n5]; exact Ev.now _)))), .inl (by omega)⟩
  · refine ⟨r5, Ev.bind e2 (by simp only [if_neg n2]; exact Ev.bind e3 (by simp only [if_neg n3]; exact Ev.bind ⟨0, fun _ _ => e4⟩ (by simp only [if_neg n4]; exact Ev.bind ⟨0, fun _ _ => e5⟩ (by simp only [if_neg n5]; exact Ev.now _)))), .inr ?_⟩
    rcases q2 with q2 | q2
    · omega
    rcases q3 with q3 | q3
    · omega
    rcases q4 with q4 | q4
    · omega
    rcases q5 with q5 | q5
    · omega
    exact ⟨by omega, by omega, q2.2.2, q3.2.2, q4.2.2, q5.2.2⟩
theorem laws_toAlgebra_ev (l0 l1 : List (List Int)) (l2 : List Int) (l3 : List Bool) (h0 : sm1 l0) (h1 : sm1 l1) (h2 : sm0 l2) (h3 : sm0 l3) :
    Ev (fun k => laws_toAlgebra.f k l0 l1 l2 l3) (l0, l1, l2, l3) := by
  unfold laws_toAlgebra.f
  exact Ev.bind (laws_toInt64SS_ev l0 h0) (Ev.bind (laws_toInt64SS_ev l1 h1) (Ev.bind (laws_toInt64S_ev l2 h2) (Ev.bind (laws_toBoolS_ev l3 h3) (Ev.now _))))
theorem laws_eqAlgebra_ev (l0 l1 : List (List Int)) (l2 : List Int) (l3 : List Bool) (h0 : sm1 l0) (h1 : sm1 l1) (h2 : sm0 l2) (h3 : sm0 l3) :
    Ev (fun k => laws_eqAlgebra.f k l0 l1 l2 l3 l0 l1 l2 l3) true := by
  unfold laws_eqAlgebra.f
  have e0 := laws_eqInt64SS_ev l0 l0 h0
  rw [eqv_self _ _ _ (fun a _ => eqv_self _ _ _ (fun a _ => eint_self a))] at e0
  have e1 := laws_eqInt64SS_ev l1 l1 h1
  rw [eqv_self _ _ _ (fun a _ => eqv_self _ _ _ (fun a _ => eint_self a))] at e1
  have e2 := laws_eqInt64S_ev l2 l2 h2
  rw [eqv_self _ _ _ (fun a _ => eint_self a)] at e2
  have e3 := laws_eqBoolS_ev l3 l3 h3
  rw [eqv_self _ _ _ (fun a _ => ebool_self a)] at e3
  refine Ev.bind e0 ?_
  simp only [if_true]
  refine Ev.bind e1 ?_
  simp only [if_true]
  refine Ev.bind e2 ?_
  simp only [if_true]
  refine Ev.bind e3 ?_
  simp only [if_true]
  exact Ev.now _
end Go.Proofs.Ytgfilbgjnloopaa.Br
namespace Go.Proofs.Ytgfilbgjnloopaa.Br
open Go.RowKit Go.Proofs.Ytgfilbgjnloopaa.P Go.Proofs.YtgfilbgjnloopaaW.PrintWords Go.Proofs.YtgfilbgjnloopaaW.PrintLast Go.Proofs.YtgfilbgjnloopaaW.PrintMore Go.Proofs.Ytgfilbgjnloopaa.Th
set_option linter.unusedVariables false
set_option linter.unusedSimpArgs false
theorem in_eq (a lo hi : Int) : spec_l00In.f a lo hi = some (decide (lo ≤ a ∧ a ≤ hi)) := by
  unfold spec_l00In.f
  by_cases h : a ≥ lo
  · rw [if_pos h]; congr 1; simp; omega
  · rw [if_neg h]; congr 1; simp; omega
end Go.Proofs.Ytgfilbgjnloopaa.Br
namespace Go.Proofs.Ytgfilbgjnloopaa.Br
open Go.RowKit Go.Proofs.Ytgfilbgjnloopaa.P Go.Proofs.YtgfilbgjnloopaaW.PrintWords Go.Proofs.YtgfilbgjnloopaaW.PrintLast Go.Proofs.YtgfilbgjnloopaaW.PrintMore Go.Proofs.Ytgfilbgjnloopaa.Th
set_option linter.unusedVariables false
set_option linter.unusedSimpArgs false
set_option linter.unusedSectionVars false
theorem allN_iff {n : Nat} {e : Nat → Bool} : allN n e = true ↔ ∀ i, i < n → e i = true := by
  unfold allN
  rw [List.all_eq_true]
  exact ⟨fun h i hi => h i (List.mem_range.2 hi), fun h i hi => h i (List.mem_range.1 hi)⟩
/-- A loop that goes on while e holds, and is left with 'false' else; what comes behind it is looked at where e held of all. -/
theorem loopB (n : Nat) (L : Nat → Nat → Option Bool) (e : Nat → Bool) (ht : ∀ i, i < n → e i = true → ∀ R, Ev (L (i + 1)) R → Ev (L i) R) (hf : ∀ i, i < n → e i = false → Ev (L i) false) (R : Bool) (hR : (∀ i, i < n → e i = true) → Ev (L n) R) : Ev (L 0) (allN n e && R) := by
  by_cases h : ∀ i, i < n → e i = true
  · rw [allN_true h, Bool.true_and]
    exact down (P := fun i => Ev (L i) R) n (hR h) (fun i hi ih => ht i hi (h i hi) R ih) 0 (by omega)
  · have h2 : allN n e = false := Bool.eq_false_iff.2 (fun h3 => h (allN_iff.1 h3))
    rw [h2, Bool.false_and]
    refine down (P := fun i => (∃ j, i ≤ j ∧ j < n ∧ e j = false) → Ev (L i) false) n (fun ⟨j, h1, h2, _⟩ => by omega) (fun i hi ih hx => ?_) 0 (by omega) ?_
    · cases he : e i with
      | false => exact hf i hi he
      | true =>
        obtain ⟨j, h1, h2, h3⟩ := hx
        refine ht i hi he _ (ih ⟨j, ?_, h2, h3⟩)
        rcases Nat.eq_or_lt_of_le h1 with e1 | e1
        · subst e1; rw [he] at h3; cases h3
        · omega
    · obtain ⟨j, hj⟩ := Classical.not_forall.1 h
      obtain ⟨hj1, hj2⟩ := Classical.not_imp.1 hj
      exact ⟨j, by omega, hj1, by simpa using hj2⟩
theorem rd_getDI (l : List Int) (i : Nat) : rd l i = l.getD i 0 := by unfold rd; rw [Int.toNat_natCast]
theorem areEl_allN (n : Int) (l : List Int) (m : Int) : areEl n l m = (decide ((l.length : Int) = m) && allN l.length (fun i => Go.Proofs.Ytgfilbgjnloopaa.P.inR n (rd l (i : Int)))) := by
  unfold areEl
  apply Bool.eq_iff_iff.2
  rw [Bool.and_eq_true, Bool.and_eq_true, beq_iff_eq, decide_eq_true_eq, allN_iff, Bool.not_eq_true', List.any_eq_false]
  refine and_congr_right fun _ => ⟨fun h i hi => ?_, fun h x hx => ?_⟩
  · have := h (rd l (i : Int)) (by rw [rd_getDI]; exact getD_mem l i 0 hi)
    simpa using this
  · obtain ⟨i, hi, rfl⟩ := List.mem_iff_getElem.1 hx
    have := h i hi
    rw [rd_getDI, List.getD_eq_getElem?_getD, List.getElem?_eq_getElem hi] at this
    simpa using this
theorem listA_ev (l : List Int) (len n : Int) (hl : l.length ≤ 1048576) (h0 : -1000000 ≤ n) (h1 : n ≤ 1000000) : Ev (fun k => spec_l02List.f k l len n) (areEl n l len) := by
  have f1 : wrap64 (n - 1) = n - 1 := w64 (by omega) (by omega)
  have ein : ∀ x : Int, decide (0 ≤ x ∧ x ≤ n - 1) = Go.Proofs.Ytgfilbgjnloopaa.P.inR n x := fun x => by
    unfold Go.Proofs.Ytgfilbgjnloopaa.P.inR
    rw [Bool.decide_and]
  rw [areEl_allN]
  unfold spec_l02List.f
  by_cases h : (l.length : Int) = len
  · rw [decide_eq_true h, Bool.true_and]
    simp only [if_pos h]
    refine allLoop l.length (fun i k => spec_l02List.l0 k l n (i : Int)) _ ?_ ?_
    · refine Ev.succ ?_
      simp only [spec_l02List.l0, if_neg inlt]
      exact Ev.now _
    · intro i hi r hr
      refine Ev.succ ?_
      simp only [spec_l02List.l0, if_pos (ilt hi), if_pos (i0 i), in_eq, Option.bind_some, f1, ein, up1 i (by clear f1; omega)]
      exact iteEv hr
  · rw [decide_eq_false h, Bool.false_and]
    simp only [if_neg h]
    exact Ev.now _
section
variable {P Wr : List (List Int)} {In : List Int} {Ac : List Bool}
theorem okAlg_no (h : ¬ OkAlg P Wr In Ac) : Ev (fun _ : Nat => some false) (okAlg P Wr In Ac) := Ev.done (ok_no h).symm
def unitB (P : List (List Int)) (i : Nat) : Bool := (pp P 0 i == (i : Int)) && (pp P i 0 == (i : Int))
def ascB (P : List (List Int)) (i k j : Nat) : Bool := pp P (pp P i k) j == pp P i (pp P k j)
theorem asc_loops (hn : 1 ≤ Ac.length ∧ Ac.length ≤ 40) (hT : Tab Ac.length P) :
    Ev (fun k => spec_l04Ok.l2 k (Ac.length : Int) 0 P Wr In Ac) (allN Ac.length fun i => unitB P i && allN Ac.length fun k => allN Ac.length fun j => ascB P i k j) := by
  have hP := hT.num
  have hp : ∀ i : Nat, i < Ac.length → (i : Int) < (P.length : Int) := fun i hi => by omega
  have hl : ∀ i j : Nat, i < Ac.length → j < Ac.length → (j : Int) < ((rd_L1 P (i : Int)).length : Int) := fun i j hi hj => by rw [hT.len i hi]; omega
  -- the innermost loop
  have l4 : ∀ i k, i < Ac.length → k < Ac.length → ∀ R : Bool, Ev (fun q => spec_l04Ok.l3 q (Ac.length : Int) (i : Int) ((k + 1 : Nat) : Int) P Wr In Ac) R → Ev (fun q => spec_l04Ok.l4 q (Ac.length : Int) (i : Int) (k : Int) 0 P Wr In Ac) ((allN Ac.length fun j => ascB P i k j) && R) := by
    intro i k hi hk R hR
    have step : ∀ j, j < Ac.length → ∀ q, spec_l04Ok.l4 (q + 1) (Ac.length : Int) (i : Int) (k : Int) (j : Int) P Wr In Ac = if ascB P i k j = true then spec_l04Ok.l4 q (Ac.length : Int) (i : Int) (k : Int) ((j + 1 : Nat) : Int) P Wr In Ac else some false := by
      intro j hj q
      obtain ⟨a, ea, ha⟩ := hT.ent i k hi hk
      obtain ⟨b, eb, hb⟩ := hT.ent k j hk hj
      have c5 : (j : Int) < ((rd_L1 P (a : Int)).length : Int) := hl a j ha hj
      have c6 : (b : Int) < ((rd_L1 P (i : Int)).length : Int) := hl i b hi hb
      simp only [spec_l04Ok.l4, if_pos (ilt hj), if_pos (i0 i), if_pos (hp i hi), if_pos (i0 k), if_pos (hl i k hi hk), ea, if_pos (i0 a), if_pos (hp a ha), if_pos (i0 j), if_pos c5, if_pos (hp k hk), if_pos (hl k j hk hj), eb, if_pos (i0 b), if_pos c6, up1 j (by omega)]
      have e9 : ascB P i k j = decide (rd (rd_L1 P (a : Int)) (j : Int) = rd (rd_L1 P (i : Int)) (b : Int)) := by
        unfold ascB pp
        rw [ea, eb]; rfl
      rw [e9]
      by_cases h : rd (rd_L1 P (a : Int)) (j : Int) = rd (rd_L1 P (i : Int)) (b : Int)
      · simp [h]
      · simp [h]
    refine loopB Ac.length (fun j q => spec_l04Ok.l4 q (Ac.length : Int) (i : Int) (k : Int) (j : Int) P Wr In Ac) (fun j => ascB P i k j) ?_ ?_ R ?_
    · intro j hj he R' hR'
      refine Ev.succ ?_
      simp only [step j hj, he, if_true]
      exact hR'
    · intro j hj he
      refine Ev.succ ?_
      simp only [step j hj, he, Bool.false_eq_true, if_false]
      exact Ev.now _
    · intro _
      refine Ev.succ ?_
      simp only [spec_l04Ok.l4, if_neg inlt, up1 k (by omega)]
      exact hR
  have l3 : ∀ i, i < Ac.length → ∀ R : Bool, Ev (fun q => spec_l04Ok.l2 q (Ac.length : Int) ((i + 1 : Nat) : Int) P Wr In Ac) R → Ev (fun q => spec_l04Ok.l3 q (Ac.length : Int) (i : Int) 0 P Wr In Ac) ((allN Ac.length fun k => allN Ac.length fun j => ascB P i k j) && R) := by
    intro i hi R hR
    refine loopB Ac.length (fun k q => spec_l04Ok.l3 q (Ac.length : Int) (i : Int) (k : Int) P Wr In Ac) (fun k => allN Ac.length fun j => ascB P i k j) ?_ ?_ R ?_
    · intro k hk he R' hR'
      refine Ev.succ ?_
      simp only [spec_l04Ok.l3, if_pos (ilt hk)]
      have := l4 i k hi hk R' hR'
      rw [he, Bool.true_and] at this
      exact this
    · intro k hk he
      refine Ev.succ ?_
      simp only [spec_l04Ok.l3, if_pos (ilt hk)]
      -- what comes behind is not looked at
      obtain ⟨j, hj, hf⟩ : ∃ j, j < Ac.length ∧ ascB P i k j = false := by
        refine Classical.byContradiction fun h => ?_
        rw [allN_true (fun j hj => by cases e : ascB P i k j with | true => rfl | false => exact (h ⟨j, hj, e⟩).elim)] at he
        cases he
      have h9 := loopB Ac.length (fun j q => spec_l04Ok.l4 q (Ac.length : Int) (i : Int) (k : Int) (j : Int) P Wr In Ac) (fun j => ascB P i k j) ?_ ?_ false (fun h => by have := h j hj; rw [hf] at this; cases this)
      · rw [Bool.and_false] at h9; exact h9
      · intro j hj he R' hR'
        obtain ⟨a, ea, ha⟩ := hT.ent i k hi hk
        obtain ⟨b, eb, hb⟩ := hT.ent k j hk hj
        have c5 : (j : Int) < ((rd_L1 P (a : Int)).length : Int) := hl a j ha hj
        have c6 : (b : Int) < ((rd_L1 P (i : Int)).length : Int) := hl i b hi hb
        have e9 : rd (rd_L1 P (a : Int)) (j : Int) = rd (rd_L1 P (i : Int)) (b : Int) := by
          unfold ascB pp at he
          rw [ea, eb, beq_iff_eq] at he; exact he
        refine Ev.succ ?_
        simp only [spec_l04Ok.l4, if_pos (ilt hj), if_pos (i0 i), if_pos (hp i hi), if_pos (i0 k), if_pos (hl i k hi hk), ea, if_pos (i0 a), if_pos (hp a ha), if_pos (i0 j), if_pos c5, if_pos (hp k hk), if_pos (hl k j hk hj), eb, if_pos (i0 b), if_pos c6, up1 j (by omega), if_pos e9]
        exact hR'
      · intro j hj he
        obtain ⟨a, ea, ha⟩ := hT.ent i k hi hk
        obtain ⟨b, eb, hb⟩ := hT.ent k j hk hj
        have c5 : (j : Int) < ((rd_L1 P (a : Int)).length : Int) := hl a j ha hj
        have c6 : (b : Int) < ((rd_L1 P (i : Int)).length : Int) := hl i b hi hb
        have e9 : ¬ rd (rd_L1 P (a : Int)) (j : Int) = rd (rd_L1 P (i : Int)) (b : Int) := by
          unfold ascB pp at he
          rw [ea, eb, beq_eq_false_iff_ne] at he; exact he
        refine Ev.succ ?_
        simp only [spec_l04Ok.l4, if_pos (ilt hj), if_pos (i0 i), if_pos (hp i hi), if_pos (i0 k), if_pos (hl i k hi hk), ea, if_pos (i0 a), if_pos (hp a ha), if_pos (i0 j), if_pos c5, if_pos (hp k hk), if_pos (hl k j hk hj), eb, if_pos (i0 b), if_pos c6, if_neg e9]
        exact Ev.now _
    · intro _
      refine Ev.succ ?_
      simp only [spec_l04Ok.l3, if_neg inlt, up1 i (by omega)]
      exact hR
  -- a loop of elements whose end is not reached
  have l2 : ∀ i, i ≤ Ac.length → Ev (fun q => spec_l04Ok.l2 q (Ac.length : Int) (i : Int) P Wr In Ac) (allFromN Ac.length (fun i => unitB P i && allN Ac.length fun k => allN Ac.length fun j => ascB P i k j) i) := by
    refine down Ac.length ?_ ?_
    · rw [allFromN_end]
      refine Ev.succ ?_
      simp only [spec_l04Ok.l2, if_neg inlt]
      exact Ev.now _
    · intro i hi ih
      rw [allFromN_step _ _ _ hi]
      have z : (0 : Int) < (P.length : Int) := by omega
      have c1 : (i : Int) < ((rd_L1 P (0 : Int)).length : Int) := hl 0 i (by omega) hi
      have c2 : (0 : Int) < ((rd_L1 P (i : Int)).length : Int) := hl i 0 hi (by omega)
      refine Ev.succ ?_
      simp only [spec_l04Ok.l2, if_pos (ilt hi), if_pos z, if_pos (i0 i), if_pos c1, if_pos (hp i hi), if_pos c2]
      by_cases h1 : rd (rd_L1 P 0) (i : Int) = (i : Int)
      · simp only [if_pos h1]
        refine Ev.succ ?_
        by_cases h2 : rd (rd_L1 P (i : Int)) 0 = (i : Int)
        · have hu : unitB P i = true := by unfold unitB pp; rw [h1, h2]; simp
          simp only [spec_l04Ok.j4, h2, bne_self_eq_false, Bool.false_eq_true, if_false, hu, Bool.true_and]
          exact l3 i hi _ ih
        · have hu : unitB P i = false := by unfold unitB pp; rw [beq_eq_false_iff_ne.2 h2, Bool.and_false]
          simp only [spec_l04Ok.j4, bne_iff_ne.2 h2, if_true, hu, Bool.false_and]
          exact Ev.now _
      · have hu : unitB P i = false := by unfold unitB pp; rw [beq_eq_false_iff_ne.2 h1, Bool.false_and]
        simp only [if_neg h1, hu, Bool.false_and]
        refine Ev.succ ?_
        simp only [spec_l04Ok.j4, if_true]
        exact Ev.now _
  have := l2 0 (by omega)
  rw [allFromN_zero] at this
  exact this
theorem rowsA_iff (l : List (List Int)) (n : Int) : (∀ i, i < l.length → areEl n (rd_L1 l (i : Int)) n = true) ↔ ∀ r ∈ l, areEl n r n = true := by
  constructor
  · intro h r hr
    obtain ⟨i, hi, rfl⟩ := List.mem_iff_getElem.1 hr
    have := h i hi
    unfold rd_L1 at this
    rw [Int.toNat_natCast, List.getD_eq_getElem?_getD, List.getElem?_eq_getElem hi] at this
    exact this
  · intro h i hi
    refine h _ ?_
    unfold rd_L1
    rw [Int.toNat_natCast]
    exact getD_mem l i [] hi
theorem specAlg_ev (hP : P.length ≤ 1048576 ∧ ∀ r ∈ P, r.length ≤ 1048576) (hW : Wr.length ≤ 1048576 ∧ ∀ r ∈ Wr, r.length ≤ 1048576) (hI : In.length ≤ 1048576) (hA : Ac.length ≤ 1048576) : Ev (fun k => spec_l04Ok.f k P Wr In Ac) (okAlg P Wr In Ac) := by
  unfold spec_l04Ok.f
  simp only [in_eq, Option.bind_some]
  have no : ∀ (h : ¬ OkAlg P Wr In Ac), Ev (fun k => spec_l04Ok.j0 k (Ac.length : Int) true P Wr In Ac) (okAlg P Wr In Ac) := fun h => by
    refine Ev.succ ?_
    simp only [spec_l04Ok.j0, if_true]
    exact okAlg_no h
  by_cases h1 : 1 ≤ (Ac.length : Int) ∧ (Ac.length : Int) ≤ 40
  · have h1n : 1 ≤ Ac.length ∧ Ac.length ≤ 40 := by omega
    simp only [decide_eq_true h1, if_true]
    by_cases h2 : (P.length : Int) = (Ac.length : Int)
    · have h2n : P.length = Ac.length := by omega
      simp only [if_pos h2]
      by_cases h3 : (Wr.length : Int) = 4
      · have h3n : Wr.length = 4 := by omega
        simp only [if_pos h3]
        refine Ev.bind (listA_ev In 2 (Ac.length : Int) hI (by omega) (by omega)) ?_
        cases h4 : areEl (Ac.length : Int) In 2 with
        | false => simp only [Bool.not_false]; exact no (fun h => by have := h.2.2.2.1; rw [h4] at this; cases this)
        | true =>
          simp only [Bool.not_true]
          refine Ev.succ ?_
          simp only [spec_l04Ok.j0, Bool.false_eq_true, if_false]
          have hE : okAlg P Wr In Ac = (allN P.length (fun i => areEl (Ac.length : Int) (rd_L1 P (i : Int)) (Ac.length : Int)) && (allN Wr.length (fun i => areEl (Ac.length : Int) (rd_L1 Wr (i : Int)) (Ac.length : Int)) && allN Ac.length fun i => unitB P i && allN Ac.length fun k => allN Ac.length fun j => ascB P i k j)) := by
            apply Bool.eq_iff_iff.2
            rw [Bool.and_eq_true, Bool.and_eq_true, allN_iff, allN_iff, allN_iff, rowsA_iff, rowsA_iff]
            unfold okAlg
            rw [decide_eq_true_eq]
            constructor
            · rintro ⟨-, -, -, -, ha, hb, hc⟩
              refine ⟨fun r hr => ha r (List.mem_append_left _ hr), fun r hr => ha r (List.mem_append_right _ hr), fun i hi => ?_⟩
              rw [Bool.and_eq_true]
              refine ⟨?_, allN_true fun k hk => allN_true fun j hj => ?_⟩
              · unfold unitB; rw [(hb i hi).1, (hb i hi).2]; simp
              · unfold ascB; rw [hc i hi k hk j hj]; exact beq_self_eq_true _
            · rintro ⟨ha, hb, hc⟩
              refine ⟨h1n, h2n, h3n, h4, fun r hr => (List.mem_append.1 hr).elim (ha r) (hb r), fun i hi => ?_, fun i hi k hk j hj => ?_⟩
              · have := hc i hi
                rw [Bool.and_eq_true] at this
                have h9 := this.1
                unfold unitB at h9
                rw [Bool.and_eq_true, beq_iff_eq, beq_iff_eq] at h9
                exact h9
              · have := hc i hi
                rw [Bool.and_eq_true, allN_iff] at this
                have h9 := allN_iff.1 (this.2 k hk) j hj
                unfold ascB at h9
                exact beq_iff_eq.1 h9
          rw [hE]
          have hrow : ∀ l : List (List Int), (∀ r ∈ l, r.length ≤ 1048576) → ∀ i, i < l.length → (rd_L1 l (i : Int)).length ≤ 1048576 := fun l h i hi => h _ (by unfold rd_L1; rw [Int.toNat_natCast]; exact getD_mem l i [] hi)
          refine loopB P.length (fun i k => spec_l04Ok.l0 k (Ac.length : Int) (i : Int) P Wr In Ac) (fun i => areEl (Ac.length : Int) (rd_L1 P (i : Int)) (Ac.length : Int)) ?_ ?_ _ ?_
          · intro i hi he R hR
            refine Ev.succ ?_
            simp only [spec_l04Ok.l0, if_pos (show (i : Int) < (Ac.length : Int) by omega), if_pos (i0 i), if_pos (ilt hi), up1 i (by omega)]
            refine Ev.bind (listA_ev _ _ (Ac.length : Int) (hrow P hP.2 i hi) (by omega) (by omega)) ?_
            simp only [he, if_true]
            exact hR
          · intro i hi he
            refine Ev.succ ?_
            simp only [spec_l04Ok.l0, if_pos (show (i : Int) < (Ac.length : Int) by omega), if_pos (i0 i), if_pos (ilt hi)]
            refine Ev.bind (listA_ev _ _ (Ac.length : Int) (hrow P hP.2 i hi) (by omega) (by omega)) ?_
            simp only [he, Bool.false_eq_true, if_false]
            exact Ev.now _
          · intro hall
            refine Ev.succ ?_
            simp only [spec_l04Ok.l0, if_neg (show ¬ (P.length : Int) < (Ac.length : Int) by omega)]
            have hT : Tab Ac.length P := tab_of h2n ((rowsA_iff P _).1 hall)
            refine loopB Wr.length (fun i k => spec_l04Ok.l1 k (Ac.length : Int) (i : Int) P Wr In Ac) (fun i => areEl (Ac.length : Int) (rd_L1 Wr (i : Int)) (Ac.length : Int)) ?_ ?_ _ ?_
            · intro i hi he R hR
              refine Ev.succ ?_
              simp only [spec_l04Ok.l1, if_pos (show (i : Int) < 4 by omega), if_pos (i0 i), if_pos (ilt hi), up1 i (by omega)]
              refine Ev.bind (listA_ev _ _ (Ac.length : Int) (hrow Wr hW.2 i hi) (by omega) (by omega)) ?_
              simp only [he, if_true]
              exact hR
            · intro i hi he
              refine Ev.succ ?_
              simp only [spec_l04Ok.l1, if_pos (show (i : Int) < 4 by omega), if_pos (i0 i), if_pos (ilt hi)]
              refine Ev.bind (listA_ev _ _ (Ac.length : Int) (hrow Wr hW.2 i hi) (by omega) (by omega)) ?_
              simp only [he, Bool.false_eq_true, if_false]
              exact Ev.now _
            · intro _
              refine Ev.succ ?_
              simp only [spec_l04Ok.l1, if_neg (show ¬ (Wr.length : Int) < 4 by omega)]
              exact asc_loops h1n hT
      · simp only [if_neg h3]
        exact no (fun h => h3 (by have := h.2.2.1; omega))
    · simp only [if_neg h2]
      exact no (fun h => h2 (by have := h.2.1; omega))
  · simp only [decide_eq_false h1, Bool.false_eq_true, if_false]
    exact no (fun h => h1 (by have := h.1; omega))
end
end Go.Proofs.Ytgfilbgjnloopaa.Br
namespace Go.Proofs.Ytgfilbgjnloopaa.Pure
open Go.RowKit Go.Proofs.Ytgfilbgjnloopaa.P Go.Proofs.YtgfilbgjnloopaaW.PrintWords Go.Proofs.YtgfilbgjnloopaaW.PrintLast Go.Proofs.YtgfilbgjnloopaaW.PrintMore Go.Proofs.Ytgfilbgjnloopaa.Br Go.Proofs.Ytgfilbgjnloopaa.Th
set_option linter.unusedVariables false
set_option linter.unusedSimpArgs false

theorem FnExactValidAlgebra : laws_FnExactValidAlgebra.Pure := by
  intro l0 l1 l2 l3 h0 h1 h2 h3
  refine Ev.rounds ?_
  unfold laws_FnExactValidAlgebra.f
  obtain ⟨r, hr, hr2⟩ := laws_szAlgebra_ev l0 l1 l2 l3 1048576 (by omega) (by omega) ⟨h0.1, fun x hx => (h0.2 x hx).1⟩ ⟨h1.1, fun x hx => (h1.2 x hx).1⟩ h2.1 h3.1
  refine Ev.bind hr ?_
  by_cases n0 : r < 0
  · simp only [if_pos n0]; exact Ev.now _
  simp only [if_neg n0]
  rcases hr2 with hr2 | hr2
  · exact absurd hr2 n0
  obtain ⟨_, _, s0, s1, s2, s3⟩ := hr2
  have t := laws_toAlgebra_ev l0 l1 l2 l3 s0 s1 s2 s3
  refine Ev.bind t (Ev.bind (a := okAlg l0 l1 l2 l3) ?_ (Ev.bind t ?_))
  · unfold spec_ValidAlgebra.f
    exact Ev.bind (specAlg_ev ⟨s0.1, fun x hx => s0.2 x hx⟩ ⟨s1.1, fun x hx => s1.2 x hx⟩ s2 s3) (Ev.now _)
  · simp only [impl_ValidAlgebra.f, Option.bind_some, bne_self_eq_false, Bool.false_eq_true, if_false]
    refine Ev.bind t (Ev.bind (laws_eqAlgebra_ev l0 l1 l2 l3 s0 s1 s2 s3) ?_)
    simp only [if_true]
    exact Ev.now _
end Go.Proofs.Ytgfilbgjnloopaa.Pure
namespace Go.Proofs.Ytgfilbgjnloopaa.fnExactValidAlgebra
open Go.ChangeShapes Go.WideShapes Go.ChangeAt Go.RowKit Go.Proofs.YtgfilbgjnloopaaW.PrintWords Go.Proofs.YtgfilbgjnloopaaW.PrintLast Go.Proofs.Ytgfilbgjnloopaa.P
open Go.ChangeMaps (open_string shut_string)
set_option linter.unusedVariables false
def Of (P : Program) (t : TypeId) {α : Type} (d : Kd α) (ok : α → Prop) : Prop :=
 ∀ (H : Type) (enc : TypeId × Value → H) (W : World) (n : Nat) (cs : List Value) (x : DataW H × List MemPlace), DataW.trod enc P W 0 (fun _ => true) true n t cs = some x → ∃ v, d.K W v cs ∧ ok v
def OfFs (P : Program) (off : Nat) (fs : List Field) {α : Type} (d : Kd α) (ok : α → Prop) : Prop :=
 ∀ (H : Type) (enc : TypeId × Value → H) (W : World) (n : Nat) (cs : List Value), cs.length = off + d.sz →
  (∀ f ∈ fs, ∃ y, DataW.trod enc P W 0 (fun _ => true) true n f.type ((cs.drop f.offset).take (P.cellsOf f.type)) = some y) → ∃ v, d.K W v (cs.drop off) ∧ ok v
section
variable {P : Program} {t : TypeId}
theorem of_int {k : IntKind} (ht : P.underlying t = some (.int k)) : Of P t (Kd.int k) (fun n => (Lit.int k n).wf = true) := by
 intro H enc W n cs x h
 obtain ⟨v, rfl, _, hw⟩ := DataW.trod_int ht h
 exact ⟨v, rfl, hw⟩
theorem of_bool (ht : P.underlying t = some .bool) : Of P t Kd.bool (fun _ => True) := by
 intro H enc W n cs x h
 obtain ⟨v, rfl, _⟩ := DataW.trod_bool ht h
 exact ⟨v, rfl, trivial⟩
theorem of_slice {e : TypeId} {α : Type} {d : Kd α} {ok : α → Prop} (ht : P.underlying t = some (.slice e)) (hC : P.cellsOf e = d.sz) (he : Of P e d ok) :
  Of P t (Kd.slice e d) (fun l => l.length ≤ maxLen ∧ ∀ x ∈ l, ok x) := by
 intro H enc W fuel cs x h
 rcases Go.Deep.open_slice ht h with ⟨rfl, _⟩ | ⟨a, len, cap, m, n, D, Pl, rfl, _, hl, hm, hmm, _, hi⟩
 ·exact ⟨[], ⟨none, 0, rfl, Nat.le_refl _, Kd.C_nil _ _⟩, by simp, by simp⟩
 ·have hle : len ≤ m := by rw [hmm]; simpa using hl
  have key : ∀ q, q ≤ len → ∃ l : List α, l.length = q ∧ ∀ j p, l[j]? = some p → ∃ cs', W.cells? 0 (a.add (j * d.sz)) d.sz = some cs' ∧ d.K W p cs' ∧ ok p := by
   intro q
   induction q with
   | zero => exact fun _ => ⟨[], rfl, fun j p hj => by simp at hj⟩
   | succ q ih =>
    intro hq
    obtain ⟨l, hll, hp⟩ := ih (by omega)
    obtain ⟨cs', h1, h2⟩ := hi q (by omega)
    rw [hC] at h1
    obtain ⟨v, hK, ho⟩ := he H enc W n cs' _ h2
    refine ⟨l ++ [v], by simp [hll], fun j p hj => ?_⟩
    by_cases hjl : j < l.length
    ·rw [List.getElem?_append_left hjl] at hj
     exact hp j p hj
    ·have hj2 : j = l.length := by
      have := (List.getElem?_eq_some_iff.1 hj).1
      simp at this
      omega
     subst hj2
     simp at hj
     subst hj
     exact ⟨cs', by rw [hll]; exact h1, hK, ho⟩
  obtain ⟨l, hll, hp⟩ := key len (Nat.le_refl _)
  have hlm : l.length ≤ maxLen := by rw [hll]; exact Nat.le_trans hl hm
  refine ⟨l, ⟨some a, cap, by rw [hll], by omega, ⟨rfl, hlm, fun _ => ⟨a, rfl, fun j p hj => ?_⟩⟩⟩, hlm, fun p hpm => ?_⟩
  ·obtain ⟨cs', h1, hK, _⟩ := hp j p hj
   obtain ⟨_, hlen, hat⟩ := World.cells?_some h1
   refine ⟨cs', hlen, hK, fun i u hu => ?_⟩
   have hlt : i < d.sz := by rw [← hlen]; exact (List.getElem?_eq_some_iff.1 hu).1
   rw [← Go.Deep.add_add, hat i hlt, hu]
  ·obtain ⟨j, hj⟩ := List.getElem?_of_mem hpm
   obtain ⟨_, _, _, ho⟩ := hp j p hj
   exact ho
theorem fs_one {f : Field} {off : Nat} {α : Type} {d : Kd α} {ok : α → Prop} (ho : f.offset = off) (hC : P.cellsOf f.type = d.sz) (h : Of P f.type d ok) : OfFs P off [f] d ok := by
 intro H enc W n cs hl hf
 obtain ⟨y, hy⟩ := hf f (by simp)
 rw [ho, hC, List.take_of_length_le (by simp; omega)] at hy
 exact h H enc W n _ y hy
theorem fs_more {f : Field} {fs : List Field} {off : Nat} {α β : Type} {d : Kd α} {d2 : Kd β} {ok : α → Prop} {ok2 : β → Prop} (ho : f.offset = off) (hC : P.cellsOf f.type = d.sz) (h : Of P f.type d ok) (h2 : OfFs P (off + d.sz) fs d2 ok2) :
  OfFs P off (f :: fs) (Kd.pair d d2) (fun p => ok p.1 ∧ ok2 p.2) := by
 intro H enc W n cs hl hf
 have hl' : cs.length = off + d.sz + d2.sz := hl.trans (Nat.add_assoc _ _ _).symm
 obtain ⟨y, hy⟩ := hf f (by simp)
 rw [ho, hC] at hy
 obtain ⟨v, hK, hv⟩ := h H enc W n _ y hy
 obtain ⟨v2, hK2, hv2⟩ := h2 H enc W n cs hl' (fun g hg => hf g (List.mem_cons_of_mem _ hg))
 refine ⟨(v, v2), ⟨(cs.drop off).take d.sz, cs.drop (off + d.sz), ?_, hK, hK2⟩, hv, hv2⟩
 rw [← List.drop_drop, List.take_append_drop]
theorem of_struct {fs : Array Field} {α : Type} {d : Kd α} {ok : α → Prop} (ht : P.underlying t = some (.struct fs)) (hC : P.cellsOf t = d.sz) (h : OfFs P 0 fs.toList d ok) : Of P t d ok := by
 intro H enc W fuel cs x hx
 obtain ⟨xs, n, _, _, hlen, hxl, hf⟩ := DataW.trod_struct ht hx
 refine h H enc W n cs (by omega) (fun f hfm => ?_)
 obtain ⟨j, hj⟩ := List.getElem?_of_mem hfm
 have hj2 : fs[j]? = some f := by simpa using hj
 have hlt : j < xs.length := by rw [hxl]; exact (Array.getElem?_eq_some_iff.1 hj2).1
 exact ⟨_, (hf j f hj2).trans (List.getElem?_eq_getElem hlt)⟩
end
theorem own : ownKnob Try.prog.godebug = none := by kernel_rfl
theorem laidOut : laidOutB Try.prog = true := by kernel_rfl
theorem of2 : Of Try.prog 2 (Kd.int .i64) (fun n : Int => (Lit.int .i64 n).wf = true) := of_int Try.underlying2
theorem of23 : Of Try.prog 23 (Kd.slice 2 (Kd.int .i64)) (fun l : List Int => l.length ≤ maxLen ∧ ∀ x ∈ l, (fun n : Int => (Lit.int .i64 n).wf = true) x) := of_slice Try.underlying23 (by kernel_rfl) of2
theorem of22 : Of Try.prog 22 (Kd.slice 23 (Kd.slice 2 (Kd.int .i64))) (fun l : List (List Int) => l.length ≤ maxLen ∧ ∀ x ∈ l, (fun l : List Int => l.length ≤ maxLen ∧ ∀ x ∈ l, (fun n : Int => (Lit.int .i64 n).wf = true) x) x) := of_slice Try.underlying22 (by kernel_rfl) of23
theorem of4 : Of Try.prog 4 Kd.bool (fun _ : Bool => True) := of_bool Try.underlying4
theorem of24 : Of Try.prog 24 (Kd.slice 4 Kd.bool) (fun l : List Bool => l.length ≤ maxLen ∧ ∀ x ∈ l, (fun _ : Bool => True) x) := of_slice Try.underlying24 (by kernel_rfl) of4
theorem of26t : Of Try.prog 26 (Kd.pair (Kd.slice 23 (Kd.slice 2 (Kd.int .i64))) (Kd.pair (Kd.slice 23 (Kd.slice 2 (Kd.int .i64))) (Kd.pair (Kd.slice 2 (Kd.int .i64)) (Kd.slice 4 Kd.bool)))) (fun p : ((List (List Int)) × (((List (List Int)) × (((List Int) × (List Bool)))))) => (fun l : List (List Int) => l.length ≤ maxLen ∧ ∀ x ∈ l, (fun l : List Int => l.length ≤ maxLen ∧ ∀ x ∈ l, (fun n : Int => (Lit.int .i64 n).wf = true) x) x) p.1 ∧ (fun p : ((List (List Int)) × (((List Int) × (List Bool)))) => (fun l : List (List Int) => l.length ≤ maxLen ∧ ∀ x ∈ l, (fun l : List Int => l.length ≤ maxLen ∧ ∀ x ∈ l, (fun n : Int => (Lit.int .i64 n).wf = true) x) x) p.1 ∧ (fun p : ((List Int) × (List Bool)) => (fun l : List Int => l.length ≤ maxLen ∧ ∀ x ∈ l, (fun n : Int => (Lit.int .i64 n).wf = true) x) p.1 ∧ (fun l : List Bool => l.length ≤ maxLen ∧ ∀ x ∈ l, (fun _ : Bool => True) x) p.2) p.2) p.2) := by
 refine of_struct Try.underlying26 (by kernel_rfl) ?_
 exact (fs_more (ok := (fun l : List (List Int) => l.length ≤ maxLen ∧ ∀ x ∈ l, (fun l : List Int => l.length ≤ maxLen ∧ ∀ x ∈ l, (fun n : Int => (Lit.int .i64 n).wf = true) x) x)) (ok2 := (fun p : ((List (List Int)) × (((List Int) × (List Bool)))) => (fun l : List (List Int) => l.length ≤ maxLen ∧ ∀ x ∈ l, (fun l : List Int => l.length ≤ maxLen ∧ ∀ x ∈ l, (fun n : Int => (Lit.int .i64 n).wf = true) x) x) p.1 ∧ (fun p : ((List Int) × (List Bool)) => (fun l : List Int => l.length ≤ maxLen ∧ ∀ x ∈ l, (fun n : Int => (Lit.int .i64 n).wf = true) x) p.1 ∧ (fun l : List Bool => l.length ≤ maxLen ∧ ∀ x ∈ l, (fun _ : Bool => True) x) p.2) p.2)) (by rfl) (by kernel_rfl) of22 (fs_more (ok := (fun l : List (List Int) => l.length ≤ maxLen ∧ ∀ x ∈ l, (fun l : List Int => l.length ≤ maxLen ∧ ∀ x ∈ l, (fun n : Int => (Lit.int .i64 n).wf = true) x) x)) (ok2 := (fun p : ((List Int) × (List Bool)) => (fun l : List Int => l.length ≤ maxLen ∧ ∀ x ∈ l, (fun n : Int => (Lit.int .i64 n).wf = true) x) p.1 ∧ (fun l : List Bool => l.length ≤ maxLen ∧ ∀ x ∈ l, (fun _ : Bool => True) x) p.2)) (by rfl) (by kernel_rfl) of22 (fs_more (ok := (fun l : List Int => l.length ≤ maxLen ∧ ∀ x ∈ l, (fun n : Int => (Lit.int .i64 n).wf = true) x)) (ok2 := (fun l : List Bool => l.length ≤ maxLen ∧ ∀ x ∈ l, (fun _ : Bool => True) x)) (by rfl) (by kernel_rfl) of23 (fs_one (by rfl) (by kernel_rfl) of24))))
set_option maxRecDepth 100000 in
set_option maxHeartbeats 4000000 in
theorem lifted (os : Os) (started : os.Started) (H : Type) (enc : TypeId × Value → H) :
  ReturnsInHanded {} Try.checked os 3 .any (Rows.fnExactValidAlgebraSpec.pre6 enc Try.prog Try.f3 Rows.fnExactValidAlgebraRow.domain false) (Rows.fnExactValidAlgebraSpec.post enc Try.prog Try.f3 false true false false) := by
 refine returnsInHanded_of_change_sized (C := Try.checked) own started (by kernel_rfl) Try.func3
  (ChangeSpec.witness6 (enc := enc) (C := Try.checked) false ⟨#[], #[.agg #[.slice none 0 0, .slice none 0 0, .slice none 0 0, .slice none 0 0]], []⟩ 8 (by kernel_rfl) (by kernel_rfl) (by kernel_rfl) (by kernel_rfl)) ?_
 intro W base args ds gs before hval0 hW hcnd hsz0 _
 have hval : ∀ (j : Nat) t v, Try.f3.params[j]? = some t → args[j]? = some v → Value.okWide Try.prog W .any base t v := hval0
 have hW' := hW
 obtain ⟨p, q, hA0, hV, rfl, hfz, hnd⟩ := hW
 have hA : DataW.TrodAll enc Try.prog W 0 (fun _ => true) true Try.f3.params.toList args.toList ds p := hA0
 rw [Try.params3] at hA hval
 obtain ⟨v0, vs0, d0, ds0, p0, q0, hargs, rfl, rfl, h0, r0⟩ := trodAll_cons hA
 obtain ⟨rfl, rfl, rfl⟩ := trodAll_nil r0
 obtain rfl : args = #[v0] := by cases args; simp_all
 obtain ⟨rfl, rfl⟩ := trodVars_none hV
 have k0 := h0
 have lt0 : ∀ x ∈ p0, x.block < W.heap.size := by obtain ⟨m, hm⟩ := k0; exact DataW.trod_lt m _ _ _ hm
 obtain ⟨fu0, hf0⟩ := h0
 obtain ⟨x0, hK0, ho0⟩ := of26t H enc W _ _ _ hf0
 obtain ⟨cs0, rfl, _⟩ := okWide_struct Try.underlying26 (hval 0 26 v0 rfl rfl)
 obtain ⟨_, _, hcs0, ⟨A0_0, c0_0, rfl, hc0_0, hr0_0⟩, ⟨_, _, rfl, ⟨A0_1, c0_1, rfl, hc0_1, hr0_1⟩, ⟨_, _, rfl, ⟨A0_2, c0_2, rfl, hc0_2, hr0_2⟩, ⟨A0_3, c0_3, rfl, hc0_3, hr0_3⟩⟩⟩⟩ := hK0
 obtain rfl : cs0 = #[.slice A0_0 (x0).1.length c0_0, .slice A0_1 ((x0).2).1.length c0_1, .slice A0_2 (((x0).2).2).1.length c0_2, .slice A0_3 (((x0).2).2).2.length c0_3] := by
  have hcs_ : cs0.toList = _ := hcs0
  exact Array.toList_inj.1 (hcs_.trans rfl)
 clear hA0 hval0 hsz0
 obtain ⟨k, hk⟩ := Pure.FnExactValidAlgebra ((x0).1) (((x0).2).1) ((((x0).2).2).1) ((((x0).2).2).2) ho0.1 ho0.2.1 ho0.2.2.1 ho0.2.2.2
 refine (P.laws_FnExactValidAlgebra.calls k A0_0 c0_0 ((x0).1) A0_1 c0_1 (((x0).2).1) A0_2 c0_2 ((((x0).2).2).1) A0_3 c0_3 ((((x0).2).2).2) true W hr0_0 hc0_0 hr0_1 hc0_1 hr0_2 hc0_2 hr0_3 hc0_3 hk).mono fun e W' hp => ?_
 obtain ⟨he, bel0⟩ := hp
 have bel : Below W.heap.size W W' := bel0
 subst he
 exact ⟨_, rfl, _, _, _, [], _, [], hW', trodAll_mk1 (shut_bool Try.underlying4 _), (trodAll_cons_mk (Below.trod laidOut (by kernel_rfl) (oT (by kernel_rfl)) k0 bel lt0) trodAll_mk0), rfl, bel.frame _, fun h => by cases h⟩
end Go.Proofs.Ytgfilbgjnloopaa.fnExactValidAlgebra
